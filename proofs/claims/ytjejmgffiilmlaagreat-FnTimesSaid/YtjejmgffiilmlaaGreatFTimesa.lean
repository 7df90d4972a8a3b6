/- What the functions come to, in plain numbers, texts and lists; last the law itself. No condition but those that each states. -/
import Derived.Test.YtjejmgffiilmlaaGreatPTimes
set_option linter.unusedVariables false
set_option linter.unusedSimpArgs false
set_option maxRecDepth 100000
open Array renaming toList_extract->gC,toList_append->tl,length_toList->dp
open BitVec renaming toNat->dG,and->iD,ofInt->bY,xor->kP
open Bool renaming true->ai,false->ak,and_self->aM,true_and->bG,not_true->a9,not_false->bS,and_eq_true->aF,not_eq_true'->dt,not_eq_false'->lz,false_or->kQ,true_or->xR,or_eq_true->dv,or_eq_false_iff->gL,and_eq_false_iff->Gv,and_true->qT,false_eq_true->cU,cond_eq_ite->dc,false_and->CN,and_false->Ey
open ByteArray renaming toList->aJ,data_extract->fu,data_append->k8,size_extract->vC,size_append->dn,empty_append->n7,append_assoc->AX,empty->Ei,append_empty->oY,size->fH
open Classical renaming byContradiction->xS
open Eq renaming trans->RX
open Go.ByteArray renaming toList_eq->jw
open Go.IntKind renaming i64->ao,wrap->bC,u32->dQ,u8->bc
open Go.Op renaming bytesLess->bZ
open Int renaming natCast_zero->Rg,lt_irrefl->YD,toNat->aX,neg->gD,tmod->bI,tdiv->cG,tmod_eq_emod_of_nonneg->iP,tdiv_eq_ediv_of_nonneg->fZ,pow_succ->sO,toNat_natCast->dJ,tmod_nonneg->R6,tdiv_nonneg->R5,le_trans->wZ,tdiv_le_self->Rh,emod_nonneg->q_,emod_lt_of_pos->vD,le_refl->Vt
open List renaming filter_eq_self->gb,length_filter_le->dO,length->bT,getElem_mem->bD,length_nil->iT,length_pos_iff->IQ,length_singleton->bQ,length_take->dU,take_length->gE,nil_append->fF,range->cz,drop_zero->fA,map_append->c8,length_append->bX,getD_eq_getElem?_getD->cD,getElem?_eq_getElem->lD,set->aw,length_map->bP,map_congr_left->Mi,mem_filter->dh,append_assoc->cf,pairwise_append->sP,filter_sublist->iS,singleton_append->sQ,pairwise_cons->lE,mem_append->aZ,mem_singleton->aY,filter_cons_of_pos->de,filter_cons_of_neg->ca,length_cons->cS,beq->c6,take_succ_eq_append_getElem->dq,filter_append->jl,all_eq_true->bj,mem_or_eq_of_mem_set->ly,drop_eq_nil_of_le->rj,append_nil->dH,getElem_of_mem->dr,take->lX,drop->vF,take_of_length_le->ir,getElem_take->xT,pairwise_map->jz,mem_map->cO,filter_map->Ba,map_map->kT,filter_congr->vU,pairwise_iff_getElem->db,mem_range->n8,getD->jm,length_set->c7,length_drop->eF,drop_eq_getElem_cons->dA,cons_append->zk,extract_eq_take_drop->gm,drop_drop->tv,drop_append_of_le_length->yB,drop_of_length_le->EC,find?_eq_none->o7,find?_eq_some_iff_getElem->zl,takeWhile_cons_of_pos->oH,takeWhile_cons_of_neg->oG,filter_filter->KO,foldl_cons->Bb,drop_length->dg,foldl_nil->R8,mem_of_find?_eq_some->oF,ext_getElem->ki,getElem_set_self->mP,set_getElem_self->jD,nodup_iff_pairwise_ne->n9,mem_cons_self->du,mem_append_left->bR,length_tail->Nr,mem_append_right->bH,replicate->tB,findIdx?_eq_none_iff->BT,findIdx?_eq_some_iff_getElem->vG,pairwise_singleton->Ek,find?_cons_of_neg->qH,find?_cons_of_pos->ED,foldl_append->Mg,nodup_append->dV,nodup_cons->jC,mem_cons->cq,mem_of_mem_drop->kj,map_drop->VQ,getElem_set->Nq,getElem?_append_left->dB,getElem?_append_right->cW
open List.Pairwise renaming nil->gf
open List.cons renaming inj->ue
open Nat renaming lt_irrefl->bk,le_refl->cm,zero_le->bm,add_sub_cancel->Mk,zero_add->bO,le_succ->iI,sub_self->YY,le_trans->cZ,le_succ_of_le->lY,lt_or_ge->pF
open Option renaming some->ah,none->aj,map_some->fS
open Option.some renaming inj->aD
open Prod.mk renaming inj->bN
open UInt8 renaming lt_iff_toNat_lt->qR,ofNat->au,toNat_ofNat'->Jc
open _root_ renaming List->ax,ByteArray->aq,Bool->aW,Nat->aE,Int->az,decide_true->aR,cond_true->ay,cond_false->aC,decide_false->bg,Option->aA,decide_eq_true->aG,decide_eq_false->aK,of_decide_eq_true->cg,decide_eq_decide->b9,eq_comm->E8,UInt8->Em,decide_eq_true_eq->ba,absurd->cw,decide_eq_false_iff_not->gi,if_pos->bu,if_neg->bJ,congrArg->kl,of_decide_eq_false->sZ,bne_self_eq_false->eU
namespace Go.FG
open Lib (Dm all_congr js nM zw jE fJ yJ fc gj qe Hl oP Cd Jv uM lI wH cJ kG rc0 rc1 rc2 rc3 rc4 rc5 rc6 eI H5 Xi Xj fM ej eu Qa Ew gk RE er oV lN AJ AM nF yW Ks mX AQ vn pB pC rU qt cX KC QS QT QU QV QW QX wd0 wd1 wd2 rX vt vu vv Iq Ma Yj BJ RG RH)
variable {R:Type}
namespace eQ
def has(l:ax aq)(k:aq):aW:=l.any λx=>decide (x=k)
def without(l:ax aq)(k:aq):ax aq:=l.filter λx=> !decide (x=k)
theorem fX{l:ax aq}{k:aq}:has l k=ai↔k∈l:=by unfold has;simp
theorem kV{l:ax aq}{k:aq}:has l k=ak↔k∉l:=by rw[<-fX];cases has l k<;>simp
theorem AU{l:ax aq}{k:aq}(h:has l k=ak):without l k=l:=by unfold without;rw[gb];intro x hx;have:=kV.1 h;simp;intro e;subst e;exact this hx
theorem iC{l:ax aq}{k:aq}:(without l k).length<=l.length:=dO ..
theorem qu{l:ax aq}{k:aq}(h:has l k=ai):(without l k).length<l.length:=by unfold without;refine List.length_filter_lt_length_iff_exists.2 ⟨k,fX.1 h,by simp⟩
theorem ok(l:ax aq)(k:aq)(hl:l.length<=4294967296):c (Lib.rs l) k=ai/\v (Lib.rs l) k=has l k:=by
 refine out _ _ ?_;unfold vo b
 have:=zw l (λx=>decide (x=k)) (λm (i:aE)=>l2 Lib.cR (λ(_:aU) (_:aq) (y6:aW) (_:az)=>ah y6) (λ(_:aU) (_:aq) (_:aW) (_:az)=>ah ak) m (Lib.rs l) k ak (i:az)) (ah ai) (ah ak)
  (λm i h hp=>by simp only[l2,r2,er,Lib.dE,h,aR,Lib.cT,aM,ay,Lib.eD,RE h,bM,Lib.fB,hp])
  (λm i h hp=>by simp only[l2,r2,er,Lib.dE,h,aR,Lib.cT,aM,ay,Lib.eD,RE h,bM,Lib.fB,hp,aC,Lib.dm h (by omega:l.length<=9223372036854775807)])
  (λm=>by simp only[l2,r2,er,Lib.dE,bk,bg,aC]) Lib.cR (cJ (by omega))
 refine this.trans ?_;unfold has;cases l.any λx=>decide (x=k)<;>rfl
end eQ

namespace tG
theorem ok(l:aU)(hl:l.length<=4294967296):c l=ai/\v l=l:=by refine out l ?_;unfold vo b;rw[show bT (aN [Ck.i ao] 0)+l.length=l.length by simp[aN],Lib.cF (by omega) (by omega)];rfl
end tG

namespace iK
open Lib (rr)
def oc(s:ax (ax az)):Prop:=s.length<=1048576/\∀q∈s,q.length<=1048576
theorem run(N:aE)(K0:aU->az->az->az->az->aA R)(K1:aU->az->az->az->az->aU->aA R)(s:ax (ax az))(z a:az)(hf:oc s)(m:aE)(hm:s.length+1<m)(kr:aU->aA R)
  (h0:s=[]->K0 (rr s) 0 0 z a=kr []) (h1:K1 (rr s) s.length s.length z a (rr s)=kr (rr s)):l3 N K0 K1 m (rr s) (s.length:az) 0 z a=kr (rr s):=by
 obtain⟨m,rfl⟩:∃m',m=m'+1:=⟨m-1,by omega⟩
 have ZL:∀i (h:i<s.length),tG.c (Lib.ri s[i])=ai/\tG.v (Lib.ri s[i])=Lib.ri s[i]:=λi h=>tG.ok _ (by rw[Lib.fV];have:=hf.2 _ (bD h);omega);by_cases hs:s=[]
 ·subst hs;simp only[l3,r3,iT,Rg,YD,bg,aC];exact h0 rfl
 ·have hp:0<s.length:=IQ.2 hs;have key:=lI (R:=R) s.length (λm i (x:aU)=>qP N K0 K1 m (rr s) (s.length:az) (i:az) z a x) (λi=>rr (s.take i)) (kr (rr s)) (λm i h=>by
   have hl:=hf.1;simp only[qP,wM,Lib.dE,h,aR,ay,Lib.cT,bG,gk,Lib.eD,Ew h,g9,(ZL i h).1,(ZL i h).2,oV,bQ];rw[Lib.cF (by rw[dU];omega) (by rw[dU];omega),ay,Lib.dm h (by omega)];have:=nF (λq=>[CV.l 3 (Lib.ri q)]) s i h;unfold rr;rw[<-this]) (λm=>by
   simp only[qP,wM,Lib.dE,bk,bg,aC,gE];exact h1) m 1 hp (by omega)
  simp only[l3,r3,aG (show(0:az)<(s.length:az)by omega),ay,aM,gk,show decide ((0:az)<=0)=ai from rfl];have e:=ZL 0 hp;have e0:=Ew (l:=s) hp;simp only[show aX 0=0 from rfl,e0,g9,e.1,e.2,ay,oV,fF];rw[show bE (0+1)=((1:aE):az)from rfl];refine RX ?_ key;have:=nF (λq=>[CV.l 3 (Lib.ri q)]) s 0 hp;unfold rr;rw[show(0+1)=1 from rfl]at this;rw[<-this];rfl
theorem ok(s:ax (ax az))(a:az)(hf:oc s):c (rr s) a=ai/\v (rr s) a=(rr s,a):=by refine out _ _ ?_;unfold vo b;rw[gk];exact run Lib.cR (λ_ _ _ _ y=>ah ([],y)) (λ_ _ _ _ xO Q3=>ah (Q3,xO)) s 0 a hf Lib.cR (cJ (by have:=hf.1;omega)) (λx=>ah (x,a)) (λ_=>rfl) rfl
end iK

namespace eW
open Lib (rr)
def JS(n:az):aW:=decide (0<=n/\n<=15)
def qE(q:ax az):aW:=decide (q.length=16)&&q.all JS
def jK(s:ax (ax az))(a:az):aW:=decide (s.length=3)&&(decide (0<=a/\a<=63)&&s.all qE)
theorem eH(n a b:az):jV.v n a b=decide (a<=n/\n<=b):=by
 unfold jV.v;by_cases h1:a<=n
 ·rw[aG (show n≥a from h1),ay];by_cases h2:n<=b<;>simp[h1,h2]
 ·rw[aK (show¬n≥a from h1),aC];simp[h1]
theorem ok(s:ax (ax az))(a:az)(hf:iK.oc s):c (rr s) a=ai/\v (rr s) a=jK s a:=by
 refine out _ _ ?_;unfold vo b jK;rw[gk];by_cases h3:¬s.length=3
 ·rw[show((s.length:az) !=3)=ai by simp;omega,aK h3];rfl
 have h3:s.length=3:=Decidable.not_not.1 h3;rw[show((s.length:az) !=3)=ak by simp;omega,aG h3,aC,eH];cases h4:decide (0<=a/\a<=63)with
 |false=>rfl
 |true=>
  rw[a9,aC,bG,bG];have inner:∀i (h:i<s.length) (K0 K1:aW->az->az->aU->az->aA aW) (kf kt:aA aW) (h0:∀j:az,K0 ak i j (rr s) a=kf) (h1:∀j:az,K1 ak i j (rr s) a=kt),l9 Lib.cR K0 K1 Lib.cR ak (i:az) 0 (rr s) a=bif(s[i]).all JS then kt else kf:=λi h K0 K1 kf kt h0 h1=>
   nM (s[i]) JS (λm (j:aE)=>l9 Lib.cR K0 K1 m ak (i:az) (j:az) (rr s) a) kf kt
    (λm j hj hp=>by have hl:=hf.2 _ (bD h);unfold JS at hp;simp only[l9,r9,gk,Lib.dE,h,aR,Lib.cT,aM,ay,Lib.eD,Ew h,g9,Lib.fV,hj,Qa hj,bU,eH,hp,a9,aC,Lib.dm hj (by omega:s[i].length<=9223372036854775807)])
    (λm j hj hp=>by unfold JS at hp;simp only[l9,r9,gk,Lib.dE,h,aR,Lib.cT,aM,ay,Lib.eD,Ew h,g9,Lib.fV,hj,Qa hj,bU,eH,hp,bS,h0])
    (λm=>by simp only[l9,r9,gk,Lib.dE,h,aR,Lib.cT,aM,ay,Lib.eD,Ew h,g9,Lib.fV,bk,bg,aC,h1]) Lib.cR (cJ (by have:=hf.2 _ (bD h);omega))
  have key:=nM s qE (λm (i:aE)=>l4 Lib.cR (λ(KE:aW) (_:az) (_:aU) (_:az)=>ah KE) (λ(_:aW) (_:az) (_:aU) (_:az)=>ah ai) m ak (i:az) (rr s) a) (ah ak) (ah ai)
   (λm i h hp=>by unfold qE at hp;rw[aF]at hp;have hl:=cg hp.1;simp only[l4,r4,gk,Lib.dE,h,aR,Lib.cT,aM,ay,Lib.eD,Ew h,g9,Lib.fV,hl,show(((16:aE):az) !=16)=ak from rfl,aC];rw[inner i h _ _ _ _ (λ_=>rfl) (λ_=>rfl),hp.2,ay,Lib.dm h (by omega)])
   (λm i h hp=>by
    unfold qE at hp;by_cases hl:s[i].length=16
    ·rw[aG hl,bG]at hp;simp only[l4,r4,gk,Lib.dE,h,aR,Lib.cT,aM,ay,Lib.eD,Ew h,g9,Lib.fV,hl,show(((16:aE):az) !=16)=ak from rfl,aC];rw[inner i h _ _ _ _ (λ_=>rfl) (λ_=>rfl),hp,aC]
    ·simp only[l4,r4,gk,Lib.dE,h,aR,Lib.cT,aM,ay,Lib.eD,Ew h,g9,Lib.fV,show((s[i].length:az) !=16)=ai by simp;omega])
   (λm=>by simp only[l4,r4,gk,Lib.dE,bk,bg,aC]) Lib.cR (cJ (by omega))
  refine key.trans ?_;cases s.all qE<;>rfl
end eW

namespace iV
open Lib (rr rs)
open eQ (has without fX kV)
def eh(k:aq):aW:=decide (1<=(k.size:az)/\(k.size:az)<=30)
def HH(l:ax aq)(i:aE):aW:=eh (l.getD i ⟨#[]⟩)&& !has (l.take i) (l.getD i ⟨#[]⟩)
def mj(l:ax aq):aW:=(cz l.length).all (HH l)
def oT(w m:ax aq)(s:ax (ax az))(a:az):aW:=mj (w++m)&&(decide (w.length<=2)&&(decide (m.length<=4)&&eW.jK s a))
theorem iB(k:aq):EK.v k=eh k:=eW.eH _ _ _
theorem vp(l:ax aq)(i:aE):dW (Lib.rs l) (aX 0) i=Lib.rs (l.take i):=by unfold dW Lib.rs;rw[show aX 0=0 from rfl,fA,Nat.sub_zero,List.map_take]
theorem ok(w m:ax aq)(s:ax (ax az))(a:az)(hw:w.length<=1048576)(hm:m.length<=1048576)(hf:iK.oc s):c (rs w) (rs m) (rr s) a=ai/\v (rs w) (rs m) (rr s) a=oT w m s a:=by
 refine out _ _ _ _ ?_;have h2:=eW.ok s a hf;unfold vo b;have r1:cy (bT (aN [Ck.s] 0)+bT (rs w)) 16=true:=Lib.cF (by simp[aN,er];omega) (by simp[aN,er];omega);have r2:cy (bT (aN [Ck.s] 0++rs w)+bT (rs m)) 16=true:=Lib.cF (by simp[aN,er];omega) (by simp[aN,er];omega);have e:aN [Ck.s] 0++rs w++rs m=rs (w++m):=by rw[show aN [Ck.s] 0++rs w=rs w from rfl];unfold Lib.rs;rw[c8]
 rw[r1,r2,ay,ay,e];have hl:(w++m).length<=2097152:=by rw[bX];omega
 have gO:∀i,i<(w++m).length->eQ.c (rs ((w++m).take i)) ((w++m).getD i ⟨#[]⟩)=ai/\eQ.v (rs ((w++m).take i)) ((w++m).getD i ⟨#[]⟩)=has ((w++m).take i) ((w++m).getD i ⟨#[]⟩):=λi hi=>eQ.ok _ _ (by rw[dU];omega);have hk:∀i (hi:i<(w++m).length),bM (ar (rs (w++m)) i 0)=(w++m).getD i ⟨#[]⟩:=λi hi=>by rw[RE hi,show(w++m).getD i ⟨#[]⟩=(w++m)[i]by rw[cD,lD hi];rfl];rfl
 generalize hL:w++m=L at hl gO hk
 have key:=js (HH L) L.length (λn (i:aE)=>l3 Lib.cR (λ(y7:aW) (_:az) (_ _ _:aU) (_:az) (_:aU)=>ah y7) (λ(_:aW) (_:az) (Yl RI Q2:aU) (KE:az) (_:aU)=>bif(decide ((↑(bT Yl):az)<=2))then(bif(decide ((↑(bT RI):az)<=4))then(bif(eW.c Q2 KE)then(ah (eW.v Q2 KE))else(aj))else(ah ak))else(ah ak)) n ak (i:az) (rs w) (rs m) (rr s) a (rs L)) (ah ak) (ah (decide (w.length<=2)&&(decide (m.length<=4)&&eW.jK s a)))
  (λn i hi hp=>by
   unfold HH at hp;rw[aF,dt]at hp;have b1:iy 0 (i:az) (L.length:az)=true:=by simp[iy];omega
   simp only[l3,r3,er,Lib.dE,hi,aR,Lib.cT,aM,ay,Lib.eD,hk i hi,iB,hp.1,a9,aC,b1,vp,(gO i hi).1,(gO i hi).2,hp.2,Lib.dm hi (by omega:L.length<=9223372036854775807)])
  (λn i hi hp=>by
   have b1:iy 0 (i:az) (L.length:az)=true:=by simp[iy];omega
   unfold HH at hp;cases h1:eh (L.getD i ⟨#[]⟩)with
   |false=>simp only[l3,r3,er,Lib.dE,hi,aR,Lib.cT,aM,ay,Lib.eD,hk i hi,iB,h1,bS]
   |true=>rw[h1,bG,lz]at hp;simp only[l3,r3,er,Lib.dE,hi,aR,Lib.cT,aM,ay,Lib.eD,hk i hi,iB,h1,a9,aC,b1,vp,(gO i hi).1,(gO i hi).2,hp])
  (λn=>by simp only[l3,r3,er,Lib.dE,bk,bg,aC,h2.1,h2.2,ay];rw[show decide ((w.length:az)<=2)=decide (w.length<=2)by rw[b9];omega,show decide ((m.length:az)<=4)=decide (m.length<=4)by rw[b9];omega];cases decide (w.length<=2)<;>cases decide (m.length<=4)<;>rfl) Lib.cR (cJ (by omega))
 refine key.trans ?_;unfold oT mj;rw[hL];cases (cz L.length).all (HH L)<;>rfl
end iV

namespace ry
open Lib (rr rs)
open eQ (has)
theorem ok(w m:ax aq)(s:aU)(a:az)(k:aq)(hw:w.length<=1048576)(hm:m.length<=1048576):c (rs w) (rs m) s a k=ai/\v (rs w) (rs m) s a k=(has w k||has m k):=by have h1:=eQ.ok w k (by omega);have h2:=eQ.ok m k (by omega);exact out _ _ _ _ _ (by unfold vo b;rw[h1.1,h1.2,h2.1,h2.2,ay,ay];cases has w k<;>rfl)
end ry

namespace mC
open Lib (rr rs re el rX vt vu vv En)
open eQ (has)
open iV (oT)
def sV(e:En):aW:=h_.v e.k e.st e.li e.bo
def Ep(en:ax En)(w m:ax aq)(i:aE):aW:=
 sV (el en i)&&((decide (i=0)||Go.Op.bytesLess (aJ (el en (i-1)).k) (aJ (el en i).k))&&(has w (el en i).k||has m (el en i).k))
def Jo(en:ax En)(w m:ax aq)(s:ax (ax az))(a:az):aW:=(cz en.length).all (Ep en w m)&&(oT w m s a&&decide (w.length+m.length=en.length))
theorem ok(i0:az)(en:ax En)(w m:ax aq)(s:ax (ax az))(a:az)(r6 r7:aU)(i8:az)(he:en.length<=1048576)(hw:w.length<=1048576)(hm:m.length<=1048576)(hf:iK.oc s):
  c i0 (re en) (rs w) (rs m) (rr s) a r6 r7 i8=ai/\v i0 (re en) (rs w) (rs m) (rr s) a r6 r7 i8=Jo en w m s a:=by
 refine out _ _ _ _ _ _ _ _ _ ?_;have h1:=iV.ok w m s a hw hm hf;have h2:=λk=>ry.ok w m (rr s) a k hw hm;unfold vo b
 have key:=js (Ep en w m) en.length (λn (i:aE)=>l2 Lib.cR (λ(xN:aW) (_ _:az) (_ _ _ _:aU) (_:az) (_ _:aU) (_:az)=>ah xN) (λ(_:aW) (_ _:az) (y25 Vc Iu RJ:aU) (RK:az) (_ _:aU) (_:az)=>bif(iV.c Vc Iu RJ RK)then(bif(iV.v Vc Iu RJ RK)then(ah (decide ((↑(bT y25):az)=bE ((↑(bT Vc):az)+(↑(bT Iu):az)))))else(ah ak))else(aj)) n ak (i:az) i0 (re en) (rs w) (rs m) (rr s) a r6 r7 i8) (ah ak) (ah (oT w m s a&&decide (w.length+m.length=en.length)))
  (λn i hi hp=>by
   unfold Ep sV at hp;rw[aF,aF]at hp;obtain⟨p1,p2,p3⟩:=hp;by_cases hz:i=0
   ·subst hz;simp only[l2,r2,ej,Lib.dE,hi,aR,Lib.cT,aM,ay,Lib.eD,rX hi,vt hi,vu hi,vv hi,bM,bU,p1,a9,aC,aK (show¬(((0:aE):az)>0)by omega),(h2 _).1,(h2 _).2,p3,Lib.dm hi (by omega:en.length<=9223372036854775807)]
   ·rw[aK hz,kQ]at p2;have jr:i-1<en.length:=by omega
    simp only[l2,r2,ej,Lib.dE,hi,aR,Lib.cT,aM,ay,Lib.eD,rX hi,vt hi,vu hi,vv hi,bM,bU,p1,a9,aC,aG (show(i:az)>0 by omega),kG (show 0<i by omega) (by omega),jr,rX jr,p2,(h2 _).1,(h2 _).2,p3,Lib.dm hi (by omega:en.length<=9223372036854775807)])
  (λn i hi hp=>by
   unfold Ep sV at hp;cases p1:h_.v (el en i).k (el en i).st (el en i).li (el en i).bo with
   |false=>simp only[l2,r2,ej,Lib.dE,hi,aR,Lib.cT,aM,ay,Lib.eD,rX hi,vt hi,vu hi,vv hi,bM,bU,p1,bS]
   |true=>
    rw[p1,bG]at hp;by_cases hz:i=0
    ·subst hz;rw[aG rfl,xR,bG]at hp;simp only[l2,r2,ej,Lib.dE,hi,aR,Lib.cT,aM,ay,Lib.eD,rX hi,vt hi,vu hi,vv hi,bM,bU,p1,a9,bS,aC,aK (show¬(((0:aE):az)>0)by omega),(h2 _).1,(h2 _).2,hp]
    ·rw[aK hz,kQ]at hp;have jr:i-1<en.length:=by omega
     cases p2:bZ (aJ (el en (i-1)).k) (aJ (el en i).k)with
     |false=>simp only[l2,r2,ej,Lib.dE,hi,aR,Lib.cT,aM,ay,Lib.eD,rX hi,vt hi,vu hi,vv hi,bM,bU,p1,a9,bS,aC,aG (show(i:az)>0 by omega),kG (show 0<i by omega) (by omega),jr,rX jr,p2]
     |true=>rw[p2,bG]at hp;simp only[l2,r2,ej,Lib.dE,hi,aR,Lib.cT,aM,ay,Lib.eD,rX hi,vt hi,vu hi,vv hi,bM,bU,p1,a9,bS,aC,aG (show(i:az)>0 by omega),kG (show 0<i by omega) (by omega),jr,rX jr,p2,(h2 _).1,(h2 _).2,hp])
  (λn=>by simp only[l2,r2,ej,Lib.dE,bk,bg,aC,h1.1,h1.2,ay,er];rw[cX (x:=(w.length:az)+(m.length:az)) (by omega) (by omega),show decide ((en.length:az)=(w.length:az)+(m.length:az))=decide (w.length+m.length=en.length)by rw[b9];omega];cases oT w m s a<;>rfl) Lib.cR (cJ (by omega))
 refine key.trans ?_;unfold Jo;cases (cz en.length).all (Ep en w m)<;>rfl
end mC

namespace nr
open Lib (rf el Iq Ma Yj BJ RG RH Fe)
open iV (eh)
def m8(now:az)(f:Fe):aW:=eh f.k&&(decide ((f.t.size:az)<=400)&&(decide (1<=f.sta/\f.sta<=3)&&(decide (0<=f.li/\f.li<=999999)&&decide (0<=f.st/\f.st<=now))))
def ll(f g:Fe):aW:=decide (f.sta=1)&&(decide (g.sta=1)&&decide (f.k=g.k))
def apart(fe:ax Fe)(i:aE):aW:=(cz i).all λj=> !ll (el fe i) (el fe j)
theorem eH(n a b:az):jV.v n a b=decide (a<=n/\n<=b):=eW.eH n a b
theorem ok(i0:az)(r1 r2 r3 r4:aU)(i5:az)(fe:ax Fe)(r7:aU)(i8:az)(i:aE)(hi:i<fe.length)(hf:fe.length<=1048576):
  c i0 r1 r2 r3 r4 i5 (rf fe) r7 i8 (i:az)=ai/\v i0 r1 r2 r3 r4 i5 (rf fe) r7 i8 (i:az)=(m8 i0 (el fe i)&&apart fe i):=by
 refine out _ _ _ _ _ _ _ _ _ _ ?_;unfold vo b
 have key:=js (λj=> !ll (el fe i) (el fe j)) i (λn (j:aE)=>l5 Lib.cR (λ(_:az) (Q2:aW) (_ _:az) (_ _ _ _:aU) (_:az) (_ _:aU) (_:az) (_ _:aq) (_ _ _:az)=>ah Q2) (λ(_:az) (_:aW) (_ _:az) (_ _ _ _:aU) (_:az) (_ _:aU) (_:az) (_ _:aq) (_ _ _:az)=>ah ai) n (i:az) ak (j:az) i0 r1 r2 r3 r4 i5 (rf fe) r7 i8 (el fe i).k (el fe i).t (el fe i).sta (el fe i).li (el fe i).st) (ah ak) (ah ai)
  (λn j hj hp=>by
   have jt:j<fe.length:=by omega
   rw[dt]at hp;unfold ll at hp;have e:decide ((el fe j).k=(el fe i).k)=decide ((el fe i).k=(el fe j).k):=by rw[b9];exact E8
   simp only[l5,r5,Lib.dE,hj,aR,Lib.cT,aM,ay,Lib.eD,eu,jt,Iq jt,BJ jt,bM,bU,Lib.fB,e,Lib.dm hj (by omega:i<=9223372036854775807)];revert hp;cases decide ((el fe i).k=(el fe j).k)<;>cases decide ((el fe j).sta=1)<;>cases decide ((el fe i).sta=1)<;>intro hp<;>first|rfl|cases hp)
  (λn j hj hp=>by
   have jt:j<fe.length:=by omega
   rw[lz]at hp;unfold ll at hp;rw[aF,aF]at hp;have e:decide ((el fe j).k=(el fe i).k)=decide ((el fe i).k=(el fe j).k):=by rw[b9];exact E8
   simp only[l5,r5,Lib.dE,hj,aR,Lib.cT,aM,ay,Lib.eD,eu,jt,Iq jt,BJ jt,bM,bU,Lib.fB,e,hp.1,hp.2.1,hp.2.2])
  (λn=>by simp only[l5,r5,Lib.dE,bk,bg,aC]) Lib.cR (cJ (by omega))
 simp only[eu,Lib.dE,hi,aR,Lib.cT,aM,ay,Lib.eD,Iq hi,Ma hi,Yj hi,RG hi,RH hi,bM,bU,eH,iV.iB];rw[show l5 Lib.cR _ _ Lib.cR (i:az) ak 0 i0 r1 r2 r3 r4 i5 (rf fe) r7 i8 (el fe i).k (el fe i).t (el fe i).sta (el fe i).li (el fe i).st=_ from key];unfold m8 apart;rw[show decide (((el fe i).t.size:az)>400)= !decide (((el fe i).t.size:az)<=400)by rw[<-decide_not,b9];omega];cases eh (el fe i).k<;>cases decide (((el fe i).t.size:az)<=400)<;>cases decide (1<=(el fe i).sta/\(el fe i).sta<=3)<;>cases decide (0<=(el fe i).li/\(el fe i).li<=999999)<;>cases decide (0<=(el fe i).st/\(el fe i).st<=i0)<;>cases (cz i).all (λj=> !ll (el fe i) (el fe j))<;>rfl
end nr

namespace s8
open Lib (rr rs re rf rc el En Fe Cl Px KC QS QT QU QV QW QX)
open iV (eh)
open mC (Jo)
open nr (m8 apart eH)
def Eo(now:az)(nf:aE)(cl:ax Cl)(i:aE):aW:=
 decide (1<=(el cl i).id/\(el cl i).id<=9)&&((decide (i=0)||decide ((el cl (i-1)).id<(el cl i).id))&&(eh (el cl i).k&&(decide (1<=(el cl i).sta/\(el cl i).sta<=3)&&(decide (0<=(el cl i).fe/\(el cl i).fe<=(nf:az))&&(decide (((el cl i).got.size:az)<=400)&&(decide (0<=(el cl i).fr/\(el cl i).fr<=now)&&decide (0<=(el cl i).age)))))))
def kY(p:Px):aW:=
 decide (1<=p.now/\p.now<=1000000000)&&(Jo p.en p.w p.m p.s p.a&&(decide (p.fe.length<=20)&&(decide (p.cl.length<=6)&&(decide (0<=p.hits/\p.hits<=1000000000)&&((cz p.fe.length).all (λi=>m8 p.now (el p.fe i)&&apart p.fe i)&&(cz p.cl.length).all (Eo p.now p.fe.length p.cl))))))
theorem step(N:aE)(g k0 k1:aW->az->az->aU->aU->aU->aU->az->aU->aU->az->aA R)(i0:az)(q1 q2 q3 q4:aU)(i5:az)(fe:ax Fe)(cl:ax Cl)(i8:az)(i:aE)(hi:i<cl.length)(hl:cl.length<=1048576):
  r9 N g k0 k1 ak (i:az) i0 q1 q2 q3 q4 i5 (rf fe) (rc cl) i8=bif Eo i0 fe.length cl i then g ak ((i+1:aE):az) i0 q1 q2 q3 q4 i5 (rf fe) (rc cl) i8 else k0 ak (i:az) i0 q1 q2 q3 q4 i5 (rf fe) (rc cl) i8:=by
 unfold Eo;have e1:decide (((el cl i).got.size:az)>400)= !decide (((el cl i).got.size:az)<=400):=by rw[<-decide_not,b9];omega
 have e2:decide ((el cl i).age<0)= !decide (0<=(el cl i).age):=by rw[<-decide_not,b9];omega
 by_cases hz:i=0
 ·subst hz;simp only[r9,eI,eu,Lib.dE,hi,aR,Lib.cT,aM,ay,Lib.eD,KC hi,QS hi,QT hi,QU hi,QV hi,QW hi,QX hi,bM,bU,eH,iV.iB,aK (show¬(((0:aE):az)>0)by omega),aC,e1,e2,Lib.dm hi (by omega:cl.length<=9223372036854775807),xR,bG];cases decide (1<=(el cl 0).id/\(el cl 0).id<=9)<;>cases eh (el cl 0).k<;>cases decide (1<=(el cl 0).sta/\(el cl 0).sta<=3)<;>cases decide (0<=(el cl 0).fe/\(el cl 0).fe<=(fe.length:az))<;>cases decide (((el cl 0).got.size:az)<=400)<;>cases decide (0<=(el cl 0).fr/\(el cl 0).fr<=i0)<;>cases decide (0<=(el cl 0).age)<;>rfl
 ·have jr:i-1<cl.length:=by omega
  have e3:decide ((el cl (i-1)).id≥(el cl i).id)= !decide ((el cl (i-1)).id<(el cl i).id):=by rw[<-decide_not,b9];omega
  simp only[r9,eI,eu,Lib.dE,hi,aR,Lib.cT,aM,ay,Lib.eD,KC hi,QS hi,QT hi,QU hi,QV hi,QW hi,QX hi,bM,bU,eH,iV.iB,aG (show(i:az)>0 by omega),kG (show 0<i by omega) (by omega),jr,KC jr,aC,e1,e2,e3,Lib.dm hi (by omega:cl.length<=9223372036854775807),aK hz,kQ];cases decide (1<=(el cl i).id/\(el cl i).id<=9)<;>cases decide ((el cl (i-1)).id<(el cl i).id)<;>cases eh (el cl i).k<;>cases decide (1<=(el cl i).sta/\(el cl i).sta<=3)<;>cases decide (0<=(el cl i).fe/\(el cl i).fe<=(fe.length:az))<;>cases decide (((el cl i).got.size:az)<=400)<;>cases decide (0<=(el cl i).fr/\(el cl i).fr<=i0)<;>cases decide (0<=(el cl i).age)<;>rfl
theorem ok(p:Px)(hp:p.Fit 1048576):c p.now (re p.en) (rs p.w) (rs p.m) (rr p.s) p.a (rf p.fe) (rc p.cl) p.hits=ai/\v p.now (re p.en) (rs p.w) (rs p.m) (rr p.s) p.a (rf p.fe) (rc p.cl) p.hits=kY p:=by
 refine out _ _ _ _ _ _ _ _ _ ?_;have h1:=mC.ok p.now p.en p.w p.m p.s p.a (rf p.fe) (rc p.cl) p.hits hp.en hp.w hp.m ⟨hp.s.1,hp.s.2.1⟩;have Oq:=hp.fe;have nT:=hp.cl;unfold vo b;have h2:=λi hi=>nr.ok p.now (re p.en) (rs p.w) (rs p.m) (rr p.s) p.a p.fe (rc p.cl) p.hits i hi Oq
 have kc:=λ(n:aE) (hn:p.cl.length<n)=>js (Eo p.now p.fe.length p.cl) p.cl.length (λn (i:aE)=>l9 Lib.cR (λ(Me:aW) (_ _:az) (_ _ _ _:aU) (_:az) (_ _:aU) (_:az)=>ah Me) (λ(_:aW) (_ _:az) (_ _ _ _:aU) (_:az) (_ _:aU) (_:az)=>ah ai) n ak (i:az) p.now (re p.en) (rs p.w) (rs p.m) (rr p.s) p.a (rf p.fe) (rc p.cl) p.hits) (ah ak) (ah ai)
  (λn i hi hq=>by simp only[l9];rw[step _ _ _ _ _ _ _ _ _ _ _ _ _ i hi nT,hq];rfl)
  (λn i hi hq=>by simp only[l9];rw[step _ _ _ _ _ _ _ _ _ _ _ _ _ i hi nT,hq];rfl)
  (λn=>by simp only[l9,r9,eI,Lib.dE,bk,bg,aC]) n hn
 have kf:=js (λi=>m8 p.now (el p.fe i)&&apart p.fe i) p.fe.length (λn (i:aE)=>l4 Lib.cR (λ(xN:aW) (_ _:az) (_ _ _ _:aU) (_:az) (_ _:aU) (_:az)=>ah xN) (λ(Q4:aW) (_ y24:az) (y25 Vc Iu RJ:aU) (RK:az) (RM My:aU) (Md:az)=>l9 Lib.cR (λ(Me:aW) (_ _:az) (_ _ _ _:aU) (_:az) (_ _:aU) (_:az)=>ah Me) (λ(_:aW) (_ _:az) (_ _ _ _:aU) (_:az) (_ _:aU) (_:az)=>ah ai) Lib.cR Q4 0 y24 y25 Vc Iu RJ RK RM My Md) n ak (i:az) p.now (re p.en) (rs p.w) (rs p.m) (rr p.s) p.a (rf p.fe) (rc p.cl) p.hits) (ah ak) (ah ((cz p.cl.length).all (Eo p.now p.fe.length p.cl)))
  (λn i hi hq=>by simp only[l4,r4,eu,Lib.dE,hi,aR,ay,(h2 i hi).1,(h2 i hi).2,hq,a9,aC,Lib.dm hi (by omega:p.fe.length<=9223372036854775807)])
  (λn i hi hq=>by simp only[l4,r4,eu,Lib.dE,hi,aR,ay,(h2 i hi).1,(h2 i hi).2,hq,bS])
  (λn=>by simp only[l4,r4,eu,Lib.dE,bk,bg,aC];refine(kc Lib.cR (cJ (by omega))).trans ?_;cases (cz p.cl.length).all (Eo p.now p.fe.length p.cl)<;>rfl) Lib.cR (cJ (by omega))
 rw[eH,eH,h1.1,h1.2,ay,eu,eI];rw[show l4 Lib.cR _ _ Lib.cR ak 0 p.now (re p.en) (rs p.w) (rs p.m) (rr p.s) p.a (rf p.fe) (rc p.cl) p.hits=_ from kf];unfold kY;rw[show decide ((p.fe.length:az)>20)= !decide (p.fe.length<=20)by rw[<-decide_not,b9];omega,show decide ((p.cl.length:az)>6)= !decide (p.cl.length<=6)by rw[<-decide_not,b9];omega];cases decide (1<=p.now/\p.now<=1000000000)<;>cases Jo p.en p.w p.m p.s p.a<;>cases decide (p.fe.length<=20)<;>cases decide (p.cl.length<=6)<;>cases decide (0<=p.hits/\p.hits<=1000000000)<;>cases (cz p.fe.length).all (λi=>m8 p.now (el p.fe i)&&apart p.fe i)<;>cases (cz p.cl.length).all (Eo p.now p.fe.length p.cl)<;>rfl
end s8

namespace e8
theorem nC:∀x:ax Em,bZ x x=ak
 |[]=>rfl
 |a::x=>by
  have h:¬a<a:=by rw[qR];omega
  simp[bZ,nC x,h]
theorem pe:∀x y z:ax Em,bZ x y=ai->bZ y z=ai->bZ x z=ai
 |_,[],_,h,_=>by cases ‹ax Em›<;>simp[bZ]at h
 |_,_::_,[],_,h=>by simp[bZ]at h
 |[],_::_,_::_,_,_=>by simp[bZ]
 |a::x,b::y,c::z,h1,h2=>by
  simp only[bZ,dv,aF,ba,beq_iff_eq]at h1 h2⊢;simp only[qR]at h1 h2⊢;rcases h1 with h1|⟨rfl,h1⟩
  ·rcases h2 with h2|⟨rfl,h2⟩
   ·left;omega
   ·left;exact h1
  ·rcases h2 with h2|⟨rfl,h2⟩
   ·left;exact h2
   ·right;exact⟨rfl,pe x y z h1 h2⟩
theorem NQ:∀x y:ax Em,bZ x y=ak->x≠y->bZ y x=ai
 |[],[],_,h=>cw rfl h
 |[],_::_,h,_=>by simp[bZ]at h
 |_::_,[],_,_=>by simp[bZ]
 |a::x,b::y,h,hn=>by
  simp only[bZ,gL,Gv,gi,beq_eq_false_iff_ne]at h;simp only[bZ,dv,aF,ba,beq_iff_eq];obtain⟨h1,h2⟩:=h;by_cases he:a=b
  ·subst he;right;refine⟨rfl,NQ x y ?_ (λe=>hn (by rw[e]))⟩
   rcases h2 with h2|h2
   ·exact cw rfl h2
   ·exact h2
  ·left;rw[qR]at h1⊢;have:a.toNat≠b.toNat:=λe=>he (UInt8.toNat_inj.1 e);omega
def key(y:ax CV):ax Em:=aJ (bM (y.getD 0 (.b ak)))
def lt(y z:ax CV):Prop:=bZ (key y) (key z)=ai
def cr(y:ax CV):ax CV:=[CV.s (bM (y.getD 0 (.b ak))),CV.i ao (bU (y.getD 1 (.b ak))),CV.i ao (bU (y.getD 2 (.b ak))),CV.s (bM (y.getD 3 (.b ak)))]
def nw(k:aq)(s l:az)(b:aq):ax CV:=[CV.s k,CV.i ao s,CV.i ao l,CV.s b]
def pl(k:aq)(y:ax CV):aW:=bZ (key y) (aJ k)
def pg(k:aq)(y:ax CV):aW:= !(bZ (key y) (aJ k)||List.beq (key y) (aJ k))
def val(r:aU)(k:aq)(s l:az)(b:aq):aU:=(r.filter (pl k)).map cr++[nw k s l b]++(r.filter (pg k)).map cr
theorem ok(r:aU)(k:aq)(s l:az)(b0:aq)(hl:r.length<=1048576):c r k s l b0=ai/\v r k s l b0=val r k s l b0:=by
 refine out r k s l b0 ?_;unfold vo;have hw:∀i,i<r.length->bE ((i:az)+1)=((i+1:aE):az):=λi h=>Lib.dm h (by omega)
 have anD:=λ(acY:aU) (ha:acY.length<=2000000)=>uM (pg k) cr r 2000000
  (λm (i:aE) (acc:aU)=>l9 Lib.cR (λ(_:aU) (_:az) (_:aq) (_ _:az) (_:aq) (Iu:aU)=>ah Iu) m r (i:az) k s l b0 acc) (λacc=>ah acc)
  (λm i acc h h2 hp=>by
   have mL:(!(bZ (aJ (bM (ar r i 0))) (aJ k)||List.beq (aJ (bM (ar r i 0))) (aJ k)))=true:=by rw[Lib.da h];exact hp
   simp only[l9,r9,Lib.dE,h,aR,Lib.cT,aM,ay,Lib.eD,mL,hw i h,Lib.lL,bQ,Lib.cF (n:=acc.length+1) (b:=48) (by omega) (by omega)];have e:[CV.s (bM (ar r i 0)),CV.i ao (bU (ar r i 1)),CV.i ao (bU (ar r i (1+1))),CV.s (bM (ar r i (1+1+1)))]=cr r[i]:=by rw[Lib.da h,Lib.da h,Lib.da h,Lib.da h];rfl
   rw[e])
  (λm i acc h h2 hp=>by
   have mL:(!(bZ (aJ (bM (ar r i 0))) (aJ k)||List.beq (aJ (bM (ar r i 0))) (aJ k)))=false:=by rw[Lib.da h];exact hp
   simp only[l9,r9,Lib.dE,h,aR,Lib.cT,aM,ay,Lib.eD,mL,aC,hw i h])
  (λm acc=>by simp only[l9,r9,Lib.dE,bk,bg,aC]) Lib.cR acY ha (cJ (by omega))
 have gW:=uM (pl k) cr r 0
  (λm (i:aE) (acc:aU)=>l3 Lib.cR (λ(y7:aU) (_:az) (y9:aq) (Mc xN:az) (Q1:aq) (Gs:aU)=>bif(cy (bT Gs+bT (aw (aN [Ck.s,Ck.i ao,Ck.i ao,Ck.s] 1) 0 [CV.s y9,CV.i ao Mc,CV.i ao xN,CV.s Q1])) 48)then(l9 Lib.cR (λ(_:aU) (_:az) (_:aq) (_ _:az) (_:aq) (Iu:aU)=>ah Iu) Lib.cR y7 0 y9 Mc xN Q1 (Gs++aw (aN [Ck.s,Ck.i ao,Ck.i ao,Ck.s] 1) 0 [CV.s y9,CV.i ao Mc,CV.i ao xN,CV.s Q1]))else(aj)) m r (i:az) k s l b0 acc)
  (λacc=>bif(cy (bT acc+1) 48)then(l9 Lib.cR (λ(_:aU) (_:az) (_:aq) (_ _:az) (_:aq) (Iu:aU)=>ah Iu) Lib.cR r 0 k s l b0 (acc++[nw k s l b0]))else aj)
  (λm i acc h h2 hp=>by
   have mL:bZ (aJ (bM (ar r i 0))) (aJ k)=true:=by rw[Lib.da h];exact hp
   simp only[l3,r3,Lib.dE,h,aR,Lib.cT,aM,ay,Lib.eD,mL,hw i h,Lib.lL,bQ,Lib.cF (n:=acc.length+1) (b:=48) (by omega) (by omega)];have e:[CV.s (bM (ar r i 0)),CV.i ao (bU (ar r i 1)),CV.i ao (bU (ar r i (1+1))),CV.s (bM (ar r i (1+1+1)))]=cr r[i]:=by rw[Lib.da h,Lib.da h,Lib.da h,Lib.da h];rfl
   rw[e])
  (λm i acc h h2 hp=>by
   have mL:bZ (aJ (bM (ar r i 0))) (aJ k)=false:=by rw[Lib.da h];exact hp
   simp only[l3,r3,Lib.dE,h,aR,Lib.cT,aM,ay,Lib.eD,mL,aC,hw i h])
  (λm acc=>by simp only[l3,r3,Lib.dE,bk,bg,aC];rfl) Lib.cR [] (cm _) (cJ (by omega))
 unfold b;refine gW.trans ?_;have hf:((r.filter (pl k)).map cr).length<=r.length:=by rw[bP];exact dO _ _
 rw[fF,Lib.cF (by omega) (by omega),ay];exact anD _ (by rw[bX,bQ];omega)
def Or(r:aU):Prop:=r.Pairwise lt/\∀y∈r,cr y=y
theorem DR{r:aU}(h:∀y∈r,cr y=y)(q:ax CV->aW):(r.filter q).map cr=r.filter q:=by have:=Mi (l:=r.filter q) (f:=cr) (g:=λz=>z) (λy hy=>h y (dh.1 hy).1);rw[this];exact List.map_id _
theorem uU{r:aU}(h:Or r)(k:aq)(s l:az)(b:aq):Or (val r k s l b)/\(val r k s l b).length<=r.length+1:=by
 unfold val;rw[DR h.2,DR h.2];have hg:∀y,pg k y=ai->bZ (aJ k) (key y)=true:=by intro y hy;unfold pg at hy;simp only[dt,gL]at hy;refine NQ _ _ hy.1 (λe=> ?_);have:=hy.2;rw[e,Lib.pc]at this;cases this
 refine⟨⟨?_, ?_⟩, ?_⟩
 ·rw[cf,sP];refine⟨h.1.sublist iS, ?_, ?_⟩
  ·rw[sQ,lE];exact⟨λy hy=>hg y (dh.1 hy).2,h.1.sublist iS⟩
  ·intro y hy z hz;have h1:bZ (key y) (aJ k)=true:=(dh.1 hy).2;rcases aZ.1 hz with q|q
   ·rw[aY.1 q];exact h1
   ·exact pe _ _ _ h1 (hg z (dh.1 q).2)
 ·intro y hy;rcases aZ.1 hy with q|q
  ·rcases aZ.1 q with q|q
   ·exact h.2 y (dh.1 q).1
   ·rw[aY.1 q];rfl
  ·exact h.2 y (dh.1 q).1
 ·have hlen:∀r:aU,(r.filter (pl k)).length+(r.filter (pg k)).length<=r.length:=by
   intro r;induction r with
   |nil=>exact cm _
   |cons y r ih=>
    have hx:pl k y=ai->pg k y=false:=by intro h;unfold pl at h;unfold pg;rw[h];rfl
    cases h1:pl k y with
    |true=>rw[de h1,ca (by rw[hx h1];simp)];simp only[cS];omega
    |false=>
     rw[ca (by simp[h1])];cases h2:pg k y with
     |true=>rw[de h2];simp only[cS];omega
     |false=>rw[ca (by simp[h2])];simp only[cS];omega
  have:=hlen r;simp only[bX,bQ];omega
end e8

namespace tI
def p(s:aU)(k:aq)(i:aE):aW:=c6 (aJ (bM (ar s i 0))) (aJ k)
theorem ok(d:aU)(n:aq)(hl:d.length<=4294967296):c d n=ai/\v d n=Lib.fi (p d n) d.length 0:=by
 refine out d n ?_;unfold vo b;refine oP (p d n) d.length (λm (i:aE)=>l2 Lib.cR (λ(_:aU) (_:aq) (y7 _ _:az)=>ah y7) (λ(_:aU) (_:aq) (_ _ _:az)=>ah (-1)) m d n 0 (d.length:az) (i:az)) ah (λm i hi hp=> ?_) (λm i hi hp=> ?_) (λm=> ?_) Lib.cR (cJ (by omega))
 ·unfold p at hp;simp only[l2,r2,Lib.dE,Lib.cT,Lib.eD,hi,aR,aM,ay,Be.v,hp]
 ·unfold p at hp;simp only[l2,r2,Lib.dE,Lib.cT,Lib.eD,hi,aR,aM,ay,Be.v,hp,aC,Lib.dm hi (by omega:d.length<=9223372036854775807)]
 ·simp only[l2,r2,Lib.dE,bk,bg,aC]
end tI

namespace o9
def cn(y:ax CV):aW:=match y with|[.s _, .i .i64 _, .i .i64 _, .s _]=>ai|_=>ak
def cr(y:ax CV):ax CV:=[CV.s (bM (y.getD 0 (.b ak))),CV.i ao (bU (y.getD 1 (.b ak))),CV.i ao (bU (y.getD 2 (.b ak))),CV.s (bM (y.getD 3 (.b ak)))]
theorem E2{y:ax CV}(h:cn y=ai):cr y=y:=by
 unfold cn at h;split at h
 ·rfl
 ·cases h
theorem tR{y:ax CV}(h:cn y=ai):y.length=4:=by rw[<-E2 h];rfl
def keep(d:aq)(y:ax CV):aW:= !List.beq (aJ (bM (y.getD 0 (.b ak)))) (aJ d)
theorem mH(d:aq){s:aU}{i:aE}(h:i<s.length):(s.take (i+1)).filter (keep d)=(s.take i).filter (keep d)++(bif keep d s[i]then [s[i]]else []):=by rw[dq h,jl];cases hk:keep d s[i]<;>simp[hk]
theorem run(N:aE)(s0:aU)(d:aq)(hc:s0.all cn=ai)(hn:s0.length<=9223372036854775807)(K:aq->az->az->aU->aA R)(kr:aU->aA R)
  (hK:∀(j:aE) x,x.length=s0.length->j<=s0.length->K d j s0.length x=kr (x.take j)) (m j i:aE) (x:aU)
  (hi:j<i/\i<=s0.length/\x.length=s0.length/\(∀y∈x,y.length=4)/\x.take j=(s0.take i).filter (keep d)/\x.drop i=s0.drop i) (hm:s0.length-i<m):
  l5 N K m d j i x=kr (s0.filter (keep d)):=by
 have ZJ:∀y∈s0,cn y=true:=bj.1 hc
 refine Lib.gv (λm (s:aE×aE×aU)=>l5 N K m d s.1 s.2.1 s.2.2) (λs=>s0.length-s.2.1)
  (λs=>s.1<s.2.1/\s.2.1<=s0.length/\s.2.2.length=s0.length/\(∀y∈s.2.2,y.length=4)/\s.2.2.take s.1=(s0.take s.2.1).filter (keep d)/\s.2.2.drop s.2.1=s0.drop s.2.1)
  (λ_=>kr (s0.filter (keep d))) (λm s hs=> ?_) m (j,i,x) hi hm
 obtain⟨j,i,x⟩:=s;obtain⟨h1,h2,h3,h4,h5,h6⟩:=hs;simp only at h1 h2 h3 h4 h5 h6⊢;by_cases gO:i<s0.length
 ·right;have vJ:i<x.length:=by omega
  have S6:j<x.length:=by omega
  have hx:x[i]=s0[i]:=by have e1:=Lib.gV vJ;have e2:=Lib.gV gO;rw[h6,e2]at e1;exact(ue e1).1.symm
  have hd:x.drop (i+1)=s0.drop (i+1):=by have e1:=Lib.gV vJ;have e2:=Lib.gV gO;rw[h6,e2]at e1;exact(ue e1).2.symm
  have ZN:=ZJ _ (bD gO);have hf:=mH d gO;cases hk:keep d s0[i]with
  |true=>
   refine⟨(j+1,i+1,x.set j s0[i]), ?_,by simp only;omega,trivial, ?_⟩
   ·rw[hk,ay,<-h5]at hf;refine⟨by simp only;omega,by simp only;omega,by simpa using h3, ?_, ?_, ?_⟩
    ·intro y hy;rcases ly hy with h|h
     ·exact h4 y h
     ·rw[h];exact tR ZN
    ·rw[hf];rw[dq (by simpa using S6)];simp[List.take_set_of_le]
    ·simp only;rw[List.drop_set_of_lt (by omega)];exact hd
   ·have e:Be.v (bM (ar x i 0)) (bU (ar x i 1)) (bU (ar x i (1+1))) (bM (ar x i (1+1+1))) d=false:=by
     have:(!Be.v (bM (ar x i 0)) (bU (ar x i 1)) (bU (ar x i (1+1))) (bM (ar x i (1+1+1))) d)=true:=by rw[Lib.da vJ,hx];exact hk
     simpa using this
    have es:eA x j 0 [CV.s (bM (ar x i 0)),CV.i ao (bU (ar x i 1)),CV.i ao (bU (ar x i (1+1))),CV.s (bM (ar x i (1+1+1)))]=x.set j s0[i]:=by
     have hl:=h4 _ (bD S6);rw[Lib.Ka S6,Lib.da vJ,Lib.da vJ,Lib.da vJ,Lib.da vJ,hx];have:iH x[j] 0 (cr s0[i])=s0[i]:=by rw[E2 ZN];unfold iH;have:=tR ZN;simp[hl,this,rj]
     unfold cr at this;rw[this]
    have b1:(j:az)<(x.length:az):=by omega
    simp only[l5,r5,Lib.dE,Lib.cT,Lib.eD,vJ,S6,aR,bG,ay,e,bS,es,Lib.dm gO hn,Lib.dm (show j<s0.length by omega) hn]
  |false=>
   refine⟨(j,i+1,x), ?_,by simp only;omega,trivial, ?_⟩
   ·rw[hk,aC,dH,<-h5]at hf;exact⟨by simp only;omega,by simp only;omega,h3,h4,hf.symm,hd⟩
   ·have e:Be.v (bM (ar x i 0)) (bU (ar x i 1)) (bU (ar x i (1+1))) (bM (ar x i (1+1+1))) d=true:=by
     have:(!Be.v (bM (ar x i 0)) (bU (ar x i 1)) (bU (ar x i (1+1))) (bM (ar x i (1+1+1))) d)=false:=by rw[Lib.da vJ,hx];exact hk
     simpa using this
    simp only[l5,r5,Lib.dE,Lib.cT,Lib.eD,vJ,aR,bG,ay,e,a9,aC,Lib.dm gO hn]
 ·left;have:i=s0.length:=by omega
  subst this;rw[gE]at h5;have e:=hK j x h3 (by omega);rw[h5]at e;have vJ:¬s0.length<x.length:=by omega
  simp only[l5,r5,Lib.dE,vJ,bg,aC,e]
theorem ok(s0:aU)(nO:aq)(hc:s0.all cn=ai)(hn:s0.length<=4294967296):c s0 nO=ai/\v s0 nO=s0.filter (keep nO):=by
 refine out s0 nO ?_;have hv:=tI.ok s0 nO hn;unfold vo b;rw[hv.1,hv.2,ay];rcases Lib.rI (tI.p s0 nO) s0.length 0 with ⟨h,od⟩|⟨k,_,xE,hk,ZV,ZI⟩
 ·rw[h];have:s0.filter (keep nO)=s0:=by rw[gb];intro y hy;obtain⟨i,hi,rfl⟩:=dr hy;have:=od i (bm _) (by omega);unfold tI.p at this;rw[Lib.da hi]at this;unfold keep;rw[this];rfl
  rw[this];rfl
 ·rw[hk];have Wb:k<s0.length:=by omega
  have iq:decide ((k:az)=gD 1)=false:=aK (by show¬(k:az)= -1;omega);rw[iq,aC,Lib.dm Wb (by omega)];have ZJ:∀y∈s0,cn y=true:=bj.1 hc;refine run _ s0 nO hc (by omega) _ ah (λj x hx hj=> ?_) _ k (k+1) s0 ⟨by omega,by omega,rfl,λy hy=>tR (ZJ y hy), ?_,rfl⟩ (cJ (by omega))
  ·have b1:iy (j:az) (s0.length:az) (s0.length:az)=true:=by simp[iy];omega
   have e:lX j x++aN [Ck.s,Ck.i ao,Ck.i ao,Ck.s] (s0.length-j)++vF s0.length x=lX j x++aN [Ck.s,Ck.i ao,Ck.i ao,Ck.s] (s0.length-j):=by rw[rj (by omega),dH]
   have hl:(lX j x).length=j:=by simp;omega
   simp only[hx,Lib.eD,b1,ay,e];rw[Lib.zE (by simp[iy];omega)];unfold dW;rw[show aX 0=0 from rfl,fA,Nat.sub_zero,List.take_append_of_le_length (by omega),ir (by omega)]
  ·rw[mH nO Wb];have e1:keep nO s0[k]=false:=by unfold tI.p at ZV;rw[Lib.da Wb]at ZV;unfold keep;rw[ZV];rfl
   have e2:(s0.take k).filter (keep nO)=s0.take k:=by
    rw[gb];intro y hy;obtain⟨i,hi,rfl⟩:=dr hy;have hik:i<k:=by simp at hi;omega
    have:=ZI i (bm _) hik;unfold tI.p at this;rw[Lib.da (by omega)]at this;rw[xT];unfold keep;rw[this];rfl
   rw[e1,e2,aC,dH]
end o9

namespace ik
open Lib (re En)
def ff(x y:aq):aW:=bZ (aJ x) (aJ y)
def So(en:ax En):Prop:=en.Pairwise λx y=>ff x.k y.k=ai
def fK(en:ax En)(k:aq):ax En:=en.filter λx=> !decide (x.k=k)
def mo(en:ax En)(e:En):ax En:=en.filter (λx=>ff x.k e.k)++[e]++en.filter (λx=> !(ff x.k e.k||decide (x.k=e.k)))
theorem So.drop{en:ax En}(h:So en)(k:aq):So (fK en k):=List.Pairwise.filter _ h
theorem zK(en:ax En)(k:aq):(fK en k).length<=en.length:=dO ..
theorem drop_nil{en:ax En}(h:∀e∈en,1<=e.k.size):fK en ⟨#[]⟩=en:=by unfold fK;rw[gb];intro e he;have:=h e he;simp only[dt,gi];intro e2;rw[e2]at this;exact cw this (by decide)
theorem Cv{en:ax En}(h:So en):e8.Or (re en):=by
 constructor
 ·unfold Lib.re;rw[jz];exact h
 ·intro y hy;unfold Lib.re at hy;obtain⟨z,_,rfl⟩:=cO.1 hy;rfl
theorem tZ(en:ax En)(e:En):e8.val (re en) e.k e.st e.li e.bo=re (mo en e):=by
 unfold e8.val mo Lib.re;rw[Ba,Ba,kT,kT,c8,c8];have e1:(e8.pl e.k∘En.row)=λx:En=>ff x.k e.k:=rfl;have e2:(e8.pg e.k∘En.row)=λx:En=> !(ff x.k e.k||decide (x.k=e.k)):=by funext x;show(!(bZ (aJ x.k) (aJ e.k)||List.beq (aJ x.k) (aJ e.k)))=_;rw[Lib.fB];rfl
 rw[e1,e2];rfl
theorem SC(en:ax En)(k:aq):(re en).filter (o9.keep k)=re (fK en k):=by unfold Lib.re fK;rw[Ba];congr 1;apply vU;intro x _;show(!List.beq (aJ x.k) (aJ k))=_;rw[Lib.fB]
theorem ac2(en:ax En):(re en).all o9.cn=true:=by rw[bj];intro y hy;unfold Lib.re at hy;obtain⟨z,_,rfl⟩:=cO.1 hy;rfl
theorem sG(en:ax En)(e:En)(h:So en):(mo en e).length<=en.length+1:=by have:=(e8.uU (Cv h) e.k e.st e.li e.bo).2;rw[tZ,ej,ej]at this;exact this
end ik

namespace sL
open Lib (Px Cl Fe En el)
open eQ (has fX)
open iV (eh oT)
open mC (sV Ep Jo)
open nr (m8 ll apart)
open s8 (Eo kY)
open ik (So ff)
def GA(now:az)(nf:aE)(c:Cl):aW:=
 decide (1<=c.id/\c.id<=9)&&(eh c.k&&(decide (1<=c.sta/\c.sta<=3)&&(decide (0<=c.fe/\c.fe<=(nf:az))&&(decide ((c.got.size:az)<=400)&&(decide (0<=c.fr/\c.fr<=now)&&decide (0<=c.age))))))
structure gh (p:Px):Prop where
 now:1<=p.now/\p.now<=1000000000
 en:∀e∈p.en,sV e=ai
 so:So p.en
 ek:∀e∈p.en,e.k∈p.w\/e.k∈p.m
 pol:oT p.w p.m p.s p.a=ai
 len:p.w.length+p.m.length=p.en.length
 fl:p.fe.length<=20
 fe:∀f∈p.fe,m8 p.now f=ai
 ap:p.fe.Pairwise λf g=>ll g f=ak
 cll:p.cl.length<=6
 cl:∀c∈p.cl,GA p.now p.fe.length c=ai
 cs:p.cl.Pairwise λc d=>c.id<d.id
 hits:0<=p.hits/\p.hits<=1000000000
theorem PV{α:Type}(R:α->α->Prop)(tr:∀x y z,R x y->R y z->R x z)(l:ax α)(h:∀i (hi:i+1<l.length),R (l[i]) (l[i+1])):l.Pairwise R:=by
 rw[db];have adj:∀d i (hi:i+d+1<l.length),R (l[i]) (l[i+d+1]):=by
  intro d;induction d with
  |zero=>intro i hi;exact h i hi
  |succ d ih=>intro i hi;exact tr _ _ _ (ih i (by omega)) (h (i+d+1) (by omega))
 intro i j hi hj Lf;have:=adj (j-i-1) i (by omega);simp only[show i+(j-i-1)+1=j by omega]at this;exact this
theorem HJ(x y z:aq)(a:ff x y=ai)(b:ff y z=ai):ff x z=true:=e8.pe _ _ _ a b
theorem afm{p:Px}(h:kY p=ai):gh p:=by
 obtain⟨h1,h2,h3,h4,h5,h6,h7⟩:_/\_/\_/\_/\_/\_/\_:=by unfold kY at h;simpa only[aF,ba,bj,n8]using h
 obtain⟨g1,g2,g3⟩:_/\_/\_:=by unfold Jo at h2;simpa only[aF,ba,bj,n8]using h2
 have e1:∀i (hi:i<p.en.length),sV p.en[i]=ai/\(0<i->ff (el p.en (i-1)).k p.en[i].k=ai)/\(p.en[i].k∈p.w\/p.en[i].k∈p.m):=λi hi=>by have:=g1 i hi;unfold Ep at this;simp only[aF,dv,ba,fc hi,fX]at this;exact⟨this.1,λh0=>this.2.1.resolve_left (by omega),this.2.2⟩
 have c1:∀i (hi:i<p.cl.length),GA p.now p.fe.length p.cl[i]=ai/\(0<i->(el p.cl (i-1)).id<p.cl[i].id):=λi hi=>by have:=h7 i hi;unfold Eo at this;unfold GA;simp only[aF,dv,ba,fc hi]at this⊢;exact⟨⟨this.1,this.2.2⟩,λh0=>this.2.1.resolve_left (by omega)⟩
 have f1:∀i (hi:i<p.fe.length),m8 p.now p.fe[i]=ai/\∀j (hj:j<i),ll p.fe[i] (p.fe[j]'(by omega))=false:=λi hi=>by
  have:=h6 i hi;unfold apart at this;simp only[bj,n8,fc hi]at this;refine⟨this.1,λj hj=> ?_⟩
  have h:=this.2 j hj;rw[fc (show j<p.fe.length by omega)]at h;simpa using h
 refine⟨h1,λe he=> ?_, ?_,λe he=> ?_,g2,g3,h3,λf hf=> ?_, ?_,h4,λc hc=> ?_, ?_,h5⟩
 ·obtain⟨i,hi,rfl⟩:=dr he;exact(e1 i hi).1
 ·refine PV (λx y:En=>ff x.k y.k=ai) (λx y z a b=>HJ _ _ _ a b) p.en λi hi=> ?_;have:=(e1 (i+1) hi).2.1 (by omega);rw[Mk,fc (show i<p.en.length by omega)]at this;exact this
 ·obtain⟨i,hi,rfl⟩:=dr he;exact(e1 i hi).2.2
 ·obtain⟨i,hi,rfl⟩:=dr hf;exact(f1 i hi).1
 ·rw[db];intro i j hi hj Lf;exact(f1 j hj).2 i Lf
 ·obtain⟨i,hi,rfl⟩:=dr hc;exact(c1 i hi).1
 ·refine PV (λc d:Cl=>c.id<d.id) (λx y z a b=>Int.lt_trans a b) p.cl λi hi=> ?_;have:=(c1 (i+1) hi).2 (by omega);rw[Mk,fc (show i<p.cl.length by omega)]at this;exact this
theorem aen{p:Px}(h:gh p):kY p=true:=by
 unfold kY Jo;simp only[aF,ba,bj,n8];refine⟨h.now,⟨λi hi=> ?_,h.pol,h.len⟩,h.fl,h.cll,h.hits,λi hi=>⟨?_, ?_⟩,λi hi=> ?_⟩
 ·unfold Ep;simp only[aF,dv,ba,fc hi,fX];refine⟨h.en _ (bD hi), ?_,h.ek _ (bD hi)⟩
  by_cases h0:i=0
  ·exact .inl h0
  ·right;rw[fc (show i-1<p.en.length by omega)];exact db.1 h.so (i-1) i (by omega) hi (by omega)
 ·rw[fc hi];exact h.fe _ (bD hi)
 ·unfold apart;simp only[bj,n8];intro j hj;rw[fc hi,fc (show j<p.fe.length by omega),db.1 h.ap j i (by omega) hi hj];rfl
 ·have hc:=h.cl _ (bD hi);unfold GA at hc;unfold Eo;simp only[aF,dv,ba,fc hi]at hc⊢;refine⟨hc.1, ?_,hc.2⟩
  by_cases h0:i=0
  ·exact .inl h0
  ·right;rw[fc (show i-1<p.cl.length by omega)];exact db.1 h.cs (i-1) i (by omega) hi (by omega)
theorem qk{p:Px}:kY p=ai↔gh p:=⟨afm,aen⟩
end sL

namespace bK
def I(q:aU)(a:az):Prop:=0<=a/\a<=(q.length:az)/\q.length<=1048576
theorem Eu(x:BitVec 64):0<=bE ((dG (iD x (bY 64 255)):aE):az)/\bE ((dG (iD x (bY 64 255)):aE):az)<=255:=by
 have h:dG (iD x (bY 64 255))<=255:=by have e:dG (iD x (bY 64 255))=x.toNat&&&255:=BitVec.toNat_and x (bY 64 255);rw[e];exact Nat.and_le_right
 rw[cX (by omega) (by omega)];omega
theorem ok(q:aU)(a s:az)(hI:I q a):∃n a' s',c q a s=ai/\v q a s=(n,q,a',s')/\I q a'/\0<=n/\n<=255:=by
 obtain⟨h0,h1,h2⟩:=hI;by_cases h:a<(q.length:az)
 ·have hw:bE (a+1)=a+1:=cX (by omega) (by omega);have hvo:∃n s',vo q a s=ah (n,q,a+1,s')/\0<=n/\n<=255:=by unfold vo b;rw[aG h,aG h0,ay,aM,ay,hw];exact⟨_,_,rfl,Eu _⟩
  obtain⟨n,s',hv,hr⟩:=hvo;obtain⟨e1,e2⟩:=out q a s hv;exact⟨n,a+1,s',e1,e2,⟨by omega,by omega,h2⟩,hr⟩
 ·have hvo:∃n s',vo q a s=ah (n,q,a,s')/\0<=n/\n<=255:=by unfold vo b;rw[aK h,aC];exact⟨_,_,rfl,Eu _⟩
  obtain⟨n,s',hv,hr⟩:=hvo;obtain⟨e1,e2⟩:=out q a s hv;exact⟨n,a,s',e1,e2,⟨h0,h1,h2⟩,hr⟩
end bK

namespace eS
def el(r:aU)(i:aE):aW:=decide (1<=((bM (ar r i 0)).size:az)/\((bM (ar r i 0)).size:az)<=8)&&(!decide (((bM (ar r i 1)).size:az)>20000)&&(decide (0<=bU (ar r i 2)/\bU (ar r i 2)<=((bM (ar r i 1)).size:az))&&(i==0||Go.Op.bytesLess (aJ (bM (ar r (i-1) 0))) (aJ (bM (ar r i 0))))))
def val(r:aU):aW:=decide (r.length<=30)&&(cz r.length).all (el r)
theorem mM(n a b:az):jV.v n a b=decide (a<=n/\n<=b):=by unfold jV.v;by_cases h:a<=n<;>by_cases h2:n<=b<;>simp[h,h2]
theorem CJ{i:aE}(h:0<i)(hn:i<=9223372036854775807):bE ((i:az)-1)=((i-1:aE):az):=by rw[cX (by omega) (by omega)];omega
theorem ok(r:aU)(hl:r.length<=4294967296):c r=ai/\v r=val r:=by
 refine out r ?_;unfold vo b val;by_cases h30:(r.length:az)>30
 ·rw[aG h30,ay,aK (show¬r.length<=30 by omega)];rfl
 rw[aK h30,aC,aG (show r.length<=30 by omega),bG]
 have key:=js (el r) r.length (λm (i:aE)=>l4 Lib.cR (λ(y3:aW) (_:az) (_:aU)=>ah y3) (λ(_:aW) (_:az) (_:aU)=>ah ai) m ak (i:az) r) (ah ak) (ah ai)
  (λm i hi hp=>by
   unfold el at hp;simp only[aF]at hp;obtain⟨h1,h2,h3,h4⟩:=hp;have h3:decide (0<=bU (ar r i (1+1))/\bU (ar r i (1+1))<=((bM (ar r i 1)).size:az))=true:=h3;have h2:decide (((bM (ar r i 1)).size:az)>20000)=false:=by simpa using h2
   by_cases hz:0<i
   ·have e0:decide ((i:az)>0)=true:=aG (by omega);have mL:i-1<r.length:=by omega
    have h5:bZ (aJ (bM (ar r (i-1) 0))) (aJ (bM (ar r i 0)))=true:=by
     rcases dv _ _▸h4 with q|q
     ·have:i=0:=by simpa using q
      omega
     ·exact q
    simp only[l4,r4,Lib.dE,hi,mL,aR,Lib.cT,aM,ay,aC,Lib.eD,tH.v,mM,h1,h2,h3,h5,e0,CJ hz (by omega),a9,Lib.dm hi (by omega:r.length<=9223372036854775807)]
   ·have e0:decide ((i:az)>0)=false:=aK (by omega);simp only[l4,r4,Lib.dE,hi,aR,Lib.cT,aM,ay,aC,Lib.eD,tH.v,mM,h1,h2,h3,e0,a9,Lib.dm hi (by omega:r.length<=9223372036854775807)])
  (λm i hi hp=>by
   unfold el at hp;cases h1:decide (1<=((bM (ar r i 0)).size:az)/\((bM (ar r i 0)).size:az)<=8)with
   |false=>simp only[l4,r4,Lib.dE,hi,aR,Lib.cT,aM,ay,aC,Lib.eD,tH.v,mM,h1,bS]
   |true=>
   cases h2:decide (((bM (ar r i 1)).size:az)>20000)with
   |true=>simp only[l4,r4,Lib.dE,hi,aR,Lib.cT,aM,ay,aC,Lib.eD,tH.v,mM,h1,h2,a9]
   |false=>
   cases h3:decide (0<=bU (ar r i (1+1))/\bU (ar r i (1+1))<=((bM (ar r i 1)).size:az))with
   |false=>simp only[l4,r4,Lib.dE,hi,aR,Lib.cT,aM,ay,aC,Lib.eD,tH.v,mM,h1,h2,h3,a9,bS]
   |true=>
   rw[h1,h2,show decide (0<=bU (ar r i 2)/\bU (ar r i 2)<=((bM (ar r i 1)).size:az))=ai from h3,bS,bG,bG,bG]at hp;rw[gL]at hp;obtain⟨h4,h5⟩:=hp;have hz:0<i:=by
    have:¬i=0:=by simpa using h4
    omega
   have e0:decide ((i:az)>0)=true:=aG (by omega);have mL:i-1<r.length:=by omega
   simp only[l4,r4,Lib.dE,hi,mL,aR,Lib.cT,aM,ay,aC,Lib.eD,tH.v,mM,h1,h2,h3,h5,e0,CJ hz (by omega),a9,bS])
  (λm=>by simp only[l4,r4,Lib.dE,bk,bg,aC]) Lib.cR (cJ (by omega))
 refine key.trans ?_;cases (cz r.length).all (el r)<;>rfl
end eS

namespace oA
def cn(y:ax CV):aW:=match y with|[.s _, .s _, .i .i64 _]=>ai|_=>ak
def cr(y:ax CV):ax CV:=[CV.s (bM (y.getD 0 (.b ak))),CV.s (bM (y.getD 1 (.b ak))),CV.i ao (bU (y.getD 2 (.b ak)))]
def keep(d:aq)(y:ax CV):aW:= !List.beq (aJ (bM (y.getD 0 (.b ak)))) (aJ d)
end oA

namespace eg
open Lib (rd el Fi)
def SoD(l:ax Fi):Prop:=l.Pairwise λx y=>ik.ff x.n y.n=ai
def without(l:ax Fi)(n:aq):ax Fi:=l.filter λx=> !decide (x.n=n)
def put(l:ax Fi)(f:Fi):ax Fi:=l.filter (λx=>ik.ff x.n f.n)++[f]++l.filter (λx=> !(ik.ff x.n f.n||decide (x.n=f.n)))
def m8(f:Fi):aW:=decide (1<=(f.n.size:az)/\(f.n.size:az)<=8)&&(!decide ((f.t.size:az)>20000)&&decide (0<=f.kp/\f.kp<=(f.t.size:az)))
def tV(l:ax Fi):aW:=eS.val (rd l)
theorem irrefl(x:aq):ik.ff x x=false:=e8.nC _
theorem jZ{l:ax Fi}:tV l=ai↔l.length<=30/\(∀f∈l,m8 f=ai)/\SoD l:=by
 unfold tV eS.val;rw[aF,ba,bj,fM];have e:∀i (h:i<l.length),eS.el (rd l) i=(m8 l[i]&&(i==0||ik.ff (l.getD (i-1) default).n l[i].n)):=λi h=>by
  unfold eS.el m8 ik.ff;rw[H5 h,Xi h,show ar (rd l) i 2=CV.i ao l[i].kp from Xj h,H5 (show i-1<l.length by omega)];have h5:l.getD (i-1) default=l[i-1]:=by simp[jm,show i-1<l.length by omega]
  rw[h5];simp only[bM,bU,Bool.and_assoc];rfl
 constructor
 ·rintro ⟨h1,h2⟩;have h3:∀i (h:i<l.length),m8 l[i]=ai/\(i=0\/ik.ff (l.getD (i-1) default).n l[i].n=ai):=λi h=>by have:=h2 i (by simpa using h);rw[e i h,aF,dv]at this;exact⟨this.1,this.2.imp (λq=>by simpa using q) id⟩
  refine⟨h1,λf hf=> ?_, ?_⟩
  ·obtain⟨i,hi,rfl⟩:=dr hf;exact(h3 i hi).1
  ·have adj:∀d i (hi:i+d+1<l.length),ik.ff l[i].n l[i+d+1].n=true:=by
    intro d;induction d with
    |zero=>
     intro i hi;rcases(h3 (i+1) (by omega)).2 with q|q
     ·omega
     ·simpa [jm,show i<l.length by omega]using q
    |succ d ih=>
     intro i hi;have a:=ih i (by omega);rcases(h3 (i+d+1+1) (by omega)).2 with q|q
     ·omega
     ·have q:ik.ff l[i+d+1].n l[i+d+1+1].n=true:=by simpa [jm,show i+d+1<l.length by omega]using q
      exact e8.pe _ _ _ a q
   unfold SoD;rw[db];intro i j hi hj Lf;have:=adj (j-i-1) i (by omega);simpa only[show i+(j-i-1)+1=j by omega]using this
 ·rintro ⟨h1,h2,h3⟩;refine⟨h1,λi hi=> ?_⟩
  have hi:i<l.length:=by simpa using hi
  rw[e i hi,h2 _ (bD hi),bG,dv];by_cases hz:i=0
  ·left;simpa using hz
  ·right;have:=db.1 h3 (i-1) i (by omega) hi (by omega);simpa [jm,show i-1<l.length by omega]using this
theorem abp(l:ax Fi)(n:aq):(without l n).length<=l.length:=dO ..
theorem sG{l:ax Fi}(f:Fi):(put l f).length<=l.length+1:=by
 unfold put;have:∀r:ax Fi,(r.filter λx=>ik.ff x.n f.n).length+(r.filter λx=> !(ik.ff x.n f.n||decide (x.n=f.n))).length<=r.length:=by
  intro r;induction r with
  |nil=>exact cm _
  |cons y r ih=>
   cases h1:ik.ff y.n f.n with
   |true=>rw[de (by simpa using h1),ca (by simp[h1])];simp only[cS];omega
   |false=>
    rw[ca (by simp[h1])];by_cases h2:y.n=f.n
    ·rw[ca (by simp[h2])];simp only[cS];omega
    ·rw[de (by simp[h1,h2])];simp only[cS];omega
 have:=this l;simp only[bX,bQ];omega
theorem oy{l:ax Fi}{x f:Fi}:x∈put l f↔x=f\/(x∈l/\x.n≠f.n):=by
 unfold put;simp only[aZ,dh,aY,dt,gL,gi];constructor
 ·rintro ((⟨h1,h2⟩|rfl)|⟨h1,h2⟩)
  ·refine .inr ⟨h1,λe2=> ?_⟩;rw[e2,irrefl]at h2;cases h2
  ·exact .inl rfl
  ·exact .inr ⟨h1,h2.2⟩
 ·rintro (rfl|⟨h1,h2⟩)
  ·exact .inl (.inr rfl)
  ·cases hl:ik.ff x.n f.n with
   |true=>exact .inl (.inl ⟨h1,rfl⟩)
   |false=>exact .inr ⟨h1,rfl,h2⟩
def Et(l:ax Fi)(k:az)(n t o:aq):aA (ax Fi):=
 match l.find? λx=>decide (x.n=n)with
 |some f=>
  if k=1 then ah (put l ⟨f.n,f.t++t,f.kp⟩)
  else if k=2 then ah (put l ⟨f.n,f.t,f.t.size⟩)
  else if k=3 then(if f.kp≠f.t.size\/o=n then aj else ah (put (without l n) ⟨o,f.t,f.kp⟩))
  else ah (without l n)
 |none=>if k=1 then ah (put l ⟨n,t,0⟩)else aj
def kB(k:az)(t o:aq):aW:=decide (1<=k/\k<=4)&&((decide (t=⟨#[]⟩)||decide (k=1))&&(decide (o=⟨#[]⟩)||decide (k=3)))
def act(l:ax Fi)(k:az)(n t o:aq):aA (ax Fi):=
 bif tV l&&kB k t o then(match Et l k n t o with|some d=>bif tV d then ah d else aj|none=>aj)else aj
structure Ac where
 k:az
 n:aq
 t:aq
 o:aq
 deriving DecidableEq
instance:Inhabited Ac:=⟨⟨0,⟨#[]⟩,⟨#[]⟩,⟨#[]⟩⟩⟩
def Ac.row(e:Ac):ax CV:=[CV.i ao e.k,CV.s e.n,CV.s e.t,CV.s e.o]
def ra(l:ax Ac):aU:=l.map Ac.row
theorem D3(l):(ra l).length=l.length:=by unfold ra;simp
theorem wa0{l:ax Ac}{i:aE}(h:i<l.length):ar (ra l) i 0=CV.i ao (el l i).k:=gj _ l i 0 h
theorem wa1{l:ax Ac}{i:aE}(h:i<l.length):ar (ra l) i 1=CV.s (el l i).n:=gj _ l i 1 h
theorem wa2{l:ax Ac}{i:aE}(h:i<l.length):ar (ra l) i (1+1)=CV.s (el l i).t:=gj _ l i 2 h
theorem wa3{l:ax Ac}{i:aE}(h:i<l.length):ar (ra l) i (1+1+1)=CV.s (el l i).o:=gj _ l i 3 h
def lT:ax Fi->aE->ax Ac->ax Fi×aE
 |l,i,[]=>(l,i)
 |l,i,a::r=>match act l a.k a.n a.t a.o with|some d=>lT d (i+1) r|none=>(l,i)
theorem Jd{l d:ax Fi}{k:az}{n t o:aq}(h:act l k n t o=ah d):tV d=ai/\d.length<=30:=by
 unfold act at h;cases hb:tV l&&kB k t o with
 |false=>rw[hb]at h;cases h
 |true=>
  rw[hb,ay]at h;split at h
  ·rename_i e _;cases ho:tV e with
   |false=>rw[ho]at h;cases h
   |true=>rw[ho]at h;obtain rfl:=aD h;exact⟨ho,(jZ.1 ho).1⟩
  ·cases h
end eg

namespace oa
theorem size(x:az):(v x).size=4:=by unfold v;rw[Lib.gX];simp only[c7,Lib.uW]
end oa

namespace iW
def rd(x:az):az:=bif decide (bI x 2=1)then(bC dQ (↑(dG (kP (bY 32 (bC dQ (cG x 2))) (bY 32 3558460437))):az))else(bC dQ (cG x 2))
def my:aE->az->az|0,x=>x|n+1,x=>my n (rd x)
theorem in6(N:aE)(K:az->aq->az->az->aA R)(a:aq)(b:az):∀(d n i:aE) (x:az),d+i=8->d<n->l6 N K n x a b (i:az)=K (my d x) a b 8:=by
 intro d;induction d with
 |zero=>
  intro n i x h1 h2;obtain⟨n,rfl⟩:∃m,n=m+1:=⟨n-1,by omega⟩
  have:i=8:=by omega
  subst this;rfl
 |succ d ih=>
  intro n i x h1 h2;obtain⟨n,rfl⟩:∃m,n=m+1:=⟨n-1,by omega⟩
  have jr:bE ((i:az)+1)=((i+1:aE):az):=cX (by omega) (by omega);rw[my,<-ih n (i+1) (rd x) (by omega) (by omega)];simp only[l6,r6,aG (show(i:az)<8 by omega),ay,jr,rd];cases decide (bI x 2=1)<;>rfl
def su(t:aq):aE->aE->az->az
 |0,_,s=>s
 |d+1,i,s=>su t d (i+1) (my 8 (bC dQ (↑(dG (kP (bY 32 s) (bY 32 (bC dQ (↑(ig t i):az))))):az)))
theorem run(s:az)(t:aq)(ht:t.size<=4611686018427387904):vo s t=ah (su t t.size 0 s):=by
 unfold vo b;have key:∀(d n i:aE) (s:az),d+i=t.size->d<n->l2 Lib.cR (λ(xN:az) (_:aq) (_:az)=>ah xN) n s t (i:az)=ah (su t d i s):=by
  intro d;induction d with
  |zero=>
   intro n i s h1 h2;obtain⟨n,rfl⟩:∃m,n=m+1:=⟨n-1,by omega⟩
   simp only[l2,r2,Lib.dE,aK (show¬i<t.size by omega),aC];rfl
  |succ d ih=>
   intro n i s h1 h2;obtain⟨n,rfl⟩:∃m,n=m+1:=⟨n-1,by omega⟩
   have jr:bE ((i:az)+1)=((i+1:aE):az):=cX (by omega) (by omega);simp only[l2,r2,Lib.dE,aG (show i<t.size by omega),Lib.cT,aM,ay,Lib.eD];have e:=in6 (R:=az) Lib.cR (λy7 y8 y9 _=>l2 Lib.cR (λxN _ _=>ah xN) n y7 y8 (bE (y9+1))) t (i:az) 8 Lib.cR 0 (bC dQ (↑(dG (kP (bY 32 s) (bY 32 (bC dQ (↑(ig t i):az))))):az)) rfl (by unfold Lib.cR;omega);refine e.trans ?_;rw[jr,ih n (i+1) _ (by omega) (by omega)];rfl
 exact key t.size Lib.cR 0 s (by omega) (cJ (by omega))
theorem ok(s:az)(t:aq)(ht:t.size<=4611686018427387904):c s t=ai/\v s t=su t t.size 0 s:=out s t (run s t ht)
end iW

namespace tF
theorem ok(t:aq)(ht:t.size<=4611686018427387904):c t=ai/\v t=iW.su t t.size 0 4294967295:=by have h:=iW.ok 4294967295 t ht;refine out t ?_;unfold vo b;rw[h.1,h.2];rfl
end tF

namespace fg
def fr(t:aq):aq:=bytesOf (Lib.vb t.size)++oa.v (iW.su t t.size 0 4294967295)++t
def val(t:aq):aq×aW:=if 1<=t.size/\t.size<=9000 then(fr t,ai)else(⟨#[]⟩,ak)
theorem eH(n a b:az):jV.v n a b=decide (a<=n/\n<=b):=by unfold jV.v;by_cases h:a<=n<;>by_cases h2:n<=b<;>simp[h,h2]
theorem SU{t:aq}(h:t.size<=9000):(fr t).size<=t.size+68:=by unfold fr;have:=Lib.mO (x:=(t.size:az)) (by omega);rw[Lib.kH,Lib.kH,oa.size];omega
theorem ok(t:aq):c t=ai/\v t=val t:=by
 refine out t ?_;unfold vo b val;rw[eH];by_cases h:1<=t.size/\t.size<=9000
 ·have hs:=tF.ok t (by omega);have hc:jy.c (t.size:az)=true:=aG (show(t.size:az)<=9223372036854775807 by omega);have z1:(jy.v (t.size:az)).size<=64:=Lib.mO (x:=(t.size:az)) (by omega);rw[aG (show(1:az)<=(t.size:az)/\(t.size:az)<=9000 by omega),bu h,hs.1,hs.2];simp(disch:=omega) only[a9,aC,ay,hc,Lib.kH,oa.size,Lib.ac9];rfl
 ·rw[aK (show¬((1:az)<=(t.size:az)/\(t.size:az)<=9000)by omega),bJ h];rfl
end fg

namespace jg
theorem head{t:aq}{p:aE}{b:Em}{r:ax Em}(h:t.data.toList.drop p=b::r):p<t.size/\ig t p=b.toNat/\t.data.toList.drop (p+1)=r:=by
 have hl:=kl bT h;rw[eF,cS]at hl;have hs:t.data.toList.length=t.size:=rfl;have hp:p<t.data.toList.length:=by omega
 have hd:=dA hp;rw[hd]at h;injection h with h1 h2;refine⟨by omega, ?_,h2⟩
 unfold ig;have mL:p<t.data.size:=hp;rw[show t.data.getD p 0=t.data[p]by unfold Array.getD;rw[dif_pos mL];rfl];rw[<-h1];rfl
theorem zG(x:az)(r:aU):(bytesOf ([CV.i bc x]::r)).data.toList=au x.toNat::(bytesOf r).data.toList:=rfl
theorem Qg(t:aq)(a:aE)(rest:ax Em):∀(f j:aE) (n y:az),0<=y->0<=n->n+y*128^j<=1000000000->y<=1000000000->(j>0->0<y)->t.data.toList.drop (a+j)=(bytesOf (Lib.vb y)).data.toList++rest->(Lib.vb y).length<=f->
  Lib.rv t a f j n=(n+y*128^j,((a+j+(Lib.vb y).length:aE):az),ai)/\t.data.toList.drop (a+j+(Lib.vb y).length)=rest
 |0,j,n,y,h0,hn,hb,hy,hj,hd,hf=>by
  by_cases hc:y>127
  ·rw[Lib.ub hc]at hf;simp at hf
  ·rw[Lib.lO hc]at hf;simp at hf
 |f+1,j,n,y,h0,hn,hb,hy,hj,hd,hf=>by
  by_cases hc:y>127
  ·have e1:bI y 128=y%128:=iP (by omega);have e2:cG y 128=y/128:=fZ (by omega);have e3:bE (y%128+128)=y%128+128:=cX (by omega) (by omega);have e4:bC bc (y%128+128)=y%128+128:=by show(y%128+128)%256=_;omega
   have e5:bE (y/128)=y/128:=cX (by omega) (by omega);have ev:Lib.vb y=[CV.i bc (y%128+128)]::Lib.vb (y/128):=by rw[Lib.ub hc,e1,e2,e3,e4,e5]
   rw[ev,zG,zk]at hd;obtain⟨q1,q2,q3⟩:=head hd;have q4:(ig t (a+j):az)=y%128+128:=by rw[q2,Jc];omega
   rw[ev,cS]at hf;have hP:y*128^j=y%128*128^j+y/128*128^(j+1):=by
    have hyd:y=y%128+128*(y/128):=by omega
    rw[sO];generalize (128:az)^j=P;conv=>lhs;rw[hyd]
    rw[Int.add_mul,Int.mul_comm P 128,<-Int.mul_assoc,Int.mul_comm (y/128) 128]
   have hpp:(0:az)<=y%128*128^j:=Int.mul_nonneg (by omega) (Int.le_of_lt (Int.pow_pos (by omega)));obtain⟨i1,i2⟩:=Qg t a rest f (j+1) (n+y%128*128^j) (y/128) (by omega) (by omega) (by omega) (by omega) (by omega) (by rw[show a+(j+1)=a+j+1 by omega];exact q3) (by omega);refine⟨?_, ?_⟩
   ·unfold Lib.rv;rw[bu q1,q4,bu (by omega),show(y%128+128)%128=y%128 by omega,i1,hP,ev,cS];refine Prod.ext ?_ (Prod.ext ?_ rfl)
    ·dsimp only;omega
    ·dsimp only;omega
   ·rw[ev,cS,show a+j+((Lib.vb (y/128)).length+1)=a+(j+1)+(Lib.vb (y/128)).length by omega];exact i2
  ·have e4:bC bc y=y:=by show y%256=_;omega
   have ev:Lib.vb y=[[CV.i bc y]]:=by rw[Lib.lO hc,e4]
   rw[ev,zG,zk]at hd;obtain⟨q1,q2,q3⟩:=head hd;have q4:(ig t (a+j):az)=y:=by rw[q2,Jc];omega
   refine⟨?_,by rw[ev];exact q3⟩
   unfold Lib.rv;rw[bu q1,q4,bJ hc,show y%128=y by omega,bJ (by omega),ev];rfl
theorem vb5{y:az}(h:y<=1000000000):(Lib.vb y).length<=5:=by
 have e:(128:az)^(4+1)=34359738368:=by decide
 exact Lib.yZ 4 y (by rw[e];omega)
theorem lj(t:aq)(p:aE)(y:az)(rest:ax Em)(h0:0<=y)(h1:y<=1000000000)(hd:t.data.toList.drop p=(bytesOf (Lib.vb y)).data.toList++rest):Lib.ea t p=(y,((p+(Lib.vb y).length:aE):az),ai)/\t.data.toList.drop (p+(Lib.vb y).length)=rest:=by
 have hl:=kl bT hd;have iq:0<(Lib.vb y).length:=by
  by_cases hc:y>127
  ·rw[Lib.ub hc];simp
  ·rw[Lib.lO hc];simp
 have hb:(bytesOf (Lib.vb y)).data.toList.length=(Lib.vb y).length:=Lib.gX _;rw[eF,bX,hb]at hl;have hs:t.data.toList.length=t.size:=rfl;obtain⟨i1,i2⟩:=Qg t p rest 5 0 0 y h0 (by omega) (by simp;omega) h1 (by omega) (by simpa using hd) (vb5 h1);refine⟨?_,by simpa using i2⟩
 unfold Lib.ea;rw[bu (by omega),show((p:aE):az).toNat=p from rfl,i1];simp
theorem Hg(t k:aq)(p:aE)(rest:ax Em)(hd:t.data.toList.drop p=k.data.toList++rest):t.extract p (p+k.size)=k:=by apply Lib.rB;simp only[fu,gC,gm];rw[hd,show p+k.size-p=k.data.toList.length by show p+k.size-p=k.size;omega,List.take_left]
theorem enc(k:aq)(s l:az)(b:aq)(h:h_.v k s l b=ai):v (jo.qS k s l b)=(k,s,l,b,ai):=by
 obtain⟨⟨k1,k2⟩,⟨s1,s2⟩,⟨l1,l2⟩,b1⟩:=h_.Eu h;generalize ht:jo.qS k s l b=t;have hT:t.data.toList=(bytesOf (Lib.vb k.size)).data.toList++(k.data.toList++((bytesOf (Lib.vb s)).data.toList++((bytesOf (Lib.vb l)).data.toList++b.data.toList))):=by rw[<-ht];unfold jo.qS;simp only[k8,tl,cf]
 have hs:t.data.toList.length=t.size:=rfl;have hk:k.data.toList.length=k.size:=rfl;obtain⟨a1,a2⟩:=lj t 0 (k.size:az) _ (by omega) (by omega) (by rw[fA];exact hT);rw[bO]at a1 a2;generalize (Lib.vb (k.size:az)).length=n1 at a1 a2;have anF:=kl bT a2;simp only[eF,bX,hk,hs]at anF;have ek:=Hg t k n1 _ a2;have a3:t.data.toList.drop (n1+k.size)=(bytesOf (Lib.vb s)).data.toList++((bytesOf (Lib.vb l)).data.toList++b.data.toList):=by rw[<-tv,a2];exact List.drop_left' (by rw[hk])
 obtain⟨b1',b2⟩:=lj t (n1+k.size) s _ (by omega) (by omega) a3;obtain⟨c1,c2⟩:=lj t (n1+k.size+(Lib.vb s).length) l _ (by omega) (by omega) b2;have hr:Lib.g8 t 0=(k,((n1+k.size:aE):az),ai):=by unfold Lib.g8;rw[show(0:az)=((0:aE):az)from rfl,a1];dsimp only;rw[bu (by omega)];rw[show((n1:aE):az).toNat=n1 from rfl,show((n1:az)+(k.size:az)).toNat=n1+k.size by omega,ek];rfl
 have eb:t.extract (n1+k.size+(Lib.vb s).length+(Lib.vb l).length) t.size=b:=by
  have hl2:=kl bT c2;rw[eF,hs]at hl2;have hbs:b.data.toList.length=b.size:=rfl;by_cases hz:b.size=0
  ·apply Lib.rB;simp only[fu,gC,gm];rw[c2];exact ir (by omega)
  ·apply Lib.rB;simp only[fu,gC,gm];rw[c2];exact ir (by omega)
 unfold v;rw[hr];dsimp only;rw[b1'];dsimp only;rw[c1];dsimp only;rw[show((n1+k.size+(Lib.vb s).length+(Lib.vb l).length:aE):az).toNat=n1+k.size+(Lib.vb s).length+(Lib.vb l).length from rfl,eb,bu h]
end jg

namespace Bi
theorem in6(N:aE)(K:az->aq->az->az->aA R)(a:aq)(b:az):∀(d n i:aE) (x:az),d+i=8->d<n->l6 N K n x a b (i:az)=K (iW.my d x) a b 8:=by
 intro d;induction d with
 |zero=>
  intro n i x h1 h2;obtain⟨n,rfl⟩:∃m,n=m+1:=⟨n-1,by omega⟩
  have:i=8:=by omega
  subst this;rfl
 |succ d ih=>
  intro n i x h1 h2;obtain⟨n,rfl⟩:∃m,n=m+1:=⟨n-1,by omega⟩
  have jr:bE ((i:az)+1)=((i+1:aE):az):=cX (by omega) (by omega);rw[iW.my,<-ih n (i+1) (iW.rd x) (by omega) (by omega)];simp only[l6,r6,aG (show(i:az)<8 by omega),ay,jr,iW.rd];cases decide (bI x 2=1)<;>rfl
theorem run(s:az)(t:aq)(ht:t.size<=4611686018427387904):vo s t=ah (iW.su t t.size 0 s):=by
 unfold vo b;have key:∀(d n i:aE) (s:az),d+i=t.size->d<n->l2 Lib.cR (λ(xN:az) (_:aq) (_:az)=>ah xN) n s t (i:az)=ah (iW.su t d i s):=by
  intro d;induction d with
  |zero=>
   intro n i s h1 h2;obtain⟨n,rfl⟩:∃m,n=m+1:=⟨n-1,by omega⟩
   simp only[l2,r2,Lib.dE,aK (show¬i<t.size by omega),aC];rfl
  |succ d ih=>
   intro n i s h1 h2;obtain⟨n,rfl⟩:∃m,n=m+1:=⟨n-1,by omega⟩
   have jr:bE ((i:az)+1)=((i+1:aE):az):=cX (by omega) (by omega);simp only[l2,r2,Lib.dE,aG (show i<t.size by omega),Lib.cT,aM,ay,Lib.eD];have e:=in6 (R:=az) Lib.cR (λy7 y8 y9 _=>l2 Lib.cR (λxN _ _=>ah xN) n y7 y8 (bE (y9+1))) t (i:az) 8 Lib.cR 0 (bC dQ (↑(dG (kP (bY 32 s) (bY 32 (bC dQ (↑(ig t i):az))))):az)) rfl (by unfold Lib.cR;omega);refine e.trans ?_;rw[jr,ih n (i+1) _ (by omega) (by omega)];rfl
 exact key t.size Lib.cR 0 s (by omega) (cJ (by omega))
theorem ok(s:az)(t:aq)(ht:t.size<=4611686018427387904):c s t=ai/\v s t=iW.su t t.size 0 s:=out s t (run s t ht)
end Bi

namespace uw
theorem ok(t:aq)(ht:t.size<=4611686018427387904):c t=ai/\v t=iW.su t t.size 0 4294967295:=by have h:=Bi.ok 4294967295 t ht;refine out t ?_;unfold vo b;rw[h.1,h.2];rfl
end uw

namespace Dj
theorem ok(t:aq)(ht:t.size<=4611686018427387904):c t=ai/\v t=oa.v (iW.su t t.size 0 4294967295):=by have h:=uw.ok t ht;refine out t ?_;unfold vo b;rw[h.1,h.2];rfl
end Dj

namespace qN
theorem cut(a s s' b:aq):c6 (aJ (a++s++b)) (aJ (a++s'++b))=c6 (aJ s) (aJ s'):=by
 rw[Lib.fB,Lib.fB,b9];constructor
 ·intro h;have h2:=kl (λx:aq=>x.data.toList) h;simp only[k8,tl,cf]at h2;have h3:=List.append_cancel_right (List.append_cancel_left h2);exact Lib.rB h3
 ·intro h;rw[h]
theorem lr(n a b:az):pb.v n a b=decide (a<=n/\n<=b):=fg.eH n a b
theorem both(t:aq)(ht:t.size<=20000):∀(d:aE) (gJ:aE) (acc:aU) (n m:aE) (z:az),t.size-gJ<=d->gJ<=t.size->acc.length<=gJ->d<n->d<m->
  ∃R:aU×az,U203.l3 Lib.cR (λ(_:aq) (y4:az) (y5:aU)=>ah (y5,y4)) n t (gJ:az) acc=ah R/\l5 Lib.cR (λ(_:aq) (y5 _:az) (y7:aU)=>ah (y7,y5)) (λ(_:aq) (_ Mc:az) (xN:aU)=>ah (xN,Mc)) m t z (gJ:az) acc=ah R/\R.1.length<=20000:=by
 intro d;induction d with
 |zero=>
  intro gJ acc n m z h1 h2 h3 h4 h5;obtain⟨n,rfl⟩:∃n',n=n'+1:=⟨n-1,by omega⟩
  obtain⟨m,rfl⟩:∃m',m=m'+1:=⟨m-1,by omega⟩
  have ji:decide ((gJ:az)<(t.size:az))=false:=aK (by omega);have hr:(Lib.ea t (gJ:az)).2.2=false:=by
   cases h:Lib.ea t (gJ:az)with
   |mk a r=>
    obtain⟨x,o⟩:=r;cases o with
    |false=>rfl
    |true=>have:=Lib.jJ h;omega
  have e1:∀a b,fP.v a b=Lib.ea a b:=λ_ _=>rfl;refine⟨(acc,(gJ:az)), ?_, ?_,by dsimp only;omega⟩
  ·simp only[U203.l3,U203.r3,e1,hr,aG (show(t.size:az)<=20000 by omega),ay,bS]
  ·simp only[l5,r5,ji,aC]
 |succ d ih=>
  intro gJ acc n m z h1 h2 h3 h4 h5;obtain⟨n,rfl⟩:∃n',n=n'+1:=⟨n-1,by omega⟩
  obtain⟨m,rfl⟩:∃m',m=m'+1:=⟨m-1,by omega⟩
  have e1:∀a b,fP.v a b=Lib.ea a b:=λ_ _=>rfl;have e2:∀a b,eT.v a b=Lib.ea a b:=λ_ _=>rfl;have fm:decide ((t.size:az)<=20000)=true:=aG (by omega);cases hr:Lib.ea t (gJ:az)with
  |mk N r=>
   obtain⟨nx,o⟩:=r;cases o with
   |false=>
    refine⟨(acc,(gJ:az)), ?_, ?_,by dsimp only;omega⟩
    ·simp only[U203.l3,U203.r3,e1,hr,fm,ay,bS]
    ·by_cases ji:(gJ:az)<(t.size:az)
     ·simp only[l5,r5,e2,hr,aG ji,ay,bS]
     ·simp only[l5,r5,aK ji,aC]
   |true=>
    obtain⟨q1,q2,q3,q4,q5,q6⟩:=Lib.jJ hr;have ji:decide ((gJ:az)<(t.size:az))=true:=aG (by omega);have w1:bE (N+4)=N+4:=cX (by omega) (by omega);have w2:bE ((t.size:az)-nx)=(t.size:az)-nx:=cX (by omega) (by omega);have w3:bE ((t.size:az)-nx-4)=(t.size:az)-nx-4:=cX (by omega) (by omega);have w4:bE (nx+4)=nx+4:=cX (by omega) (by omega);have w5:bE (nx+4+N)=nx+4+N:=cX (by omega) (by omega);by_cases DI:N+4>(t.size:az)-nx
    ·have Er:N>(t.size:az)-nx-4:=by omega
     refine⟨(acc,(gJ:az)), ?_, ?_,by dsimp only;omega⟩
     ·cases Tk:decide (1<=N/\N<=9000)with
      |false=>simp only[U203.l3,U203.r3,e1,hr,fm,lr,Tk,ay,aC,a9,bS]
      |true=>simp only[U203.l3,U203.r3,e1,hr,fm,lr,Tk,w1,w2,aG DI,ay,aC,a9]
     ·simp only[l5,r5,e2,hr,ji,w2,w3,aG Er,ay,aC,a9]
    ·have Er:¬N>(t.size:az)-nx-4:=by omega
     have i1:iy (nx+4) (nx+4+N) (t.size:az)=true:=by simp[iy];omega
     have i2:iy nx (nx+4) (t.size:az)=true:=by simp[iy];omega
     have i3:iy (gJ:az) (nx+4+N) (t.size:az)=true:=by simp[iy];omega
     have hts:(t.extract (nx+4).toNat (nx+4+N).toNat).size=N.toNat:=by rw[vC];omega
     generalize Wk:t.extract (nx+4).toNat (nx+4+N).toNat=tx at hts;have f1:=fg.ok tx;have f2:=Dj.ok tx (by omega);by_cases Tk:1<=N/\N<=9000
     ·have hfv:fg.val tx=(fg.fr tx,ai):=by unfold fg.val;rw[bu (by omega)]
      have alm:((tx.size:aE):az)=N:=by omega
      have ZQ:fg.fr tx=t.extract gJ nx.toNat++oa.v (iW.su tx tx.size 0 4294967295)++tx:=by unfold fg.fr;rw[alm,q6];rfl
      have hwh:t.extract gJ (nx+4+N).toNat=t.extract gJ nx.toNat++t.extract nx.toNat (nx+4).toNat++tx:=by rw[<-Wk,Lib.uJ t (by omega) (by omega),Lib.uJ t (by omega) (by omega)]
      have S4:c6 (aJ (fg.fr tx)) (aJ (t.extract gJ (nx+4+N).toNat))=c6 (aJ (oa.v (iW.su tx tx.size 0 4294967295))) (aJ (t.extract nx.toNat (nx+4).toNat)):=by rw[ZQ,hwh];exact cut _ _ _ _
      have JI:cy (acc.length+1) 16=true:=Lib.cF (by omega) (by omega);cases hs:c6 (aJ (oa.v (iW.su tx tx.size 0 4294967295))) (aJ (t.extract nx.toNat (nx+4).toNat))with
      |false=>
       rw[hs]at S4;refine⟨(acc,(gJ:az)), ?_, ?_,by dsimp only;omega⟩
       ·simp only[U203.l3,U203.r3,e1,hr,fm,lr,aG Tk,w1,w2,w4,w5,aK DI,i1,i2,Wk,f2.1,f2.2,hs,ay,aC,a9,bS]
       ·simp only[l5,r5,e2,hr,ji,w2,w3,w4,w5,aK Er,i1,i3,Wk,f1.1,f1.2,hfv,dJ,S4,ay,aC,a9,bS]
      |true=>
       rw[hs]at S4;obtain⟨a2,ha2⟩:∃a2:aE,nx+4+N=(a2:az):=⟨(nx+4+N).toNat,by omega⟩
       obtain⟨R,g1,g2,g3⟩:=ih a2 (acc++[[CV.s tx]]) n m z (by omega) (by omega) (by rw[bX,bQ];omega) (by omega) (by omega);refine⟨R, ?_, ?_,g3⟩
       ·simp only[U203.l3,U203.r3,e1,hr,fm,lr,aG Tk,w1,w2,w4,w5,aK DI,i1,i2,Wk,f2.1,f2.2,hs,Lib.lL,bQ,JI,ay,aC,a9];rw[ha2];exact g1
       ·simp only[l5,r5,e2,hr,ji,w2,w3,w4,w5,aK Er,i1,i3,Wk,f1.1,f1.2,hfv,dJ,S4,Lib.lL,bQ,JI,ay,aC,a9];rw[ha2];exact g2
     ·have hfv:fg.val tx=(⟨#[]⟩,ak):=by unfold fg.val;rw[bJ (by omega)]
      refine⟨(acc,(gJ:az)), ?_, ?_,by dsimp only;omega⟩
      ·simp only[U203.l3,U203.r3,e1,hr,fm,lr,aK Tk,ay,aC,a9,bS]
      ·simp only[l5,r5,e2,hr,ji,w2,w3,w4,w5,aK Er,i1,Wk,f1.1,f1.2,hfv,ay,aC,a9,bS]
theorem same(t:aq):∃R:aU×az,(c t=ai/\v t=R)/\(U203.c t=ai/\U203.v t=R)/\R.1.length<=20000:=by
 by_cases ht:t.size<=20000
 ·obtain⟨R,g1,g2,g3⟩:=both t ht t.size 0 [] Lib.cR Lib.cR 0 (by omega) (bm _) (cm _) (cJ (by omega)) (cJ (by omega));refine⟨R,out t ?_,U203.out t ?_,g3⟩
  ·unfold vo b;rw[aK (show¬(t.size:az)>20000 by omega),aC];exact g2
  ·unfold U203.vo U203.b;exact g1
 ·refine⟨([],0),out t ?_,U203.out t ?_,bm _⟩
  ·unfold vo b;rw[aG (show(t.size:az)>20000 by omega)];rfl
  ·unfold U203.vo U203.b;have hb:Lib.cR=18446744073709551615+1:=rfl;have:∀n,U203.l3 Lib.cR (λ(_:aq) (y4:az) (y5:aU)=>ah (y5,y4)) (n+1) t 0 (aN [Ck.s] 0)=ah ([],0):=by intro n;simp only[U203.l3,U203.r3,aK (show¬(t.size:az)<=20000 by omega),aC];rfl
   exact this 18446744073709551615
end qN

namespace RP
def fs:ax aq->aq
 |[]=>⟨#[]⟩|x::r=>fg.fr x++fs r
theorem toL(a b:aq):(a++b).data.toList=a.data.toList++b.data.toList:=by simp[k8]
theorem DC(x:aq):(fg.fr x).data.toList=(bytesOf (Lib.vb x.size)).data.toList++((oa.v (iW.su x x.size 0 4294967295)).data.toList++x.data.toList):=by unfold fg.fr;rw[toL,toL,cf]
theorem GG(x:aq):x.data.toList.length=x.size:=dp
def Stop(z:aq):Prop:=z=⟨#[]⟩\/∃(x:aq) (w:ax Em),x.size<=9000/\(fg.fr x).data.toList=z.data.toList++w/\w≠[]
theorem nE(n:az):(oa.v n).size=4:=rfl
theorem vbl(n:az):(bytesOf (Lib.vb n)).data.toList.length=(Lib.vb n).length:=by rw[GG,Lib.gX]
theorem stop{t z:aq}{p:aE}(hz:Stop z)(hp:p<=t.size)(hd:t.data.toList.drop p=z.data.toList){N nx:az}(h:Lib.ea t p=(N,nx,ai)):N+4>(t.size:az)-nx:=by
 obtain⟨q1,q2,q3,q4,q5,q6⟩:=Lib.jJ h;have hl:t.size-p=z.size:=by have:=kl bT hd;rw[eF,GG,GG]at this;exact this
 rcases hz with rfl|⟨x,w,hx,hF,hw⟩
 ·have:(⟨#[]⟩:aq).size=0:=rfl;omega
 ·-- the file's next bytes are the number's
  have e1:(t.extract p nx.toNat).data.toList=z.data.toList.take (nx.toNat-p):=by rw[<-hd];simp[fu,gC,List.extract]
  rw[dJ]at q6;have Lt:nx.toNat-p<=z.data.toList.length:=by rw[GG];omega
  have e2:(fg.fr x).data.toList.drop 0=(bytesOf (Lib.vb N)).data.toList++(z.data.toList.drop (nx.toNat-p)++w):=by rw[fA,hF,q6,e1,<-cf,List.take_append_drop]
  have e3:(fg.fr x).data.toList.drop 0=(bytesOf (Lib.vb x.size)).data.toList++((oa.v (iW.su x x.size 0 4294967295)).data.toList++x.data.toList):=by rw[fA,DC]
  have r1:=(jg.lj _ 0 N _ q4 q5 e2).1;have r2:=(jg.lj _ 0 (x.size:az) _ (by omega) (by omega) e3).1;rw[r1]at r2;obtain⟨hN,hq⟩:=bN r2;have hlen:(Lib.vb N).length=nx.toNat-p:=by have:=kl bT (kl (λy:aq=>y.data.toList) q6);simp only[vbl,e1,dU]at this;omega
  have hFl:=kl bT hF;rw[DC,bX,bX,bX,vbl,GG,GG,GG,nE]at hFl;have hw1:1<=w.length:=by cases w with|nil=>exact cw rfl hw|cons=>simp
  subst hN;omega
theorem go(t:aq)(ht:t.size<=20000)(z:aq)(hz:Stop z):∀(es:ax aq),(∀x∈es,1<=x.size/\x.size<=9000)->∀(p n:aE) (acc:aU),p<=t.size->acc.length<=p->t.data.toList.drop p=(fs es++z).data.toList->t.size-p<n->
  U203.l3 Lib.cR (λ(_:aq) (y4:az) (y5:aU)=>ah (y5,y4)) n t (p:az) acc=ah (acc++Lib.rs es,((p+(fs es).size:aE):az)):=by
 have e0:∀a b,fP.v a b=Lib.ea a b:=λ_ _=>rfl;have fm:decide ((t.size:az)<=20000)=true:=aG (by omega);intro es;induction es with
 |nil=>
  intro hes p n acc hp ha hd hn;obtain⟨n,rfl⟩:∃n',n=n'+1:=⟨n-1,by omega⟩
  have hd:t.data.toList.drop p=z.data.toList:=by rw[hd];unfold fs;rw[toL];rfl
  have e1:acc++Lib.rs []=acc:=dH _;have e2:((p+(fs []).size:aE):az)=(p:az):=rfl;rw[e1,e2];cases hr:Lib.ea t (p:az)with
  |mk N r=>
   obtain⟨nx,o⟩:=r;cases o with
   |false=>simp only[U203.l3,U203.r3,e0,hr,fm,ay,bS]
   |true=>
    have hs:=stop hz hp hd hr;obtain⟨q1,q2,q3,q4,q5,q6⟩:=Lib.jJ hr;have w1:bE (N+4)=N+4:=cX (by omega) (by omega);have w2:bE ((t.size:az)-nx)=(t.size:az)-nx:=cX (by omega) (by omega);cases Tk:decide (1<=N/\N<=9000)with
    |false=>simp only[U203.l3,U203.r3,e0,hr,fm,qN.lr,Tk,ay,aC,a9,bS]
    |true=>simp only[U203.l3,U203.r3,e0,hr,fm,qN.lr,Tk,w1,w2,aG hs,ay,aC,a9]
 |cons x es ih=>
  intro hes p n acc hp ha hd hn;obtain⟨n,rfl⟩:∃n',n=n'+1:=⟨n-1,by omega⟩
  have hx:=hes x (by simp);have hd1:t.data.toList.drop p=(bytesOf (Lib.vb x.size)).data.toList++((oa.v (iW.su x x.size 0 4294967295)).data.toList++(x.data.toList++(fs es++z).data.toList)):=by rw[hd,show fs (x::es)=fg.fr x++fs es from rfl,toL,toL,DC,toL];simp only[cf]
  obtain⟨hr,hd2⟩:=jg.lj t p (x.size:az) _ (by omega) (by omega) hd1;have Mt:(fg.fr x).size=(Lib.vb x.size).length+4+x.size:=by rw[<-GG,DC,bX,bX,vbl,GG,GG,nE];omega
  have hlen:=kl bT hd;rw[eF,GG,GG]at hlen;have od:(fs (x::es)++z).size=(fg.fr x).size+(fs es).size+z.size:=by rw[show fs (x::es)=fg.fr x++fs es from rfl,dn,dn]
  rw[od,Mt]at hlen;generalize hm:(Lib.vb (x.size:az)).length=m at*
  have x4:t.extract (p+m) (p+m+4)=oa.v (iW.su x x.size 0 4294967295):=by have:=jg.Hg t _ (p+m) _ hd2;rwa[nE]at this
  have hd3:t.data.toList.drop (p+m+4)=x.data.toList++(fs es++z).data.toList:=by rw[<-tv,hd2,yB (by rw[GG,nE];omega),EC (by rw[GG,nE];omega),fF]
  have x5:t.extract (p+m+4) (p+m+4+x.size)=x:=jg.Hg t x (p+m+4) _ hd3;have hd4:t.data.toList.drop (p+m+4+x.size)=(fs es++z).data.toList:=by rw[<-tv,hd3,yB (by rw[GG];omega),EC (by rw[GG];omega),fF]
  have i:=ih (λy hy=>hes y (by simp[hy])) (p+m+4+x.size) n (acc++[[CV.s x]]) (by omega) (by simp;omega) hd4 (by omega);have w1:bE ((x.size:az)+4)=(x.size:az)+4:=cX (by omega) (by omega);have w2:bE ((t.size:az)-((p+m:aE):az))=(t.size:az)-((p+m:aE):az):=cX (by omega) (by omega);have w4:bE (((p+m:aE):az)+4)=((p+m+4:aE):az):=by rw[cX (by omega) (by omega)];omega
  have w5:bE (((p+m+4:aE):az)+(x.size:az))=((p+m+4+x.size:aE):az):=by rw[cX (by omega) (by omega)];omega
  have b1:¬(x.size:az)+4>(t.size:az)-((p+m:aE):az):=by omega
  have i1:iy ((p+m+4:aE):az) ((p+m+4+x.size:aE):az) (t.size:az)=true:=by simp[iy];omega
  have i2:iy ((p+m:aE):az) ((p+m+4:aE):az) (t.size:az)=true:=by simp[iy];omega
  have f2:=Dj.ok x (by omega);have JI:cy (acc.length+1) 16=true:=Lib.cF (by omega) (by omega);simp only[U203.l3,U203.r3,e0,hr,fm,qN.lr,aG (show 1<=(x.size:az)/\(x.size:az)<=9000 by omega),w1,w2,w4,w5,aK b1,i1,i2,dJ,x4,x5,f2.1,f2.2,Lib.pc,Lib.lL,bQ,JI,ay,aC,a9];rw[i];have e3:acc++[[CV.s x]]++Lib.rs es=acc++Lib.rs (x::es):=by unfold Lib.rs;simp
  have e4:p+m+4+x.size+(fs es).size=p+(fs (x::es)).size:=by
   have:(fs (x::es)).size=(fg.fr x).size+(fs es).size:=by rw[show fs (x::es)=fg.fr x++fs es from rfl,dn]
   omega
  rw[e3,e4]
theorem ok(es:ax aq)(hes:∀x∈es,1<=x.size/\x.size<=9000)(z:aq)(hz:Stop z)(ht:(fs es++z).size<=20000):
  (U203.c (fs es++z)=ai/\U203.v (fs es++z)=(Lib.rs es,((fs es).size:az)))/\(qN.c (fs es++z)=ai/\qN.v (fs es++z)=(Lib.rs es,((fs es).size:az))):=by
 have h1:=U203.out (fs es++z) (x:=(Lib.rs es,((fs es).size:az))) (by unfold U203.vo U203.b;have:=go (fs es++z) ht z hz es hes 0 Lib.cR [] (bm _) (bm _) (by rw[fA]) (cJ (by omega));rw[bO,fF]at this;exact this);obtain⟨R,s1,s2,_⟩:=qN.same (fs es++z);refine⟨h1,s1.1, ?_⟩
 rw[s1.2,<-s2.2,h1.2]
end RP

namespace gZ
theorem vm{k b:aq}{s l:az}(h:h_.v k s l b=ai):(jo.qS k s l b).size<=1000:=by have hr:=h_.Eu h;have z1:(bytesOf (Lib.vb (k.size:az))).size<=64:=Lib.mO (x:=(k.size:az)) (by omega);have z2:(bytesOf (Lib.vb s)).size<=64:=Lib.mO (x:=s) (by omega);have z3:(bytesOf (Lib.vb l)).size<=64:=Lib.mO (x:=l) (by omega);unfold jo.qS;simp only[Lib.kH];omega
theorem Ee{k b:aq}{s l:az}(h:h_.v k s l b=ai):1<=(jo.qS k s l b).size:=by have hr:=h_.Eu h;unfold jo.qS;simp only[Lib.kH];omega
def val(k:aq)(s l:az)(b:aq):aq×aW:=if h_.v k s l b=ai then(fg.fr (jo.qS k s l b),ai)else(⟨#[]⟩,ak)
end gZ

namespace jx
def p(d:aU)(n:aq)(i:aE):aW:=c6 (aJ (bM (ar d i 0))) (aJ n)
theorem ok(d:aU)(n:aq)(hl:d.length<=4294967296):c d n=ai/\v d n=Lib.fi (p d n) d.length 0:=by
 refine out d n ?_;unfold vo b;refine oP (p d n) d.length (λm (i:aE)=>l2 Lib.cR (λ(_:aq) (y5 _:az) (_:aU)=>ah y5) (λ(_:aq) (_ _:az) (_:aU)=>ah (-1)) m n 0 (i:az) d) ah (λm i hi hp=> ?_) (λm i hi hp=> ?_) (λm=> ?_) Lib.cR (cJ (by omega))
 ·unfold p at hp;simp only[l2,r2,Lib.dE,Lib.cT,Lib.eD,hi,aR,aM,ay,hp]
 ·unfold p at hp;simp only[l2,r2,Lib.dE,Lib.cT,Lib.eD,hi,aR,aM,ay,hp,aC,Lib.dm hi (by omega:d.length<=9223372036854775807)]
 ·simp only[l2,r2,Lib.dE,bk,bg,aC]
end jx

namespace mb
def val(d:aU)(n:aq):aq×aW:=if Lib.fi (jx.p d n) d.length 0<0 then(⟨#[]⟩,ak)else(bM (ar d (Lib.fi (jx.p d n) d.length 0).toNat 1),ai)
theorem Eu(d:aU)(n:aq)(h:¬Lib.fi (jx.p d n) d.length 0<0):0<=Lib.fi (jx.p d n) d.length 0/\Lib.fi (jx.p d n) d.length 0<(d.length:az):=by
 rcases Lib.rI (jx.p d n) d.length 0 with ⟨h1,_⟩|⟨k,h1,h2,h3,_,_⟩
 ·rw[h1]at h;omega
 ·rw[h3];omega
theorem ok(d:aU)(n:aq)(hl:d.length<=4294967296):c d n=ai/\v d n=val d n:=by
 refine out d n ?_;have h:=jx.ok d n hl;unfold vo b val;rw[h.1,h.2,ay];by_cases hn:Lib.fi (jx.p d n) d.length 0<0
 ·rw[aG hn,bu hn];rfl
 ·have hr:=Eu d n hn;rw[aK hn,bJ hn,aC,aG hr.1,aG hr.2];rfl
end mb

namespace xZ
theorem ok(r:aU)(hl:r.length<=4294967296):c r=ai/\v r=eS.val r:=by
 refine out r ?_;unfold vo b eS.val;have gO:∀a b c,pb.v a b c=jV.v a b c:=λ_ _ _=>rfl
 have key:=js (eS.el r) r.length (λm (i:aE)=>l2 Lib.cR (λ(y5:aW) (_:aU) (_ _:az) (_:aU)=>ah y5) (λ(_:aW) (_:aU) (_ _:az) (Yk:aU)=>ah (decide ((Yk.length:az)<=30))) m ak r (r.length:az) (i:az) r) (ah ak) (ah (decide ((r.length:az)<=30)))
  (λm i hi hp=>by
   unfold eS.el at hp;simp only[aF]at hp;obtain⟨h1,h2,h3,h4⟩:=hp;have h3:decide (0<=bU (ar r i (1+1))/\bU (ar r i (1+1))<=((bM (ar r i 1)).size:az))=true:=h3;have h2:decide (((bM (ar r i 1)).size:az)>20000)=false:=by simpa using h2
   by_cases hz:0<i
   ·have e0:decide ((i:az)>0)=true:=aG (by omega);have mL:i-1<r.length:=by omega
    have h5:bZ (aJ (bM (ar r (i-1) 0))) (aJ (bM (ar r i 0)))=true:=by
     rcases dv _ _▸h4 with q|q
     ·have:i=0:=by simpa using q
      omega
     ·exact q
    simp only[l2,r2,Lib.dE,hi,mL,aR,Lib.cT,aM,ay,aC,Lib.eD,gO,eS.mM,h1,h2,h3,h5,e0,eS.CJ hz (by omega),a9,Lib.dm hi (by omega:r.length<=9223372036854775807)]
   ·have e0:decide ((i:az)>0)=false:=aK (by omega);simp only[l2,r2,Lib.dE,hi,aR,Lib.cT,aM,ay,aC,Lib.eD,gO,eS.mM,h1,h2,h3,e0,a9,Lib.dm hi (by omega:r.length<=9223372036854775807)])
  (λm i hi hp=>by
   unfold eS.el at hp;cases h1:decide (1<=((bM (ar r i 0)).size:az)/\((bM (ar r i 0)).size:az)<=8)with
   |false=>simp only[l2,r2,Lib.dE,hi,aR,Lib.cT,aM,ay,aC,Lib.eD,gO,eS.mM,h1,bS]
   |true=>
   cases h2:decide (((bM (ar r i 1)).size:az)>20000)with
   |true=>simp only[l2,r2,Lib.dE,hi,aR,Lib.cT,aM,ay,aC,Lib.eD,gO,eS.mM,h1,h2,a9]
   |false=>
   cases h3:decide (0<=bU (ar r i (1+1))/\bU (ar r i (1+1))<=((bM (ar r i 1)).size:az))with
   |false=>simp only[l2,r2,Lib.dE,hi,aR,Lib.cT,aM,ay,aC,Lib.eD,gO,eS.mM,h1,h2,h3,a9,bS]
   |true=>
   rw[h1,h2,show decide (0<=bU (ar r i 2)/\bU (ar r i 2)<=((bM (ar r i 1)).size:az))=ai from h3,bS,bG,bG,bG]at hp;rw[gL]at hp;obtain⟨h4,h5⟩:=hp;have hz:0<i:=by
    have:¬i=0:=by simpa using h4
    omega
   have e0:decide ((i:az)>0)=true:=aG (by omega);have mL:i-1<r.length:=by omega
   simp only[l2,r2,Lib.dE,hi,mL,aR,Lib.cT,aM,ay,aC,Lib.eD,gO,eS.mM,h1,h2,h3,h5,e0,eS.CJ hz (by omega),a9,bS])
  (λm=>by simp only[l2,r2,Lib.dE,bk,bg,aC]) Lib.cR (cJ (by omega))
 refine key.trans ?_;rw[show decide ((r.length:az)<=30)=decide (r.length<=30)from by rw[b9];omega];cases (cz r.length).all (eS.el r)<;>cases decide (r.length<=30)<;>rfl
end xZ

namespace jN
open Lib (rd el Fi)
open eg (without put SoD tV act Et jZ)
def res(o:aA (ax Fi)):aU×aW:=match o with|some d=>(rd d,ai)|none=>([],ak)
theorem find(l:ax Fi)(n:aq):(Lib.fi (jx.p (rd l) n) l.length 0= -1/\l.find? (λx=>decide (x.n=n))=aj)\/∃i,i<l.length/\Lib.fi (jx.p (rd l) n) l.length 0=(i:az)/\l.find? (λx=>decide (x.n=n))=ah (el l i):=by
 have hq:∀i (hi:i<l.length),jx.p (rd l) n i=decide (l[i].n=n):=λi hi=>by unfold jx.p;rw[H5 hi];exact Lib.fB
 rcases Lib.rI (jx.p (rd l) n) l.length 0 with ⟨e,ha⟩|⟨k,_,hk,e,hp,hb⟩
 ·refine .inl ⟨e,o7.2 λx hx=> ?_⟩;obtain⟨i,hi,rfl⟩:=dr hx;rw[<-hq i hi,ha i (by omega) (by omega)];simp
 ·have ta:k<l.length:=by omega
  refine .inr ⟨k,ta,e, ?_⟩;rw[zl];exact⟨by rw[fc ta,<-hq k ta];exact hp,k,ta,(fc ta).symm,λj hj=>by rw[<-hq j (by omega),hb j (by omega) hj];rfl⟩
theorem okc(d:ax Fi)(h:d.length<=1000000):xZ.c (rd d)=ai/\xZ.v (rd d)=tV d:=xZ.ok (rd d) (by rw[fM];omega)
end jN

namespace uv
theorem ok(l:aU)(hl:l.length<=4294967296):c l=ai/\v l=l:=by refine out l ?_;unfold vo b;rw[show bT (aN [Ck.s,Ck.i ao,Ck.i ao,Ck.s] 0)+l.length=l.length by simp[aN],Lib.cF (by omega) (by omega)];rfl
end uv

namespace Gz
theorem ok(l:aU)(k:aq)(hc:l.all o9.cn=ai)(hl:l.length<=4294967296):c l k=ai/\v l k=l.filter (o9.keep k):=by have h1:=uv.ok l hl;have h2:=o9.ok l k hc hl;exact out l k (by unfold vo b;rw[h1.1,h1.2,h2.1,h2.2,ay,ay])
end Gz

namespace Bf
theorem AP(p q:ax CV->aW):∀r:aU,(∀y∈r,q y= !p y)->r.Pairwise (λy z=>p z=ai->p y=ai)->r.takeWhile p=r.filter p/\r.dropWhile p=r.filter q
 |[],_,_=>⟨rfl,rfl⟩
 |y::r,hq,h=>by
  rw[lE]at h;have hy:=hq y (by simp);cases hp:p y with
  |true=>rw[hp]at hy;obtain⟨i1,i2⟩:=AP p q r (λz hz=>hq z (by simp[hz])) h.2;rw[oH hp,de hp,List.dropWhile_cons_of_pos hp,ca (by rw[hy];simp),i1,i2];exact⟨rfl,rfl⟩
  |false=>
   rw[hp]at hy;have hn:¬p y=true:=by rw[hp];simp
   have ha:∀z∈r,p z=false:=λz hz=>by
    cases Bz:p z with
    |false=>rfl
    |true=>exact cw (h.1 z hz Bz) hn
   rw[oG hn,ca hn,List.dropWhile_cons_of_neg hn,de (by rw[hy];rfl)];refine⟨?_, ?_⟩
   ·symm;rw[List.filter_eq_nil_iff];intro z hz;rw[ha z hz];simp
   ·congr 1;symm;rw[gb];intro z hz;rw[hq z (by simp[hz]),ha z hz];rfl
theorem Zo{r:aU}(h:∀y∈r,e8.cr y=y):r.all o9.cn=true:=by rw[bj];intro y hy;rw[<-h y hy];rfl
theorem ok(r:aU)(k:aq)(s l:az)(b0:aq)(hO:e8.Or r)(hl:r.length<=1048576):c r k s l b0=ai/\v r k s l b0=e8.val r k s l b0:=by
 refine out r k s l b0 ?_;have hd:=Gz.ok r k (Zo hO.2) (by omega);unfold vo b;rw[hd.1,ay,hd.2];have Mt:(r.filter (o9.keep k)).length<=r.length:=dO _ _;have hke:∀y,o9.keep k y= !List.beq (e8.key y) (aJ k):=λ_=>rfl;have htw:=AP (e8.pl k) (e8.pg k) (r.filter (o9.keep k)) (λy hy=>by
  have h2:=(dh.1 hy).2;rw[hke]at h2;have h3:c6 (e8.key y) (aJ k)=false:=by simpa using h2
  unfold e8.pg e8.pl;rw[h3,Bool.or_false]) ((hO.1.sublist iS).imp (λ{y z} hyz hz=>e8.pe _ _ _ hyz hz))
 have e1:(r.filter (o9.keep k)).filter (e8.pl k)=r.filter (e8.pl k):=by
  rw[KO];apply vU;intro y _;cases h:e8.pl k y with
  |false=>rfl
  |true=>
   rw[hke,bG];cases h2:c6 (e8.key y) (aJ k)with
   |false=>rfl
   |true=>exfalso;have h3:=Lib.beq_iff.1 h2;unfold e8.pl at h;rw[h3,e8.nC]at h;cases h
 have e2:(r.filter (o9.keep k)).filter (e8.pg k)=r.filter (e8.pg k):=by rw[KO];apply vU;intro y _;rw[hke];unfold e8.pg;cases c6 (e8.key y) (aJ k)<;>cases bZ (e8.key y) (aJ k)<;>rfl
 generalize r.filter (o9.keep k)=o at Mt htw e1 e2
 have:=AM (e8.pl k) o (λm (i:aE)=>l3 Lib.cR (λ(y6:az) (y7:aq) (y8 y9:az) (Mc:aq) (xN:aU)=>bif(decide (0<=y6)&&decide (y6<=(↑(bT xN):az))&&cy (bT xN+bT (aw (aN [Ck.s,Ck.i ao,Ck.i ao,Ck.s] 1) 0 [CV.s y7,CV.i ao y8,CV.i ao y9,CV.s Mc])) 48)then(ah (Pu.Lu xN (aX y6) (aw (aN [Ck.s,Ck.i ao,Ck.i ao,Ck.s] 1) 0 [CV.s y7,CV.i ao y8,CV.i ao y9,CV.s Mc])))else(aj)) m (i:az) k s l b0 o)
  (λa=>bif decide ((a:az)<=(o.length:az))then ah (Pu.Lu o a [e8.nw k s l b0])else aj)
  (λm i h hp=>by
   have mL:bZ (aJ (bM (ar o i 0))) (aJ k)=true:=by rw[Lib.da h];exact hp
   simp only[l3,r3,Lib.dE,h,aR,Lib.cT,aM,ay,Lib.eD,mL,Lib.dm h (by omega:o.length<=9223372036854775807)])
  (λm i h hp=>by
   have mL:bZ (aJ (bM (ar o i 0))) (aJ k)=false:=by rw[Lib.da h];exact hp
   simp only[l3,r3,Lib.dE,h,aR,Lib.cT,aM,bG,qT,ay,aC,Lib.eD,mL,Lib.lL,bQ,Lib.cF (n:=o.length+1) (b:=48) (by omega) (by omega)];rfl)
  (λm=>by simp only[l3,r3,Lib.dE,bk,bg,aR,Lib.cT,aM,bG,qT,ay,aC,Lib.eD,Lib.lL,bQ,Lib.cF (n:=o.length+1) (b:=48) (by omega) (by omega)];rfl) Lib.cR (cJ (by omega))
 refine this.trans ?_;have hle:=Ks (e8.pl k) o;rw[aG (by omega),ay];unfold Pu.Lu e8.val;rw[yW,yJ,htw.1,htw.2,e1,e2,e8.DR hO.2,e8.DR hO.2]
end Bf

namespace uC
theorem ok(d:aU)(n:aq)(hl:d.length<=4294967296):c d n=ai/\v d n=Lib.fi (jx.p d n) d.length 0:=by
 refine out d n ?_;unfold vo b;refine oP (jx.p d n) d.length (λm (i:aE)=>l2 Lib.cR (λ(_:aU) (_:aq) (y7 _ _:az)=>ah y7) (λ(_:aU) (_:aq) (_ _ _:az)=>ah (-1)) m d n 0 (d.length:az) (i:az)) ah (λm i hi hp=> ?_) (λm i hi hp=> ?_) (λm=> ?_) Lib.cR (cJ (by omega))
 ·unfold jx.p at hp;simp only[l2,r2,Lib.dE,Lib.cT,Lib.eD,hi,aR,aM,ay,NF.v,hp]
 ·unfold jx.p at hp;simp only[l2,r2,Lib.dE,Lib.cT,Lib.eD,hi,aR,aM,ay,NF.v,hp,aC,Lib.dm hi (by omega:d.length<=9223372036854775807)]
 ·simp only[l2,r2,Lib.dE,bk,bg,aC]
end uC

namespace zt
theorem ok(d:aU)(n:aq)(hl:d.length<=4294967296):c d n=ai/\v d n=Lib.fi (jx.p d n) d.length 0:=by have h:=uC.ok d n hl;exact out d n (by unfold vo b;rw[h.1,h.2,ay])
end zt

namespace zr
theorem ok(d:aU)(n:aq)(hl:d.length<=4294967296):c d n=ai/\v d n=mb.val d n:=by
 refine out d n ?_;have h:=zt.ok d n hl;unfold vo b mb.val;rw[h.1,h.2,ay];by_cases hn:Lib.fi (jx.p d n) d.length 0<0
 ·rw[aG hn,bu hn];rfl
 ·have hr:=mb.Eu d n hn;rw[aK hn,bJ hn,aC,aG hr.1,aG hr.2];rfl
end zr

namespace qK
def nm:aq:={data:= #[au 107,au 101,au 112,au 116]}
theorem both(rec:aU)(hr:rec.length<=20000):∀(d i:aE) (o:aU) (n m:aE),rec.length-i<=d->i<=rec.length->e8.Or o->o.length<=i->d<n->d<m->
  ∃L:aU,U118.l7 Lib.cR (λ(_ _:az) (y6:aU) (_:aU)=>ah y6) n (rec.length:az) (i:az) o rec=ah L/\l7 Lib.cR (λ(_:az) (y4 _:aU)=>ah y4) m (i:az) o rec=ah L/\e8.Or L/\L.length<=20000:=by
 have e1:∀t,wz.v t=jg.v t:=λ_=>rfl;intro d;induction d with
 |zero=>
  intro i o n m h1 h2 hO h3 h4 h5;obtain⟨n,rfl⟩:∃n',n=n'+1:=⟨n-1,by omega⟩
  obtain⟨m,rfl⟩:∃m',m=m'+1:=⟨m-1,by omega⟩
  have ji:decide ((i:az)<(rec.length:az))=false:=aK (by omega);exact⟨o,by simp only[U118.l7,U118.r7,ji,aC],by simp only[l7,r7,ji,aC],hO,by omega⟩
 |succ d ih=>
  intro i o n m h1 h2 hO h3 h4 h5;obtain⟨n,rfl⟩:∃n',n=n'+1:=⟨n-1,by omega⟩
  obtain⟨m,rfl⟩:∃m',m=m'+1:=⟨m-1,by omega⟩
  by_cases hi:i<rec.length
  ·have hw:bE ((i:az)+1)=((i+1:aE):az):=cX (by omega) (by omega);cases b7:(jg.v (bM (ar rec i 0))).2.2.2.2 with
   |false=>
    obtain⟨L,g1,g2,g3,g4⟩:=ih (i+1) o n m (by omega) hi hO (by omega) (by omega) (by omega);refine⟨L, ?_, ?_,g3,g4⟩
    ·simp only[U118.l7,U118.r7,Lib.dE,hi,aR,Lib.cT,aM,ay,Lib.eD,e1,b7,aC,hw];exact g1
    ·simp only[l7,r7,Lib.dE,hi,aR,Lib.cT,aM,ay,Lib.eD,b7,aC,hw];exact g2
   |true=>
    have p1:=e8.ok o (jg.v (bM (ar rec i 0))).1 (jg.v (bM (ar rec i 0))).2.1 (jg.v (bM (ar rec i 0))).2.2.1 (jg.v (bM (ar rec i 0))).2.2.2.1 (by omega);have p2:=Bf.ok o (jg.v (bM (ar rec i 0))).1 (jg.v (bM (ar rec i 0))).2.1 (jg.v (bM (ar rec i 0))).2.2.1 (jg.v (bM (ar rec i 0))).2.2.2.1 hO (by omega);have p3:=e8.uU hO (jg.v (bM (ar rec i 0))).1 (jg.v (bM (ar rec i 0))).2.1 (jg.v (bM (ar rec i 0))).2.2.1 (jg.v (bM (ar rec i 0))).2.2.2.1;obtain⟨L,g1,g2,g3,g4⟩:=ih (i+1) _ n m (by omega) hi p3.1 (by omega) (by omega) (by omega);refine⟨L, ?_, ?_,g3,g4⟩
    ·simp only[U118.l7,U118.r7,Lib.dE,hi,aR,Lib.cT,aM,ay,Lib.eD,e1,b7,p2.1,p2.2,hw];exact g1
    ·simp only[l7,r7,Lib.dE,hi,aR,Lib.cT,aM,ay,Lib.eD,b7,p1.1,p1.2,hw];exact g2
  ·have ji:decide ((i:az)<(rec.length:az))=false:=aK (by omega);exact⟨o,by simp only[U118.l7,U118.r7,ji,aC],by simp only[l7,r7,ji,aC],hO,by omega⟩
theorem same(d:aU)(hd:d.length<=1048576):∃L:aU,(c d=ai/\v d=L)/\(U118.c d=ai/\U118.v d=L)/\(∀y∈L,y.length=4)/\L.length<=20000:=by
 have k1:=eS.ok d (by omega);have k2:=xZ.ok d (by omega);cases hv:eS.val d with
 |false=>
  refine⟨[],out d ?_,U118.out d ?_,λy hy=>(by cases hy),bm _⟩
  ·unfold vo b;rw[k1.1,k1.2,hv];rfl
  ·unfold U118.vo U118.b;rw[k2.1,k2.2,hv];rfl
 |true=>
  have k3:=mb.ok d nm (by omega);have k4:=zr.ok d nm (by omega);obtain⟨R,u1,u2,u3⟩:=qN.same (mb.val d nm).1;obtain⟨L,g1,g2,g3,g4⟩:=both R.1 u3 R.1.length 0 [] Lib.cR Lib.cR (by omega) (bm _) ⟨gf,λy hy=>(by cases hy)⟩ (bm _) (cJ (by omega)) (cJ (by omega));refine⟨L,out d ?_,U118.out d ?_,λy hy=>(by rw[<-g3.2 y hy];rfl),g4⟩
  ·unfold nm at k3 u1;unfold vo b;rw[k1.1,k1.2,hv,ay,a9,aC,k3.1,ay,k3.2,u1.1,ay,u1.2];exact g2
  ·unfold nm at k4 u2;unfold U118.vo U118.b;rw[k2.1,k2.2,hv,ay,a9,aC,k4.1,ay,k4.2,u2.1,ay,u2.2];exact g1
end qK

namespace je
def kept:aq:={data:= #[au 107,au 101,au 112,au 116]}
def lT(f:aq):aU:=[[CV.i ao 1,CV.s kept,CV.s f,CV.s {data:= #[]}],[CV.i ao 2,CV.s kept,CV.s {data:= #[]},CV.s {data:= #[]}]]
def val(k:aq)(s l:az)(b:aq):aU×aW:=if h_.v k s l b=ai then(lT (fg.fr (jo.qS k s l b)),ai)else([],ak)
end je

namespace j_
open Lib (rd re rs el Fi En)
open eg (tV jZ act lT Et put without ra Ac m8)
open ik (So mo ff)
open RP (fs Stop)
abbrev pH:aq:={data:= #[au 107,au 101,au 112,au 116]}
def qS(e:En):aq:=jo.qS e.k e.st e.li e.bo
def Cb(e:En):aW:=h_.v e.k e.st e.li e.bo
def Hs(e:En):aq:=fg.fr (qS e)
def tx(es:ax En):aq:=fs (es.map qS)
def kp(es:ax En):ax En:=es.foldl mo []
theorem ZA(a b:ax aq):fs (a++b)=fs a++fs b:=by
 induction a with
 |nil=>exact n7.symm
 |cons x a ih=>rw[zk];show fg.fr x++fs (a++b)=fg.fr x++fs a++fs b;rw[ih,AX]
theorem U6(es:ax En)(e:En):tx (es++[e])=tx es++Hs e:=by unfold tx;rw[c8,ZA];show fs (es.map qS)++(fg.fr (qS e)++⟨#[]⟩)=_;rw[show(⟨#[]⟩:aq)=Ei from rfl,oY];rfl
theorem U7{e:En}(h:Cb e=ai):1<=(qS e).size/\(qS e).size<=1000:=⟨gZ.Ee h,gZ.vm h⟩
theorem wR{en:ax En}(h:So en)(e:En):So (mo en e):=by have:=(e8.uU (ik.Cv h) e.k e.st e.li e.bo).1.1;rw[ik.tZ]at this;unfold Lib.re at this;rw[jz]at this;exact this
theorem oy{en:ax En}{x e:En}:x∈mo en e↔x=e\/(x∈en/\x.k≠e.k):=by
 unfold mo;simp only[aZ,dh,aY,dt,gL,gi];constructor
 ·rintro ((⟨h1,h2⟩|rfl)|⟨h1,h2⟩)
  ·refine .inr ⟨h1,λe2=> ?_⟩;rw[e2]at h2;unfold ff at h2;rw[e8.nC]at h2;cases h2
  ·exact .inl rfl
  ·exact .inr ⟨h1,h2.2⟩
 ·rintro (rfl|⟨h1,h2⟩)
  ·exact .inl (.inr rfl)
  ·cases hl:ff x.k e.k with
   |true=>exact .inl (.inl ⟨h1,rfl⟩)
   |false=>exact .inr ⟨h1,rfl,h2⟩
theorem aak{es:ax En}{x:En}(h:x∈kp es):x∈es:=by
 have:∀(es o:ax En),x∈es.foldl mo o->x∈o\/x∈es:=by
  intro es;induction es with
  |nil=>intro o h;exact .inl h
  |cons e es ih=>
   intro o h;rcases ih _ h with h|h
   ·rcases oy.1 h with rfl|h
    ·exact .inr (by simp)
    ·exact .inl h.1
   ·exact .inr (by simp[h])
 rcases this es [] h with h|h
 ·cases h
 ·exact h
theorem OZ(es:ax En):(kp es).length<=es.length:=by
 have:∀(es o:ax En),So o->(es.foldl mo o).length<=o.length+es.length:=by
  intro es;induction es with
  |nil=>intro o h;exact cm _
  |cons e es ih=>intro o h;have:=ih _ (wR h e);have:=ik.sG o e h;simp only[Bb,cS];omega
 have:=this es [] gf;rw[iT,bO]at this;exact this
theorem fileAt(d:ax Fi)(n:aq):mb.val (rd d) n=match d.find? (λx=>decide (x.n=n))with|some f=>(f.t,ai)|none=>(⟨#[]⟩,ak):=by
 unfold mb.val;rw[fM];rcases jN.find d n with ⟨e1,e2⟩|⟨i,hi,e1,e2⟩
 ·rw[e1,e2];rfl
 ·rw[e1,e2,bJ (by omega),dJ,wd1 hi];rfl
theorem aof(es:ax En)(he:∀e∈es,Cb e=ai)(hl:es.length<=20000):∀(d i n:aE) (o:ax En),es.length-i<=d->i<=es.length->So o->o.length<=i->d<n->
  U118.l7 Lib.cR (λ(_ _:az) (y6:aU) (_:aU)=>ah y6) n (es.length:az) (i:az) (re o) (rs (es.map qS))=ah (re ((es.drop i).foldl mo o)):=by
 have e1:∀t,wz.v t=jg.v t:=λ_=>rfl;intro d;induction d with
 |zero=>
  intro i n o h1 h2 hO h3 h5;obtain⟨n,rfl⟩:∃n',n=n'+1:=⟨n-1,by omega⟩
  have:i=es.length:=by omega
  subst this;simp only[U118.l7,U118.r7,Lib.dE,bk,bg,aC,dg,R8]
 |succ d ih=>
  intro i n o h1 h2 hO h3 h5;obtain⟨n,rfl⟩:∃n',n=n'+1:=⟨n-1,by omega⟩
  by_cases hi:i<es.length
  ·have Bu:i<(es.map qS).length:=by simpa using hi
   have hk:=he _ (bD hi);have hr:jg.v (qS es[i])=(es[i].k,es[i].st,es[i].li,es[i].bo,ai):=jg.enc _ _ _ _ hk;have hp:=Bf.ok (re o) es[i].k es[i].st es[i].li es[i].bo (ik.Cv hO) (by rw[ej];omega);rw[ik.tZ o es[i]]at hp;have hg:(es.map qS)[i]=qS es[i]:=by simp
   simp only[U118.l7,U118.r7,Lib.dE,hi,er,bP,aR,Lib.cT,aM,ay,Lib.eD,RE Bu,hg,bM,e1,hr,hp.1,hp.2,Lib.dm hi (by omega:es.length<=9223372036854775807)];rw[dA hi,Bb];exact ih (i+1) n _ (by omega) hi (wR hO _) (by have:=ik.sG o es[i] hO;omega) (by omega)
  ·have:i=es.length:=by omega
   subst this;simp only[U118.l7,U118.r7,Lib.dE,bk,bg,aC,dg,R8]
theorem fk(d:ax Fi)(es:ax En)(z:aq)(hd:tV d=ai)(hf:(mb.val (rd d) pH).1=tx es++z)(he:∀e∈es,Cb e=ai)(hz:Stop z):
  (U118.c (rd d)=ai/\U118.v (rd d)=re (kp es))/\(qK.c (rd d)=ai/\qK.v (rd d)=re (kp es)):=by
 obtain⟨q1,q2,q3⟩:=jZ.1 hd;have hs:(tx es++z).size<=20000:=by
  rw[<-hf,fileAt];cases h:d.find? (λx=>decide (x.n=pH))with
  |none=>exact bm _
  |some f=>have:=q2 f (oF h);unfold m8 at this;simp only[aF,ba,dt,gi]at this;show f.t.size<=20000;omega
 have hl:es.length<=20000:=by
  have:∀es:ax En,es.length<=(tx es).size:=by
   intro es;induction es with
   |nil=>exact cm _
   |cons e es ih=>
    have:(tx (e::es)).size=(Hs e).size+(tx es).size:=dn;have h2:4<=(Hs e).size:=by unfold Hs fg.fr;rw[dn,dn,RP.nE];omega
    rw[this,cS];omega
  have h2:=this es;rw[dn]at hs;omega
 have u:=RP.ok (es.map qS) (λx hx=>by obtain⟨e,h,rfl⟩:=cO.1 hx;have:=U7 (he e h);omega) z hz hs;have k2:=jN.okc d (by omega);have k4:=zr.ok (rd d) pH (by rw[fM];omega);have h1:=U118.out (rd d) (x:=re (kp es)) (by unfold U118.vo U118.b;rw[k2.1,k2.2,hd,ay,a9,aC,k4.1,ay,k4.2,hf];have hu:=u.1;rw[show fs (es.map qS)=tx es from rfl]at hu;rw[hu.1,ay,hu.2];dsimp only;rw[er,bP];have:=aof es he hl es.length 0 Lib.cR [] (by omega) (bm _) gf (bm _) (cJ (by omega));rw[fA]at this;exact this);obtain⟨L,s1,s2,_⟩:=qK.same (rd d) (by rw[fM];omega);refine⟨h1,s1.1, ?_⟩
 rw[s1.2,<-s2.2,h1.2]
def base:aA aq->ax Fi
 |none=>[]|some t=>[⟨pH,t,t.size⟩]
def bt:aA aq->aq|none=>⟨#[]⟩|some t=>t
def xF(f:aq):ax Ac:=[⟨1,pH,f,⟨#[]⟩⟩,⟨2,pH,⟨#[]⟩,⟨#[]⟩⟩]
theorem ok1(f:Fi):tV [f]=m8 f:=by
 cases h:m8 f with
 |true=>exact jZ.2 ⟨by simp,λg hg=>by rw[aY.1 hg];exact h,by unfold eg.SoD;simp⟩
 |false=>
  cases h2:tV [f]with
  |false=>rfl
  |true=>have:=(jZ.1 h2).2.1 f (by simp);rw[h]at this;cases this
theorem Zz(t:aq)(k:az)(h1:t.size<=20000)(h2:0<=k/\k<=(t.size:az)):m8 ⟨pH,t,k⟩=true:=by unfold m8;have:((pH.size:aE):az)=4:=rfl;rw[this,aG (by omega),aG h2,aK (by dsimp only;omega)];rfl
theorem si{o:aA aq}(h:(bt o).size<=20000):tV (base o)=true:=by
 cases o with
 |none=>exact jZ.2 ⟨bm _,⟨λf hf=>(by cases hf),gf⟩⟩
 |some t=>exact(ok1 _).trans (Zz t _ h ⟨by omega,by omega⟩)
theorem u6{g f:Fi}(h:g.n=f.n):put [g] f=[f]:=by unfold put;rw[ca (by rw[h,eg.irrefl];simp),ca (by simp[h])];rfl
theorem Y6{o:aA aq}{f:aq}(h:(bt o).size+f.size<=20000):act (base o) 1 pH f ⟨#[]⟩=ah [⟨pH,bt o++f,(bt o).size⟩]:=by
 unfold act;rw[si (by omega),show eg.kB 1 f ⟨#[]⟩=ai from by unfold eg.kB;simp,aM,ay];have hs:(bt o++f).size<=20000:=by rw[dn];omega
 have hn:Et (base o) 1 pH f ⟨#[]⟩=ah [⟨pH,bt o++f,(bt o).size⟩]:=by
  cases o with
  |none=>unfold Et;show(if(1:az)=1 then ah (put [] ⟨pH,f,0⟩)else aj)=_;rw[bu rfl];show ah [(⟨pH,f,0⟩:Fi)]=ah [⟨pH,(⟨#[]⟩:aq)++f,((⟨#[]⟩:aq).size:az)⟩];rw[show(⟨#[]⟩:aq)++f=f from n7];rfl
  |some t=>unfold Et;rw[show(base (ah t)).find? (λx=>decide (x.n=pH))=ah ⟨pH,t,t.size⟩from by unfold base;simp];dsimp only;rw[bu rfl];exact kl ah (u6 rfl)
 rw[hn];dsimp only;rw[ok1,Zz _ _ hs ⟨by omega,by rw[dn];omega⟩];rfl
theorem TD{t:aq}{k:az}(h:t.size<=20000)(hk:0<=k/\k<=(t.size:az)):act [⟨pH,t,k⟩] 2 pH ⟨#[]⟩ ⟨#[]⟩=ah (base (ah t)):=by
 unfold act;rw[ok1,Zz _ _ h hk,show eg.kB 2 ⟨#[]⟩ ⟨#[]⟩=ai from by unfold eg.kB;simp,aM,ay];have hn:Et [⟨pH,t,k⟩] 2 pH ⟨#[]⟩ ⟨#[]⟩=ah (base (ah t)):=by unfold Et;rw[show([⟨pH,t,k⟩]:ax Fi).find? (λx=>decide (x.n=pH))=ah ⟨pH,t,k⟩from by simp];dsimp only;rw[bJ (by omega),bu rfl];exact kl ah (u6 rfl)
 rw[hn];dsimp only;rw[si (o:=ah t) h];rfl
theorem OU{o:aA aq}{f:aq}(h:(bt o).size+f.size<=20000):lT (base o) 0 (xF f)=(base (ah (bt o++f)),2):=by have hs:(bt o++f).size=(bt o).size+f.size:=dn;unfold xF lT;dsimp only;rw[Y6 h];dsimp only;unfold lT;dsimp only;rw[TD (by omega) ⟨by omega,by omega⟩];rfl
theorem KV(o:aA aq):(mb.val (rd (base o)) pH).1=bt o:=by
 rw[fileAt];cases o with
 |none=>rfl
 |some t=>rw[show(base (ah t)).find? (λx=>decide (x.n=pH))=ah ⟨pH,t,t.size⟩from by unfold base;simp];rfl
def kd(es:ax En):ax Fi:=base (match es with|[]=>aj|_=>ah (tx es))
theorem anC(es:ax En):∃o,kd es=base o/\bt o=tx es:=by
 cases es with
 |nil=>exact⟨aj,rfl,rfl⟩
 |cons e es=>exact⟨ah (tx (e::es)),rfl,rfl⟩
end j_

namespace vL
open Lib (Px Cl Fe En el)
def ec(f:aE)(st:az)(t:aq)(c:Cl):Cl:=bif decide (c.fe=(f:az)+1)&&decide (c.sta=1)then{c with sta:=st,got:=t}else c
def qz(cl:ax Cl)(f:aE)(st:az)(t:aq):ax Cl:=cl.map (ec f st t)
theorem uX{α:Type}(l:ax α)(g:α->α):l.mapIdx (λ_ c=>g c)=l.map g:=by apply ki<;>simp
end vL

namespace jA
open Lib (Px Cl Fe En el)
open s8 (kY)
open vL (qz)
def yS(p:Px)(f:az):aW:=kY p&&(decide (0<=f/\f<=(p.fe.length:az)-1)&&decide ((el p.fe f.toNat).sta=1))
def told(p:Px)(f:aE)(g:Fe)(st:az):Px:={p with fe:=p.fe.set f g,cl:=qz p.cl f st g.t}
theorem j4{p:Px}{f:az}(h:yS p f=ai):∃n:aE,f=(n:az)/\n<p.fe.length/\kY p=ai/\(el p.fe n).sta=1:=by unfold yS at h;simp only[aF,ba]at h;obtain⟨h1,h2,h3⟩:=h;exact⟨f.toNat,by omega,by omega,h1,h3⟩
theorem vl{p:Px}{n f:aE}{g:Fe}{st:az}(h:p.Fit n):(told p f g st).Fit n:=by
 refine⟨h.en,h.w,h.m,h.s, ?_, ?_⟩
 ·show(p.fe.set f g).length<=n;rw[c7];exact h.fe
 ·show(qz p.cl f st g.t).length<=n;unfold vL.qz;rw[bP];exact h.cl
def Jg(p:Px)(f:az):Px×aW:=bif yS p f then(told p f.toNat {el p.fe f.toNat with sta:=3} 3,ai)else(p,ak)
def J8(p:Px)(f:az)(t:aq):Px×aW:=
 bif yS p f&&(decide (1<=t.size/\t.size<=40)&&decide ((el p.fe f.toNat).t.size+t.size<=400))then(told p f.toNat {el p.fe f.toNat with t:=(el p.fe f.toNat).t++t} 1,ai)else(p,ak)
theorem rF{l:ax Fe}{n:aE}{g:Fe}(h:n<l.length):el (l.set n g) n=g:=by rw[fc (by rw[c7];exact h),mP]
theorem L9(l:ax Fe)(n j:aE)(ys:ax CV)(g:Fe)(h:n<l.length)(hs:iH (Fe.row (el l n)) j ys=Fe.row g):eA (Lib.rf l) n j ys=Lib.rf (l.set n g):=by rw[fc h]at hs;exact lN Fe.row l n j ys g h hs
theorem ade{p:Px}(h:kY p=ai)(i:aE)(hi:i<p.fe.length):nr.m8 p.now (el p.fe i)=true:=by unfold s8.kY at h;simp only[aF,ba]at h;obtain⟨_,_,_,_,_,h6,_⟩:=h;rw[bj]at h6;have:=h6 i (by simpa using hi);rw[aF]at this;exact this.1
end jA

namespace fU
theorem agC(x:az):0<=bC dQ x/\bC dQ x<4294967296:=by have e:bC dQ x=x%4294967296:=rfl;rw[e];omega
theorem aa2(x:az):0<=iW.rd x/\iW.rd x<4294967296:=by unfold iW.rd;cases decide (bI x 2=1)<;>exact agC _
theorem J_:∀(n:aE) (x:az),0<=x/\x<4294967296->0<=iW.my n x/\iW.my n x<4294967296
 |0,_,h=>h
 |n+1,x,_=>J_ n _ (aa2 x)
theorem QM(t:aq):∀(d i:aE) (s:az),0<=s/\s<4294967296->0<=iW.su t d i s/\iW.su t d i s<4294967296
 |0,_,_,h=>h
 |d+1,i,s,h=>QM t d (i+1) _ (J_ 8 _ (agC _))
def keyed(i:aE)(key:aq):aq:=key++bytesOf [[CV.i bc (i:az)]]
def sm(i:aE)(key:aq):az:=iW.su (keyed i key) (keyed i key).size 0 4294967295
def pl(i:aE)(key:aq):aE:=(bI (sm i key) 16).toNat
theorem Ia(i:aE)(key:aq):0<=sm i key/\sm i key<4294967296:=QM _ _ _ _ (by omega)
theorem pl_int(i:aE)(key:aq):bI (sm i key) 16=(pl i key:az):=by have:=Ia i key;have h:0<=bI (sm i key) 16:=R6 _ this.1;unfold pl;omega
theorem Cz(i:aE)(key:aq):pl i key<16:=by have:=Ia i key;have h:=Int.tmod_lt_of_pos (sm i key) (show(0:az)<16 by omega);have h2:0<=bI (sm i key) 16:=R6 _ this.1;unfold pl;omega
theorem AK(i:aE)(key:aq):(keyed i key).size=key.size+1:=by unfold keyed;rw[dn,AJ]
theorem ok(i:aE)(key:aq)(hi:i<3)(hk:key.size<=140737488355328):c (i:az) key=ai/\v (i:az) key=(pl i key:az):=by
 refine out _ _ ?_;unfold vo b;have e:(key++bytesOf (aw (aN [Ck.i bc] 1) 0 [CV.i bc (bC bc (i:az))]))=keyed i key:=by
  unfold keyed;match i,hi with
  |0,_=>rfl
  |1,_=>rfl
  |2,_=>rfl
 have hs:=AK i key;have h:=tF.ok (keyed i key) (by omega);have e2:fH key+fH (bytesOf (aw (aN [Ck.i bc] 1) 0 [CV.i bc (bC bc (i:az))]))=key.size+1:=by rw[oV,AJ]
 rw[e2,e,aG (by omega),ay,h.1,h.2,ay];have hp:=pl_int i key;have hl:=Cz i key;unfold sm at hp;rw[hp,cX (by omega) (by omega)]
end fU

namespace lR
open Lib (rr)
theorem run(N:aE)(K0:az->aU->az->az->az->aA R)(K1:az->aU->az->az->az->aU->aA R)(s:ax (ax az))(z y a:az)(hf:iK.oc s)(m:aE)(hm:s.length+1<m)(kr:aU->aA R)
  (h0:s=[]->K0 0 (rr s) z y a=kr []) (h1:K1 s.length (rr s) z y a (rr s)=kr (rr s)):l3 N K0 K1 m 0 (rr s) z y a=kr (rr s):=by
 obtain⟨m,rfl⟩:∃m',m=m'+1:=⟨m-1,by omega⟩
 have hz:∀q:aU,aN [Ck.i ao] 0++q=q:=λq=>rfl;have ZL:∀i (h:i<s.length),cy (bT (aN [Ck.i ao] 0)+bT (Lib.ri s[i])) 8=true:=λi h=>by have:=hf.2 _ (bD h);exact Lib.cF (by rw[Lib.fV];simp[aN];omega) (by rw[Lib.fV];simp[aN];omega)
 by_cases hs:s=[]
 ·subst hs;simp only[l3,r3,gk,iT,Rg,YD,bg,aC];exact h0 rfl
 ·have hp:0<s.length:=IQ.2 hs;have key:=lI (R:=R) s.length (λm i (x:aU)=>qP N K0 K1 m (i:az) (rr s) z y a x) (λi=>rr (s.take i)) (kr (rr s)) (λm i h=>by
   have hl:=hf.1;simp only[qP,wM,gk,Lib.dE,h,aR,ay,Lib.cT,bG,Lib.eD,Ew h,g9,ZL i h,hz,oV,bQ];rw[Lib.cF (by rw[dU];omega) (by rw[dU];omega),ay,Lib.dm h (by omega)];have:=nF (λq=>[CV.l 3 (Lib.ri q)]) s i h;unfold rr;rw[<-this]) (λm=>by
   simp only[qP,wM,gk,Lib.dE,bk,bg,aC,gE];exact h1) m 1 hp (by omega)
  have e:=ZL 0 hp;have e0:=Ew (l:=s) hp;simp only[l3,r3,aG (show(0:az)<(s.length:az)by omega),ay,aM,gk,show decide ((0:az)<=0)=ai from rfl,show aX 0=0 from rfl,e0,g9,e,hz,ay,oV,fF];rw[show bE (0+1)=((1:aE):az)from rfl];refine RX ?_ key;have:=nF (λq=>[CV.l 3 (Lib.ri q)]) s 0 hp;unfold rr;rw[show(0+1)=1 from rfl]at this;rw[<-this];rfl
theorem ok(s:ax (ax az))(a:az)(hf:iK.oc s):c (rr s) a=ai/\v (rr s) a=(rr s,a):=by refine out _ _ ?_;unfold vo b;exact run Lib.cR (λ_ _ _ _ y=>ah ([],y)) (λ_ _ _ _ xO Q3=>ah (Q3,xO)) s a 0 a hf Lib.cR (cJ (by have:=hf.1;omega)) (λx=>ah (x,a)) (λ_=>rfl) rfl
end lR

namespace fG
open Lib (rr ri)
def bq(p:aE)(q:ax az):ax az:=q.set p (bif decide (q.getD p 0<15)then q.getD p 0+1 else q.getD p 0)
def Bn(s:ax (ax az))(key:aq):ax (ax az):=s.mapIdx λi q=>bq (fU.pl i key) q
def half(s:ax (ax az)):ax (ax az):=s.map λq=>q.map λn=>cG n 2
def val(s:ax (ax az))(a:az)(key:aq):ax (ax az)×az:=
 bif eW.jK s a then(bif decide (a+1=64)then(half (Bn s key),0)else(Bn s key,a+1))else(s,a)
def fR(q:ax az):ax CV:=[CV.l 3 (ri q)]
theorem Gh(q:ax az)(p:aE)(x:az)(h:p<q.length):eA (ri q) p 0 [CV.i ao x]=ri (q.set p x):=lN (λn=>[CV.i ao n]) q p 0 _ x h rfl
theorem D8(L:ax (ax az))(i:aE)(q:ax az)(h:i<L.length):eA (L.map fR) i 0 [CV.l 3 (ri q)]=(L.set i q).map fR:=lN fR L i 0 _ q h rfl
theorem zH(L:ax (ax az))(i:aE)(h:i<L.length):ar (L.map fR) i 0=CV.l 3 (ri L[i]):=fJ fR L i 0 h
theorem u5{s:ax (ax az)}{a:az}(h:eW.jK s a=ai):s.length=3/\(0<=a/\a<=63)/\∀q∈s,q.length=16/\∀n∈q,0<=n/\n<=15:=by
 unfold eW.jK at h;rw[aF,aF]at h;refine⟨cg h.1,cg h.2.1,λq hq=> ?_⟩
 have:=bj.1 h.2.2 q hq;unfold eW.qE at this;rw[aF]at this;refine⟨cg this.1,λn hn=> ?_⟩
 have:=bj.1 this.2 n hn;unfold eW.JS at this;exact cg this
theorem oj{q:ax az}{p:aE}(h:p<q.length):q.getD p 0=q[p]:=by simp[jm,h]
theorem aa3(K:aq->az->az->az->aU->aA R)(s:ax (ax az))(key:aq)(y a:az)(hs:s.length=3)(hq:∀q∈s,q.length=16/\∀n∈q,0<=n/\n<=15)(hk:key.size<=140737488355328):
  l5 Lib.cR K Lib.cR key 0 y a (rr s)=K key 3 y a (rr (Bn s key)):=by
 refine(qt fR s (λi q=>bq (fU.pl i key) q) (λm (i:aE) x=>l5 Lib.cR K m key (i:az) y a x) (λx=>K key 3 y a x) (λm i L h h2 hL DH=> ?_) (λm L hL=> ?_) Lib.cR (cJ (by omega)))
 ·have hp:=fU.ok i key (by omega) hk;have sA:=fU.Cz i key;obtain⟨JE,hn⟩:=hq _ (bD h);have e0:ar (L.map fR) i 0=CV.l 3 (ri s[i]):=by rw[zH L i h2,DH]
  have hb:fU.pl i key<s[i].length:=by omega
  have hx:=hn _ (bD hb);simp only[l5,r5,bP,Lib.dE,h2,aR,ay,hp.1,hp.2,Lib.cT,aM,Lib.eD,e0,g9,Lib.fV,JE,sA,Qa hb,bU];unfold bq;rw[oj hb];cases hd:decide (s[i][fU.pl i key]<15)with
  |true=>have:=cg hd;rw[ay,ay,cX (x:=s[i][fU.pl i key]+1) (by omega) (by omega),Gh _ _ _ hb,D8 _ _ _ h2,Lib.dm h2 (by omega)]
  |false=>rw[aC,aC,Lib.dm h2 (by omega),jD,<-DH,jD]
 ·simp only[l5,r5,bP,Lib.dE,hL,bk,bg,aC,hs];rfl
theorem rC{s:ax (ax az)}{key:aq}(hs:s.length=3)(hq:∀q∈s,q.length=16/\∀n∈q,0<=n/\n<=15):(Bn s key).length=3/\∀q∈Bn s key,q.length=16/\∀n∈q,0<=n/\n<=15:=by
 unfold Bn;refine⟨by simp[hs],λq hm=> ?_⟩
 obtain⟨i,hi,rfl⟩:=List.mem_mapIdx.1 hm;obtain⟨JE,hn⟩:=hq _ (bD hi);unfold bq;have hb:fU.pl i key<s[i].length:=by have:=fU.Cz i key;omega
 refine⟨by rw[c7];exact JE,λn h=> ?_⟩
 rcases ly h with h|h
 ·exact hn n h
 ·rw[oj hb]at h;have hx:=hn _ (bD hb);rw[h];cases hd:decide (s[i][fU.pl i key]<15)with
  |true=>have:=cg hd;rw[ay];omega
  |false=>rw[aC];exact hx
theorem afE(K:az->az->az->az->aU->aA R)(L:ax (ax az))(i:aE)(h:i<L.length)(y a:az)(hl:L.length<=1048576)(hq:L[i].length=16)(hn:∀n∈L[i],0<=n/\n<=15):
  l17 Lib.cR K Lib.cR (i:az) 0 y a (L.map fR)=K i 16 y a ((L.set i (L[i].map λn=>cG n 2)).map fR):=by
 have We:L[i].mapIdx (λ_ n=>cG n 2)=L[i].map λn=>cG n 2:=by apply ki<;>simp
 have key:=lI (L[i].length) (λm (k:aE) x=>l17 Lib.cR K m (i:az) (k:az) y a x) (λk=>(L.set i (mX L[i] (λ_ n=>cG n 2) k)).map fR) (K i 16 y a ((L.set i (L[i].map λn=>cG n 2)).map fR)) (λm k hk=> ?_) (λm=> ?_) Lib.cR 0 (bm _) (cJ (by omega))
 ·rw[AQ,jD]at key;exact key
 ·have hu:=pC L[i] (λ_ n=>cG n 2) k (by omega);generalize hU:mX L[i] (λ_ n=>cG n 2) k=U at hu;have ZW:k<U.length:=by omega
  have fN:U[k]=L[i][k]:=by subst hU;exact vn _ _ _ hk _
  have Z6:U.set k (cG L[i][k] 2)=mX L[i] (λ_ n=>cG n 2) (k+1):=by subst hU;exact rU L[i] (λ_ n=>cG n 2) k hk
  have h2:i<(L.set i U).length:=by simpa using h
  have e0:ar ((L.set i U).map fR) i 0=CV.l 3 (ri U):=by rw[zH _ _ h2,mP]
  have hx:=hn _ (bD hk);have ht:0<=cG L[i][k] 2:=R5 hx.1 (by omega);have Es:cG L[i][k] 2<=15:=wZ (Rh _ hx.1) hx.2;simp only[l17,r17,bP,c7,Lib.dE,h,ZW,aR,ay,Lib.cT,aM,Lib.eD,e0,g9,Lib.fV,Qa ZW,bU,fN];rw[cX (x:=cG L[i][k] 2) (by omega) (by omega),Gh _ _ _ ZW,D8 _ _ _ h2,Z6,List.set_set,Lib.dm hk (by omega)]
 ·have e0:ar ((L.set i (mX L[i] (λ_ n=>cG n 2) L[i].length)).map fR) i 0=CV.l 3 (ri (L[i].map λn=>cG n 2)):=by rw[zH _ _ (by simpa using h),mP,pB,We]
  simp only[l17,r17,bP,c7,Lib.dE,h,aR,ay,Lib.cT,aM,Lib.eD,e0,g9,Lib.fV,bk,bg,aC];rw[pB,We,hq];rfl
theorem afC(K:az->az->az->aU->aA R)(s:ax (ax az))(y a:az)(hs:s.length=3)(hq:∀q∈s,q.length=16/\∀n∈q,0<=n/\n<=15):
  l14 Lib.cR K Lib.cR 0 y a (rr s)=K 3 y a (rr (half s)):=by
 have We:s.mapIdx (λ_ q=>q.map λn=>cG n 2)=half s:=by unfold half;apply ki<;>simp
 rw[<-We];refine(qt fR s (λ_ q=>q.map λn=>cG n 2) (λm (i:aE) x=>l14 Lib.cR K m (i:az) y a x) (λx=>K 3 y a x) (λm i L h h2 hL DH=> ?_) (λm L hL=> ?_) Lib.cR (cJ (by omega)))
 ·obtain⟨JE,hn⟩:=hq _ (bD h);simp only[l14,r14,bP,Lib.dE,h2,aR,ay];rw[afE _ L i h2 y a (by omega) (by rw[DH];exact JE) (by rw[DH];exact hn),Lib.dm h2 (by omega),DH]
 ·simp only[l14,r14,bP,Lib.dE,hL,bk,bg,aC,hs];rfl
theorem ok(s:ax (ax az))(a:az)(key:aq)(hf:iK.oc s)(hk:key.size<=140737488355328):c (rr s) a key=ai/\v (rr s) a key=(rr (val s a key).1,(val s a key).2):=by
 refine out _ _ _ ?_;have h1:=lR.ok s a hf;have h2:=eW.ok s a hf;unfold vo b val;rw[h1.1,h1.2,h2.1,h2.2,ay,ay];cases b7:eW.jK s a with
 |false=>rfl
 |true=>
  obtain⟨hs,ha,hq⟩:=u5 b7;obtain⟨b1,b2⟩:=rC (key:=key) hs hq;rw[a9,aC,ay,aa3 _ s key _ _ hs hq hk,cX (x:=a+1) (by omega) (by omega)];cases hd:decide (a+1=64)with
  |false=>rfl
  |true=>rw[ay,ay,afC _ _ _ _ b1 b2]
end fG

namespace mD
open Lib (rr ri)
def gs(key:aq):aE->ax (ax az)->az->az
 |_,[],x=>x
 |i,q::r,x=>gs key (i+1) r (bif decide (q.getD (fU.pl i key) 0<x)then q.getD (fU.pl i key) 0 else x)
def val(s:ax (ax az))(a:az)(key:aq):az:=bif eW.jK s a then gs key 0 s 15 else 0
theorem JD(key:aq)(s:ax (ax az))(i:aE)(h:i<s.length)(x:az):gs key i (s.drop i) x=gs key (i+1) (s.drop (i+1)) (bif decide (s[i].getD (fU.pl i key) 0<x)then s[i].getD (fU.pl i key) 0 else x):=by rw[dA h];rfl
theorem ok(s:ax (ax az))(a:az)(key:aq)(hf:iK.oc s)(hk:key.size<=140737488355328):c (rr s) a key=ai/\v (rr s) a key=val s a key:=by
 refine out _ _ _ ?_;have h2:=eW.ok s a hf;unfold vo b val;rw[h2.1,h2.2,ay];cases b7:eW.jK s a with
 |false=>rfl
 |true=>
  obtain⟨hs,ha,hq⟩:=fG.u5 b7;rw[a9,aC,ay];have:=Lib.gv (λm (t:aE×az)=>l5 Lib.cR (λ(_:aq) (y6 _:az) (_:aU) (_:az)=>ah y6) m key t.2 (t.1:az) (rr s) a) (λt=>s.length-t.1) (λt=>t.1<=s.length) (λt=>ah (gs key t.1 (s.drop t.1) t.2)) (λm t ht=>by
   obtain⟨i,x⟩:=t;dsimp only at ht⊢;by_cases h:i<s.length
   ·right;have hp:=fU.ok i key (by omega) hk;have sA:=fU.Cz i key;obtain⟨JE,hn⟩:=hq _ (bD h);have hb:fU.pl i key<s[i].length:=by omega
    refine⟨(i+1,bif decide (s[i].getD (fU.pl i key) 0<x)then s[i].getD (fU.pl i key) 0 else x),by dsimp only;omega,by dsimp only;omega,by rw[<-JD key s i h x], ?_⟩
    simp only[l5,r5,gk,Lib.dE,h,aR,ay,hp.1,hp.2,Lib.cT,aM,Lib.eD,Ew h,g9,Lib.fV,JE,sA,Qa hb,bU,Lib.dm h (by omega:s.length<=9223372036854775807)];rw[fG.oj hb];cases decide (s[i][fU.pl i key]<x)<;>rfl
   ·left;have:i=s.length:=by omega
    subst this;simp only[l5,r5,gk,Lib.dE,bk,bg,aC,dg,gs]) Lib.cR (0,15) (bm _) (cJ (by dsimp only;omega))
  simpa using this
end mD

namespace eR
open Lib (rr rs)
theorem ok(w m:ax aq)(s:ax (ax az))(a:az)(hw:w.length<=1048576)(hm:m.length<=1048576)(hf:iK.oc s):c (rs w) (rs m) (rr s) a=ai/\v (rs w) (rs m) (rr s) a=(rs w,rs m,rr s,a):=by have h3:=lR.ok s a hf;have r1:cy (bT (aN [Ck.s] 0)+bT (rs w)) 16=true:=Lib.cF (by simp[aN,er];omega) (by simp[aN,er];omega);have r2:cy (bT (aN [Ck.s] 0)+bT (rs m)) 16=true:=Lib.cF (by simp[aN,er];omega) (by simp[aN,er];omega);exact out _ _ _ _ (by unfold vo b;rw[r1,r2,h3.1,h3.2,ay,ay,ay];rfl)
end eR

namespace nL
theorem ok(l:ax aq)(k:aq)(hl:l.length<=1048576):c (Lib.rs l) k=ai/\v (Lib.rs l) k=Lib.rs (eQ.without l k):=by
 refine out _ _ ?_;unfold vo b;have key:=lI l.length (λm (i:aE) (x:aU)=>l3 Lib.cR (λ(_:aU) (_:aq) (_:az) (y7:aU)=>ah y7) m (Lib.rs l) k (i:az) x) (λi=>Lib.rs (eQ.without (l.take i) k)) (ah (Lib.rs (eQ.without l k))) (λm i h=>by
  have hlen:=eQ.iC (l:=l.take i) (k:=k);rw[dU]at hlen;simp only[l3,r3,er,Lib.dE,h,aR,Lib.cT,aM,ay,Lib.eD,RE h,bM,Lib.fB,oV,bQ,Lib.dm h (by omega:l.length<=9223372036854775807)];rw[Lib.cF (by omega) (by omega),ay];have e:eQ.without (l.take (i+1)) k=eQ.without (l.take i) k++(bif !decide (l[i]=k)then [l[i]]else []):=by unfold eQ.without;rw[dq h,jl];cases hd:decide (l[i]=k)<;>simp[hd]
  rw[e];cases hd:decide (l[i]=k)with
  |true=>rw[a9,aC,aC,dH]
  |false=>rw[bS,ay,ay];unfold Lib.rs;rw[c8];rfl) (λm=>by
  simp only[l3,r3,er,Lib.dE,bk,bg,aC,gE]) Lib.cR 0 (bm _) (cJ (by omega))
 exact key
end nL

namespace j7
open Lib (rr rs)
open eQ (has without fX kV AU iC qu)
open iV (eh HH mj oT iB)
def val(w m:ax aq)(s:ax (ax az))(a:az)(key:aq):ax aq×ax aq×ax (ax az)×az×aq:=
 bif oT w m s a&&eh key then
  bif has w key then(without w key++[key],m,(fG.val s a key).1,(fG.val s a key).2,⟨#[]⟩)
  else bif has m key then(w,without m key++[key],(fG.val s a key).1,(fG.val s a key).2,⟨#[]⟩)
  else bif decide ((w++[key]).length<=2)then(w++[key],m,(fG.val s a key).1,(fG.val s a key).2,⟨#[]⟩)
  else bif decide (m.length<4)then((w++[key]).tail,m++[(w++[key]).getD 0 ⟨#[]⟩],(fG.val s a key).1,(fG.val s a key).2,⟨#[]⟩)
  else bif decide (mD.val (fG.val s a key).1 (fG.val s a key).2 ((w++[key]).getD 0 ⟨#[]⟩)>mD.val (fG.val s a key).1 (fG.val s a key).2 (m.getD 0 ⟨#[]⟩))then
   ((w++[key]).tail,m.tail++[(w++[key]).getD 0 ⟨#[]⟩],(fG.val s a key).1,(fG.val s a key).2,m.getD 0 ⟨#[]⟩)
  else((w++[key]).tail,m,(fG.val s a key).1,(fG.val s a key).2,(w++[key]).getD 0 ⟨#[]⟩)
 else(w,m,s,a,⟨#[]⟩)
theorem Kb(l:ax aq)(k:aq):rs l++[[CV.s k]]=rs (l++[k]):=by unfold Lib.rs;rw[c8];rfl
theorem zer(l:ax aq):aN [Ck.s] 0++rs l=rs l:=rfl
theorem V8(l:ax aq):bM (ar (rs l) (aX 0) 0)=l.getD 0 ⟨#[]⟩:=by cases l<;>rfl
theorem Yc(l:ax aq):dW (rs l) (aX 1) (aX (l.length:az))=rs l.tail:=by unfold dW Lib.rs;rw[show aX 1=1 from rfl,Lib.eD,List.drop_one,<-List.map_tail,ir (by simp)]
theorem qg{l:ax aq}(h:mj l=ai){k:aq}(hk:k∈l):eh k=true:=by
 unfold mj at h;rw[bj]at h;obtain⟨i,hi,rfl⟩:=dr hk;have:=h i (by simpa using hi);unfold HH at this;rw[aF]at this;have e:l.getD i ⟨#[]⟩=l[i]:=by simp[jm,hi]
 rw[e]at this;exact this.1
theorem Aa{l:ax aq}:mj l=ai↔(∀k∈l,eh k=ai)/\l.Nodup:=by
 constructor
 ·intro h;refine⟨λk hk=>qg h hk, ?_⟩
  rw[n9,db];intro i j hi hj Lf he;unfold mj at h;rw[bj]at h;have h2:=h j (by simpa using hj);unfold HH at h2;have e:l.getD j ⟨#[]⟩=l[j]:=by simp[jm,hj]
  rw[e,aF,dt,kV]at h2;refine h2.2 ?_;rw[<-he];have:(l.take j)[i]'(by rw[dU];omega)=l[i]:=xT ..;rw[<-this];exact bD _
 ·intro h;unfold mj;rw[bj];intro j hj;have hj:j<l.length:=by simpa using hj
  unfold HH;have e:l.getD j ⟨#[]⟩=l[j]:=by simp[jm,hj]
  rw[e,aF,dt,kV];refine⟨h.1 _ (bD hj),λhm=> ?_⟩
  obtain⟨i,hi,he⟩:=dr hm;rw[dU]at hi;rw[xT]at he;have h2:=h.2;rw[n9,db]at h2;exact h2 i j (by omega) hj (by omega) he
theorem po{k:aq}(h:eh k=ai):1<=k.size/\k.size<=30:=by unfold eh at h;have:=cg h;omega
theorem Qk{s:ax (ax az)}{a:az}{key:aq}(h:iK.oc s):iK.oc (fG.val s a key).1:=by
 unfold fG.val;cases b7:eW.jK s a with
 |false=>exact h
 |true=>
  obtain⟨hs,_,hq⟩:=fG.u5 b7;obtain⟨b1,b2⟩:=fG.rC (key:=key) hs hq;rw[ay];cases decide (a+1=64)with
  |false=>exact⟨by rw[aC];dsimp only;omega,λq h=>by have:=(b2 q h).1;omega⟩
  |true=>
   rw[ay];dsimp only;unfold fG.half;refine⟨by rw[bP];omega,λq h=> ?_⟩
   obtain⟨q',hq',rfl⟩:=cO.1 h;rw[bP];have:=(b2 q' hq').1;omega
theorem zT{l:ax aq}(h:0<l.length):l.getD 0 ⟨#[]⟩∈l:=by
 cases l with
 |nil=>simp at h
 |cons x r=>exact du ..
theorem DY{w m:ax aq}{s:ax (ax az)}{a:az}(h:oT w m s a=ai):mj (w++m)=ai/\w.length<=2/\m.length<=4/\eW.jK s a=true:=by unfold oT at h;simp only[aF,ba]at h;exact⟨h.1,h.2.1,h.2.2.1,h.2.2.2⟩
theorem ok(w m:ax aq)(s:ax (ax az))(a:az)(key:aq)(hw:w.length<=1048576)(hm:m.length<=1048576)(hf:iK.oc s)(hk:key.size<=140737488355328):
  c (rs w) (rs m) (rr s) a key=ai/\v (rs w) (rs m) (rr s) a key=(rs (val w m s a key).1,rs (val w m s a key).2.1,rr (val w m s a key).2.2.1,(val w m s a key).2.2.2.1,(val w m s a key).2.2.2.2):=by
 refine out _ _ _ _ _ ?_;have h1:=eR.ok w m s a hw hm hf;have h2:=iV.ok w m s a hw hm hf;have h3:=fG.ok s a key hf hk;have h4:=eQ.ok w key (by omega);have h5:=eQ.ok m key (by omega);have h6:=nL.ok w key hw;have h7:=nL.ok m key hm;have sf:=Qk (a:=a) (key:=key) hf;unfold vo b;simp only[Lib.lt,h1.1,h1.2,h2.1,h2.2,ay];unfold val;cases hp:oT w m s a with
 |false=>rfl
 |true=>
  obtain⟨p1,p2,p3,p4⟩:=DY hp;rw[iB,bG];cases xE:eh key with
  |false=>rfl
  |true=>
   have Bw:=po xE;have l6:=iC (l:=w) (k:=key);have l7:=iC (l:=m) (k:=key);simp only[a9,aC,ay,h3.1,h3.2,h4.1,h4.2,h5.1,h5.2,h6.1,h6.2,h7.1,h7.2,Kb,zer,er,oV,bQ];rw[Lib.cF (n:=(without w key).length+1) (by omega) (by omega),Lib.cF (n:=(without m key).length+1) (by omega) (by omega),Lib.cF (n:=w.length+1) (by omega) (by omega)];simp only[ay];cases hA:has w key with
   |true=>rfl
   |false=>
    cases hB:has m key with
    |true=>rfl
    |false=>
     simp only[aC];rw[show decide (((w++[key]).length:az)<=2)=decide ((w++[key]).length<=2)by rw[b9];omega];cases hC:decide ((w++[key]).length<=2)with
     |true=>rfl
     |false=>
      have hlw:(w++[key]).length=3:=by have:=sZ hC;rw[bX,bQ]at this⊢;omega
      have hfm:(w++[key]).getD 0 ⟨#[]⟩∈w++[key]:=zT (by omega);have Rz:((w++[key]).getD 0 ⟨#[]⟩).size<=30:=by
       rcases aZ.1 hfm with h|h
       ·exact(po (qg p1 (bR _ h))).2
       ·rw[aY]at h;rw[h];exact Bw.2
      have g1:=mD.ok (fG.val s a key).1 (fG.val s a key).2 ((w++[key]).getD 0 ⟨#[]⟩) sf (by omega);have i1:iy 1 ((w++[key]).length:az) ((w++[key]).length:az)=true:=by rw[hlw];rfl
      have ht:(w++[key]).tail.length=2:=by rw[Nr];omega
      have rz:cy (bT (aN [Ck.s] 0)+(w++[key]).tail.length) 16=true:=Lib.cF (by rw[ht];decide) (by rw[ht];decide);simp only[aC,aG (show(0:az)<((w++[key]).length:az)by omega),i1,ay,V8,Yc,rz,zer,Kb,er,Lib.cF (n:=m.length+1) (b:=16) (by omega) (by omega),g1.1,g1.2];rw[show decide ((m.length:az)<4)=decide (m.length<4)by rw[b9];omega];cases hD:decide (m.length<4)with
      |true=>rfl
      |false=>
       have hm4:m.length=4:=by have:=sZ hD;omega
       have hmm:m.getD 0 ⟨#[]⟩∈m:=zT (by omega);have hms:=(po (qg p1 (bH _ hmm))).2;have g2:=mD.ok (fG.val s a key).1 (fG.val s a key).2 (m.getD 0 ⟨#[]⟩) sf (by omega);have i2:iy 1 (m.length:az) (m.length:az)=true:=by simp[iy];omega
       have Es:m.tail.length=3:=by rw[Nr];omega
       have rz2:cy (bT (aN [Ck.s] 0)+m.tail.length) 16=true:=Lib.cF (by rw[Es];decide) (by rw[Es];decide);simp only[aC,aG (show(0:az)<(m.length:az)by omega),i2,ay,rz2,Kb,Lib.cF (n:=m.tail.length+1) (b:=16) (by omega) (by omega),g2.1,g2.2];cases decide (mD.val (fG.val s a key).1 (fG.val s a key).2 ((w++[key]).getD 0 ⟨#[]⟩)>mD.val (fG.val s a key).1 (fG.val s a key).2 (m.getD 0 ⟨#[]⟩))<;>rfl
def lens(s:ax (ax az)):ax aE:=s.map bT
theorem Cs(s:ax (ax az))(key:aq):lens (fG.Bn s key)=lens s:=by
 unfold lens fG.Bn;apply ki
 ·simp
 ·intro i h1 h2;simp[fG.bq]
theorem LB(s:ax (ax az)):lens (fG.half s)=lens s:=by unfold lens fG.half;rw[kT];apply Mi;intro q _;simp
theorem TF(s:ax (ax az))(a:az)(key:aq):lens (fG.val s a key).1=lens s:=by
 unfold fG.val;cases eW.jK s a with
 |false=>rfl
 |true=>
  cases decide (a+1=64)with
  |false=>exact Cs s key
  |true=>exact(LB _).trans (Cs s key)
theorem QP(w m:ax aq)(s:ax (ax az))(a:az)(key:aq):(val w m s a key).1.length<=w.length+1/\(val w m s a key).2.1.length<=m.length+1/\lens (val w m s a key).2.2.1=lens s:=by
 have hw:=iC (l:=w) (k:=key);have hm:=iC (l:=m) (k:=key);have hs:=TF s a key;unfold val;cases oT w m s a&&eh key with
 |false=>exact⟨by rw[aC];exact iI _,by rw[aC];exact iI _,rfl⟩
 |true=>
  rw[ay];cases has w key with
  |true=>refine⟨?_, ?_,hs⟩<;>(simp only[ay];simp;try omega)
  |false=>
   cases has m key with
   |true=>refine⟨?_, ?_,hs⟩<;>(simp only[ay,aC];simp;try omega)
   |false=>
    cases decide ((w++[key]).length<=2)with
    |true=>refine⟨?_, ?_,hs⟩<;>(simp only[ay,aC];simp;try omega)
    |false=>
     cases decide (m.length<4)with
     |true=>refine⟨?_, ?_,hs⟩<;>(simp only[ay,aC];simp;try omega)
     |false=>
      cases decide (mD.val (fG.val s a key).1 (fG.val s a key).2 ((w++[key]).getD 0 ⟨#[]⟩)>mD.val (fG.val s a key).1 (fG.val s a key).2 (m.getD 0 ⟨#[]⟩))with
      |true=>refine⟨?_, ?_,hs⟩<;>(simp only[ay,aC];simp;try omega)
      |false=>refine⟨?_, ?_,hs⟩<;>(simp only[ay,aC];simp;try omega)
end j7

namespace m9
open Lib (rr rs re rf rc Px En el)
open eQ (has)
open ik (ff So fK mo zK drop_nil Cv tZ SC ac2 sG)
def Ii(p:Px)(e:En):Px:=
 {p with
  w:=(j7.val p.w p.m p.s p.a e.k).1
  m:=(j7.val p.w p.m p.s p.a e.k).2.1
  s:=(j7.val p.w p.m p.s p.a e.k).2.2.1
  a:=(j7.val p.w p.m p.s p.a e.k).2.2.2.1
  en:=bif has (j7.val p.w p.m p.s p.a e.k).1 e.k||has (j7.val p.w p.m p.s p.a e.k).2.1 e.k then mo (fK p.en (j7.val p.w p.m p.s p.a e.k).2.2.2.2) e else fK p.en (j7.val p.w p.m p.s p.a e.k).2.2.2.2}
theorem afI{en:ax En}{w m:ax aq}(h:(cz en.length).all (mC.Ep en w m)=ai):So en/\∀e∈en,1<=e.k.size:=by
 rw[bj]at h;have h1:∀i (hi:i<en.length),mC.Ep en w m i=true:=λi hi=>h i (by simpa using hi);constructor
 ·have adj:∀d i (hi:i+d+1<en.length),ff (el en i).k (el en (i+d+1)).k=true:=by
   intro d;induction d with
   |zero=>
    intro i hi;have:=h1 (i+1) (by omega);unfold mC.Ep at this;rw[aF,aF,dv]at this;rcases this.2.1 with h|h
    ·have:=cg h;omega
    ·exact h
   |succ d ih=>
    intro i hi;have a:=ih i (by omega);have:=h1 (i+d+1+1) (by omega);unfold mC.Ep at this;rw[aF,aF,dv]at this;rcases this.2.1 with h|h
    ·have:=cg h;omega
    ·exact e8.pe _ _ _ a h
  unfold So;rw[db];intro i j hi hj Lf;have:=adj (j-i-1) i (by omega);rw[show i+(j-i-1)+1=j by omega,fc hi,fc hj]at this;exact this
 ·intro e he;obtain⟨i,hi,rfl⟩:=dr he;have:=h1 i hi;unfold mC.Ep mC.sV at this;rw[aF,fc hi]at this;exact(h_.Eu this.1).1.1
theorem J9{p:Px}(h:s8.kY p=ai):So p.en/\(∀e∈p.en,1<=e.k.size)/\p.en.length<=6/\p.w.length<=2/\p.m.length<=4/\p.fe.length<=20/\p.cl.length<=6/\(1<=p.now/\p.now<=1000000000)/\(0<=p.hits/\p.hits<=1000000000)/\iV.oT p.w p.m p.s p.a=ai/\(∀i,i<p.fe.length->nr.m8 p.now (el p.fe i)=ai):=by
 unfold s8.kY at h;simp only[aF,ba]at h;obtain⟨h1,h2,h3,h4,h5,h6,h7⟩:=h;unfold mC.Jo at h2;simp only[aF,ba]at h2;obtain⟨g1,g2,g3⟩:=h2;obtain⟨s1,s2⟩:=afI g1;obtain⟨_,q2,q3,_⟩:=j7.DY g2;refine⟨s1,s2,by omega,q2,q3,h3,h4,h1,h5,g2,λi hi=> ?_⟩
 rw[bj]at h6;have:=h6 i (by simpa using hi);rw[aF]at this;exact this.1
theorem mq{p:Px}(h:s8.kY p=ai):p.Fit 48:=by
 obtain⟨_,_,a1,a2,a3,a4,a5,_,_,hp,_⟩:=J9 h;obtain⟨_,_,_,hs⟩:=j7.DY hp;unfold eW.jK at hs;simp only[aF,ba,bj]at hs;obtain⟨s1,_,s3⟩:=hs;have s4:∀q∈p.s,q.length=16:=λq hq=>by have:=s3 q hq;unfold eW.qE at this;rw[aF,ba]at this;exact this.1
 refine⟨by omega,by omega,by omega,⟨by omega,λq hq=>by rw[s4 q hq];omega, ?_⟩,by omega,by omega⟩
 have:p.s.map bT=tB 3 16:=by
  rw[List.eq_replicate_iff];refine⟨by rw[bP,s1],λx hx=> ?_⟩
  obtain⟨q,hq,rfl⟩:=cO.1 hx;exact s4 q hq
 rw[this];decide
end m9

namespace y_
open Lib (Px Cl Fe En el)
open jA (yS told)
def oO(f:Fe):En:=⟨f.k,f.st,f.li,f.t⟩
def cls(p:Px)(f:az)(life:az):Px×aW:=
 bif yS p f&&decide (0<=life/\life<=999999)then
  (bif decide (life>0)then m9.Ii (told p f.toNat {el p.fe f.toNat with sta:=2,li:=life,st:=p.now} 2) (oO {el p.fe f.toNat with sta:=2,li:=life,st:=p.now})
   else told p f.toNat {el p.fe f.toNat with sta:=2,li:=life,st:=p.now} 2,ai)
 else(p,ak)
theorem N3{p:Px}{f life:az}:(cls p f life).1.now=p.now/\(cls p f life).1.hits=p.hits:=by
 unfold cls;cases yS p f&&decide (0<=life/\life<=999999)with
 |false=>exact⟨rfl,rfl⟩
 |true=>cases decide (life>0)<;>exact⟨rfl,rfl⟩
end y_

namespace iX
open Lib (Px Cl Fe En el rc rf re)
open eQ (has without)
open iV (eh)
open s8 (kY)
open ik (So fK)
def yO(e:En)(now:az):aW:=Rr.v e.k e.st e.li e.bo now
def jn(l:ax Cl)(c:Cl):ax Cl:=l.filter (λx=>decide (x.id<c.id))++[c]++l.filter (λx=>decide (x.id>c.id))
def mJ(l:ax Cl)(id:az):aW:=l.any λx=>decide (x.id=id)
def N7(l:ax En)(key:aq):aA En:=l.find? λe=>decide (e.k=key)
def HZ(key:aq)(f:Fe):aW:=decide (f.k=key)&&decide (f.sta=1)
def RD(l:ax Fe)(key:aq):aA aE:=l.findIdx? (HZ key)
def BB(key:aq):Fe:=⟨key,⟨#[]⟩,1,0,0⟩
def put(p:Px)(id:az)(key:aq)(h:aW)(fe:ax Fe)(i:aE):Px:=
 {p with en:=bif h then fK p.en key else p.en,w:=bif h then without p.w key else p.w,m:=bif h then without p.m key else p.m,s:=(fG.val p.s p.a key).1,a:=(fG.val p.s p.a key).2,fe:=fe,cl:=jn p.cl ⟨id,key,(i:az)+1,0,1,(el fe i).t,0⟩}
def Ag(p:Px)(id:az)(key:aq)(h:aW):Px×az:=
 match RD p.fe key with
 |some i=>(put p id key h p.fe i,0)
 |none=>bif decide (p.fe.length<20)then(put p id key h (p.fe++[BB key]) p.fe.length,0)else(p,2)
def ZR(p:Px)(id:az)(key:aq)(e:En):Px:=
 {p with w:=(j7.val p.w p.m p.s p.a key).1,m:=(j7.val p.w p.m p.s p.a key).2.1,s:=(j7.val p.w p.m p.s p.a key).2.2.1,a:=(j7.val p.w p.m p.s p.a key).2.2.2.1,cl:=jn p.cl ⟨id,key,0,e.st,2,e.bo,p.now-e.st⟩,hits:=bif decide (p.hits<1000000000)then p.hits+1 else p.hits}
def ask(p:Px)(id:az)(key:aq):Px×az:=
 bif kY p&&(decide (1<=id/\id<=9)&&(eh key&&(!mJ p.cl id&&decide (p.cl.length<6))))then
  match N7 p.en key with
  |some e=>bif yO e p.now then(ZR p id key e,0)else Ag p id key ai
  |none=>Ag p id key ak
 else(p,1)
theorem SQ{α:Type}[Inhabited α](l:ax α)(q:α->aW)(p:aE->aW)(h:∀i (hi:i<l.length),p i=q l[i]):
  (Lib.fi p l.length 0= -1/\l.find? q=aj/\l.findIdx? q=aj)\/∃i,i<l.length/\Lib.fi p l.length 0=(i:az)/\l.find? q=ah (el l i)/\l.findIdx? q=ah i:=by
 rcases Lib.rI p l.length 0 with ⟨e,ha⟩|⟨k,_,hk,e,hp,hb⟩
 ·have hn:∀x∈l,q x=false:=λx hx=>by obtain⟨i,hi,rfl⟩:=dr hx;rw[<-h i hi,ha i (by omega) (by omega)]
  refine .inl ⟨e,o7.2 λx hx=>by rw[hn x hx];simp,BT.2 hn⟩
 ·have ta:k<l.length:=by omega
  have f:l.findIdx? q=ah k:=vG.2 ⟨ta,by rw[<-h k ta];exact hp,λj hj=>by rw[<-h j (by omega),hb j (by omega) hj];simp⟩;refine .inr ⟨k,ta,e, ?_,f⟩;rw[zl];exact⟨by rw[fc ta,<-h k ta];exact hp,k,ta,(fc ta).symm,λj hj=>by rw[<-h j (by omega),hb j (by omega) hj];rfl⟩
def lid(id:az)(y:ax CV):aW:=decide (bU (y.getD 0 (.b ak))<id)
theorem aag{l:ax Cl}{c:Cl}(cs:l.Pairwise λa b=>a.id<b.id)(hn:mJ l c.id=ak):
  (rc l).take ((rc l).takeWhile (lid c.id)).length++[Cl.row c]++(rc l).drop ((rc l).takeWhile (lid c.id)).length=rc (jn l c):=by
 rw[yW,yJ];have iq:∀y∈l,y.id≠c.id:=λy hy e=>by unfold mJ at hn;rw[List.any_eq_false]at hn;exact hn y hy (aG e)
 obtain⟨t1,t2⟩:=Lib.AP (λx:Cl=>decide (x.id<c.id)) (λx=>decide (x.id>c.id)) l (λy hy=>by
  have:=iq y hy;by_cases h:y.id<c.id
  ·rw[aG h,aK (by omega)];rfl
  ·rw[aK h,aG (by omega)];rfl) (cs.imp λ{a b} ZF h=>aG (by have:=cg h;omega))
 unfold Lib.rc;rw[List.takeWhile_map,List.dropWhile_map];have e:lid c.id∘Cl.row=λx:Cl=>decide (x.id<c.id):=rfl;rw[e,t1,t2];unfold jn;rw[c8,c8];rfl
end iX

namespace mQ
open Lib (rd el Fi)
open eg (tV jZ)
def kN(left:aU)(i:aE)(f:Fi):az:=bif decide (i<left.length)then mm ai f.kp (mm ak (bU (ar left i 0)) (f.t.size:az))else f.kp
def ac6(left:aU)(i:aE)(f:Fi):Fi:=⟨f.n,f.t.extract 0 (kN left i f).toNat,kN left i f⟩
def aef(d:ax Fi)(left:aU):aA (ax Fi):=bif tV d then ah (d.mapIdx (ac6 left))else aj
theorem aah(left:aU)(i:aE){f:Fi}(h:0<=f.kp/\f.kp<=(f.t.size:az)):f.kp<=kN left i f/\kN left i f<=(f.t.size:az):=by
 unfold kN mm;cases decide (i<left.length)with
 |false=>rw[aC];omega
 |true=>simp only[ay,aC];split<;>split<;>omega
end mQ

namespace lS
def eo(l:aU)(i:aE):aW:=h_.v (bM (ar l i 0)) (bU (ar l i 1)) (bU (ar l i 2)) (bM (ar l i 3))
def tx(l:aU)(i:aE):aq:=jo.qS (bM (ar l i 0)) (bU (ar l i 1)) (bU (ar l i 2)) (bM (ar l i 3))
def fs(l:aU):aE->aE->aq->aA aq
 |0,_,acc=>ah acc
 |d+1,i,acc=>if eo l i=ai then fs l d (i+1) (acc++fg.fr (tx l i))else aj
theorem DE(l:aU)(d i:aE)(acc:aq):fs l (d+1) i acc=if eo l i=ai then fs l d (i+1) (acc++fg.fr (tx l i))else none:=rfl
def fin(o:aA aq)(kf:aA R)(kt:aq->aA R):aA R:=match o with|some x=>kt x|none=>kf
theorem Sx(l:aU)(hl:l.length<=1048576)(F:aE->aE->aq->aA R)(kf:aA R)(kt:aq->aA R)
  (hT:∀m i acc,i<l.length->acc.size<=2000*i->(fg.fr (tx l i)).size<=2000->eo l i=ai->F (m+1) i acc=F m (i+1) (acc++fg.fr (tx l i)))
  (hF:∀m i acc,i<l.length->eo l i=ak->F (m+1) i acc=kf) (hE:∀m acc,F (m+1) l.length acc=kt acc):F Lib.cR 0 ⟨#[]⟩=fin (fs l l.length 0 ⟨#[]⟩) kf kt:=by
 have:=Lib.gv (λn (z:aE×aq)=>F n z.1 z.2) (λz=>l.length-z.1) (λz=>z.1<=l.length/\z.2.size<=2000*z.1) (λz=>fin (fs l (l.length-z.1) z.1 z.2) kf kt) (λm z hz=>by
  obtain⟨i,acc⟩:=z;obtain⟨h1,h2⟩:=hz;dsimp only at h1 h2⊢;by_cases h:i<l.length
  ·have e:l.length-i=(l.length-(i+1))+1:=by omega
   cases ho:eo l i with
   |true=>
    right;have hs:=gZ.vm ho;have hf:(fg.fr (tx l i)).size<=2000:=by have:=fg.SU (t:=tx l i) (by unfold tx;omega);unfold tx at this⊢;omega
    exact⟨(i+1,acc++fg.fr (tx l i)),⟨h,by dsimp only;rw[Lib.kH];omega⟩,by dsimp only;omega,by dsimp only;rw[e,DE,bu ho],hT m i acc h h2 hf ho⟩
   |false=>left;rw[hF m i acc h ho,e,DE,bJ (by simp[ho])];rfl
  ·left;have:i=l.length:=by omega
   subst this;rw[hE,YY];rfl) Lib.cR (0,⟨#[]⟩) ⟨bm _,bm _⟩ (cJ (by dsimp only;omega))
 simpa using this
def nm:aq:={data:= #[au 110,au 101,au 119]}
def lT(has:aW)(x:aq):aU:=(if has=ai then [[CV.i ao 4,CV.s nm,CV.s {data:= #[]},CV.s {data:= #[]}]]else [])++[[CV.i ao 1,CV.s nm,CV.s x,CV.s {data:= #[]}],[CV.i ao 2,CV.s nm,CV.s {data:= #[]},CV.s {data:= #[]}],[CV.i ao 3,CV.s nm,CV.s {data:= #[]},CV.s {data:= #[au 107,au 101,au 112,au 116]}]]
def val(d l:aU):aU×aW:=bif eS.val d then(match fs l l.length 0 ⟨#[]⟩with|some x=>(lT (mb.val d nm).2 x,ai)|none=>([],ak))else([],ak)
theorem ok(d l:aU)(hd:d.length<=1048576)(hl:l.length<=1048576):c d l=ai/\v d l=val d l:=by
 refine out d l ?_;have k1:=eS.ok d (by omega);have k2:=mb.ok d {data:= #[au 110,au 101,au 119]} (by omega);have e2:mb.val d {data:= #[au 110,au 101,au 119]}=mb.val d nm:=rfl;unfold vo b val;rw[k1.1,k1.2,ay];cases eS.val d with
 |false=>rfl
 |true=>
  rw[a9,aC,ay,k2.1,ay,k2.2,e2];have tr:∀(K0:aU->aW->aq->az->aU->aU->aA (aU×aW)) (K1:aU->aW->aq->az->aU->aA (aU×aW)) (base:aU) (kt:aq->aA (aU×aW)) (h0:∀x i,K0 l ak x i [] base=ah ([],ak)) (h1:∀x i,K1 l ak x i base=kt x),l9 Lib.cR K0 K1 Lib.cR l ak ⟨#[]⟩ 0 base=fin (fs l l.length 0 ⟨#[]⟩) (ah ([],ak)) kt:=by
   intro K0 K1 base kt h0 h1;refine Sx l hl (λm i acc=>l9 Lib.cR K0 K1 m l ak acc (i:az) base) _ kt (λm i acc hi ha hf ho=> ?_) (λm i acc hi ho=> ?_) (λm acc=> ?_)
   ·have jr:bE ((i:az)+1)=((i+1:aE):az):=cX (by omega) (by omega);have t1:jo.v (bM (ar l i 0)) (bU (ar l i 1)) (bU (ar l i (1+1))) (bM (ar l i (1+1+1)))=(tx l i,ai):=by unfold jo.v;exact bu ho
    have f1:=fg.ok (tx l i);have f2:fg.val (tx l i)=(fg.fr (tx l i),ai):=by unfold fg.val;have q1:=gZ.Ee ho;have q2:=gZ.vm ho;rw[bu ⟨q1,cZ q2 (by omega)⟩]
    simp only[l9,r9,Lib.dE,Lib.cT,Lib.eD,hi,aR,aM,ay,aC,t1,f1.1,f1.2,f2,a9,aG (show acc.size+(fg.fr (tx l i)).size<=4611686018427387904 by omega),jr]
   ·have t1:jo.v (bM (ar l i 0)) (bU (ar l i 1)) (bU (ar l i (1+1))) (bM (ar l i (1+1+1)))=(⟨#[]⟩,ak):=by unfold jo.v;rw[bJ (by intro h;have h':eo l i=true:=h;rw[ho]at h';cases h')]
    have f1:=fg.ok ⟨#[]⟩;simp only[l9,r9,Lib.dE,Lib.cT,Lib.eD,hi,aR,aM,ay,t1,f1.1,bS];exact h0 acc i
   ·simp only[l9,r9,Lib.dE,bk,bg,aC];exact h1 acc _
  cases hh:(mb.val d nm).2 with
  |true=>rw[ay];refine(tr _ _ _ (λx=>ah (lT ai x,ai)) (λ_ _=>rfl) (λ_ _=>rfl)).trans ?_;cases fs l l.length 0 ⟨#[]⟩<;>rfl
  |false=>rw[aC];refine(tr _ _ _ (λx=>ah (lT ak x,ai)) (λ_ _=>rfl) (λ_ _=>rfl)).trans ?_;cases fs l l.length 0 ⟨#[]⟩<;>rfl
end lS

namespace ui
open Lib (re rd el En Fi)
open j_ (kd kp Cb tx Hs base bt pH anC)
open eg (lT act tV m8 put without Et ra Ac)
open ik (So mo ff)
open mQ (aef ac6 kN aah)
abbrev pI:aq:={data:= #[au 110,au 101,au 119]}
def w7(x:aq):ax Ac:=[⟨1,pI,x,⟨#[]⟩⟩,⟨2,pI,⟨#[]⟩,⟨#[]⟩⟩,⟨3,pI,⟨#[]⟩,pH⟩]
theorem less:ff pH pI=true:=by unfold ff;rw[jw,jw];rfl
theorem akG(t:aq)(k:az)(h1:t.size<=20000)(h2:0<=k/\k<=(t.size:az)):m8 ⟨pI,t,k⟩=true:=by unfold m8;have:((pI.size:aE):az)=3:=rfl;rw[this,aG (by omega),aG h2,aK (by dsimp only;omega)];rfl
theorem Ed{o:aA aq}{x:aq}{k:az}(h:(bt o).size<=20000)(hx:x.size<=20000)(hk:0<=k/\k<=(x.size:az)):tV (base o++[⟨pI,x,k⟩])=true:=by
 refine eg.jZ.2 ⟨?_,λf hf=> ?_, ?_⟩
 ·cases o<;>simp[base]
 ·rcases aZ.1 hf with hf|hf
  ·exact(eg.jZ.1 (j_.si h)).2.1 f hf
  ·rw[aY.1 hf];exact akG x k hx hk
 ·cases o with
  |none=>exact Ek ..
  |some t=>exact lE.2 ⟨λy hy=>by rw[aY.1 hy];exact less,Ek ..⟩
theorem nKN:pH≠pI:=by decide
theorem Oa(o:aA aq)(x:aq)(k:az):(base o++[(⟨pI,x,k⟩:Fi)]).find? (λy=>decide (y.n=pI))=ah ⟨pI,x,k⟩:=by
 cases o with
 |none=>rfl
 |some t=>rw[show base (ah t)++[(⟨pI,x,k⟩:Fi)]=[⟨pH,t,t.size⟩,⟨pI,x,k⟩]from rfl,qH (by simp[nKN]),ED (by simp)]
theorem ael(o:aA aq):(base o).find? (λy=>decide (y.n=pI))=none:=by
 cases o with
 |none=>rfl
 |some t=>rw[show base (ah t)=[⟨pH,t,t.size⟩]from rfl,qH (by simp[nKN]),List.find?_nil]
theorem afv(o:aA aq)(x:aq)(k:az):put (base o) ⟨pI,x,k⟩=base o++[⟨pI,x,k⟩]:=by
 cases o with
 |none=>rfl
 |some t=>unfold put;rw[show base (ah t)=[⟨pH,t,t.size⟩]from rfl,de (by simpa using less),ca (by simp[less])];rfl
theorem aaZ(o:aA aq)(x y:aq)(k m:az):put (base o++[⟨pI,y,m⟩]) ⟨pI,x,k⟩=base o++[⟨pI,x,k⟩]:=by
 cases o with
 |none=>exact j_.u6 rfl
 |some t=>unfold put;rw[show base (ah t)++[(⟨pI,y,m⟩:Fi)]=[⟨pH,t,t.size⟩,⟨pI,y,m⟩]from rfl,de (by simpa using less),ca (by rw[eg.irrefl];simp),ca (by simp[less]),ca (by simp)];rfl
theorem mov(o:aA aq)(x:aq)(k:az):put (without (base o++[⟨pI,x,k⟩]) pI) ⟨pH,x,k⟩=[⟨pH,x,k⟩]:=by
 have:without (base o++[⟨pI,x,k⟩]) pI=base o:=by
  unfold without;rw[jl,ca (by simp),List.filter_nil,dH,gb];intro f hf;cases o with
  |none=>cases hf
  |some t=>rw[aY.1 hf];simp[nKN]
 rw[this];cases o with
 |none=>rfl
 |some t=>exact j_.u6 rfl
theorem a1{o:aA aq}{x:aq}(h:(bt o).size<=20000)(hx:x.size<=20000):act (base o) 1 pI x ⟨#[]⟩=ah (base o++[⟨pI,x,0⟩]):=by
 unfold act;rw[j_.si h,show eg.kB 1 x ⟨#[]⟩=ai from by unfold eg.kB;simp,aM,ay];have hn:Et (base o) 1 pI x ⟨#[]⟩=ah (base o++[⟨pI,x,0⟩]):=by unfold Et;rw[ael];dsimp only;rw[bu rfl,afv]
 rw[hn];dsimp only;rw[Ed h hx ⟨by omega,by omega⟩];rfl
theorem a2{o:aA aq}{x:aq}(h:(bt o).size<=20000)(hx:x.size<=20000):act (base o++[⟨pI,x,0⟩]) 2 pI ⟨#[]⟩ ⟨#[]⟩=ah (base o++[⟨pI,x,x.size⟩]):=by
 unfold act;rw[Ed h hx ⟨by omega,by omega⟩,show eg.kB 2 ⟨#[]⟩ ⟨#[]⟩=ai from by unfold eg.kB;simp,aM,ay];have hn:Et (base o++[⟨pI,x,0⟩]) 2 pI ⟨#[]⟩ ⟨#[]⟩=ah (base o++[⟨pI,x,x.size⟩]):=by unfold Et;rw[Oa];dsimp only;rw[bJ (by omega),bu rfl,aaZ]
 rw[hn];dsimp only;rw[Ed h hx ⟨by omega,by omega⟩];rfl
theorem a3{o:aA aq}{x:aq}(h:(bt o).size<=20000)(hx:x.size<=20000):act (base o++[⟨pI,x,x.size⟩]) 3 pI ⟨#[]⟩ pH=ah (base (ah x)):=by
 unfold act;rw[Ed h hx ⟨by omega,by omega⟩,show eg.kB 3 ⟨#[]⟩ pH=ai from by unfold eg.kB;simp,aM,ay];have hn:Et (base o++[⟨pI,x,x.size⟩]) 3 pI ⟨#[]⟩ pH=ah (base (ah x)):=by unfold Et;rw[Oa];dsimp only;rw[bJ (by omega),bJ (by omega),bu rfl,bJ (by rintro (h|h);exact h rfl;exact nKN h),mov];rfl
 rw[hn];dsimp only;rw[j_.si (o:=ah x) hx];rfl
theorem aky{o:aA aq}{x:aq}(h:(bt o).size<=20000)(hx:x.size<=20000):lT (base o) 0 (w7 x)=(base (ah x),3):=by unfold w7 lT;dsimp only;rw[a1 h hx];dsimp only;unfold lT;dsimp only;rw[a2 h hx];dsimp only;unfold lT;dsimp only;rw[a3 h hx];rfl
theorem ZB(l:ax En)(Ry:∀x∈l,Cb x=ai):∀(d i:aE) (acc:aq),d+i=l.length->lS.fs (re l) d i acc=ah (acc++tx (l.drop i)):=by
 intro d;induction d with
 |zero=>
  intro i acc h;have:i=l.length:=by omega
  subst this;rw[dg];exact kl ah (oY).symm
 |succ d ih=>
  intro i acc h;have hi:i<l.length:=by omega
  have h0:lS.eo (re l) i=true:=by unfold lS.eo;rw[rX hi,vt hi,show ar (re l) i 2=CV.i ao (el l i).li from vu hi,show ar (re l) i 3=CV.s (el l i).bo from vv hi];exact Ry _ (qe hi)
  have h1:lS.tx (re l) i=j_.qS l[i]:=by unfold lS.tx;rw[rX hi,vt hi,show ar (re l) i 2=CV.i ao (el l i).li from vu hi,show ar (re l) i 3=CV.s (el l i).bo from vv hi,fc hi];rfl
  rw[lS.DE,bu h0,h1,ih (i+1) _ (by omega),dA hi,AX];rfl
end ui

namespace o6
open Lib (En Fi Px Cl Fe el re rd rf rc rs rr)
open ik (So mo)
open eg (tV lT Ac ra)
open j_ (qS Cb Hs tx kp base bt xF)
open ui (w7)
open mQ (aef)
def dk(o:aA (ax En)):ax Fi:=base (o.map tx)
def es(o:aA (ax En)):ax En:=o.getD []
theorem EU(o:aA (ax En)):bt (o.map tx)=tx (es o):=by cases o<;>rfl
theorem N4(o:aA (ax En)):(dk o).length<=1:=by cases o<;>simp[dk,base]
theorem Jn{o:aA (ax En)}(h:(tx (es o)).size<=20000):tV (dk o)=true:=j_.si (by rw[EU];exact h)
theorem ac8{o:aA (ax En)}(h:(tx (es o)).size<=20000)(he:∀e∈es o,Cb e=ai):(U118.c (rd (dk o))=ai/\U118.v (rd (dk o))=re (kp (es o)))/\(qK.c (rd (dk o))=ai/\qK.v (rd (dk o))=re (kp (es o))):=by refine j_.fk (dk o) (es o) ⟨#[]⟩ (Jn h) ?_ he (.inl rfl);unfold dk;rw[j_.KV,EU];exact(oY).symm
theorem SB{o:aA (ax En)}{e:En}(h:(tx (es o)).size+(Hs e).size<=20000):lT (dk o) 0 (xF (Hs e))=(dk (ah (es o++[e])),2):=by unfold dk;rw[j_.OU (by rw[EU];exact h),EU,fS,j_.U6]
theorem SA{o:aA (ax En)}{l:ax En}(h:(tx (es o)).size<=20000)(hl:(tx l).size<=20000):lT (dk o) 0 (w7 (tx l))=(dk (ah l),3):=ui.aky (by rw[EU];exact h) hl
theorem ac7{o:aA (ax En)}{l:ax En}(hs:(tx (es o)).size<=20000)(Ry:∀x∈l,Cb x=ai):lS.val (rd (dk o)) (re l)=(ra (w7 (tx l)),ai):=by
 unfold lS.val;rw[show eS.val (rd (dk o))=ai from Jn hs,ay,ej,ui.ZB l Ry l.length 0 ⟨#[]⟩ (by omega),fA];have yv:(mb.val (rd (dk o)) lS.nm).2=false:=by unfold dk;rw[j_.fileAt,show lS.nm=ui.pI from rfl,ui.ael]
 dsimp only;rw[yv,show(⟨#[]⟩:aq)++tx l=tx l from n7];rfl
end o6

namespace g_
open Lib (rr rs re rf rc Px En el)
open ik (So fK mo ff)
open m9 (Ii)
def Gt:ax az:=[0,0,0,0,0,0,0,0,0,0,0,0,0,0,0,0]
def p0(now:az):Px:=⟨now,[],[],[],[Gt,Gt,Gt],0,[],[],0⟩
def yO(e:En)(now:az):aW:=Rr.v e.k e.st e.li e.bo now
def one(now:az)(p:Px)(e:En):Px:=bif yO e now then Ii p e else p
def AB(now:az)(l:ax En):Px:=l.foldl (one now) (p0 now)
structure Inv (now:az) (i:aE) (p:Px):Prop where
 so:So p.en
 ks:∀e∈p.en,1<=e.k.size
 en:p.en.length<=i
 w:p.w.length<=i
 m:p.m.length<=i
 s:j7.lens p.s=[16,16,16]
 fe:p.fe=[]
 cl:p.cl=[]
 now:p.now=now
 hits:p.hits=0
theorem alI(now:az):Inv now 0 (p0 now):=⟨gf,λe h=>(nomatch h),cm _,cm _,cm _,rfl,rfl,rfl,rfl,rfl⟩
theorem O2{s:ax (ax az)}(h:j7.lens s=[16,16,16]):s.length=3/\(∀q∈s,q.length=16)/\(s.map bT).sum=48:=by
 refine⟨?_,λq hq=> ?_, ?_⟩
 ·have:=kl bT h;unfold j7.lens at this;simpa using this
 ·have:q.length∈j7.lens s:=cO.2 ⟨q,hq,rfl⟩;rw[h]at this;simpa using this
 ·rw[show s.map bT=[16,16,16]from h];rfl
theorem Inv.fit{now:az}{i:aE}{p:Px}(h:Inv now i p){n:aE}(hn:i<=n)(h48:48<=n):p.Fit n:=by
 obtain⟨a,b,c⟩:=O2 h.s;have hq:∀q∈p.s,q.length<=n:=λq hq=>by have:=b q hq;omega
 exact⟨cZ h.en hn,cZ h.w hn,cZ h.m hn,⟨by omega,hq,by omega⟩,by rw[h.fe];exact bm _,by rw[h.cl];exact bm _⟩
theorem Inv.up{now:az}{i:aE}{p:Px}(h:Inv now i p):Inv now (i+1) p:=⟨h.so,h.ks,lY h.en,lY h.w,lY h.m,h.s,h.fe,h.cl,h.now,h.hits⟩
theorem wR{en:ax En}(h:So en)(e:En):So (mo en e):=by have:=(e8.uU (ik.Cv h) e.k e.st e.li e.bo).1.1;rw[ik.tZ]at this;unfold Lib.re at this;rw[jz]at this;exact this
theorem Inv.store{now:az}{i:aE}{p:Px}(h:Inv now i p)(e:En)(he:1<=e.k.size):Inv now (i+1) (Ii p e):=by
 obtain⟨b1,b2,b3⟩:=j7.QP p.w p.m p.s p.a e.k;have hw:=h.w;have hm:=h.m;have hn:=h.en;refine⟨?_, ?_, ?_,cZ b1 (by omega),cZ b2 (by omega),b3.trans h.s,h.fe,h.cl,h.now,h.hits⟩
 ·show So (bif _ then mo (fK p.en _) e else fK p.en _);cases eQ.has (j7.val p.w p.m p.s p.a e.k).1 e.k||eQ.has (j7.val p.w p.m p.s p.a e.k).2.1 e.k with
  |true=>exact wR (h.so.drop _) e
  |false=>exact h.so.drop _
 ·show∀x∈(bif _ then mo (fK p.en _) e else fK p.en _),1<=x.k.size;have hd:∀x∈fK p.en (j7.val p.w p.m p.s p.a e.k).2.2.2.2,1<=x.k.size:=λx hx=>h.ks x (dh.1 hx).1;cases eQ.has (j7.val p.w p.m p.s p.a e.k).1 e.k||eQ.has (j7.val p.w p.m p.s p.a e.k).2.1 e.k with
  |true=>
   intro x hx;rw[ay]at hx;unfold mo at hx;rcases aZ.1 hx with hx|hx
   ·rcases aZ.1 hx with hx|hx
    ·exact hd x (dh.1 hx).1
    ·rw[aY]at hx;rw[hx];exact he
   ·exact hd x (dh.1 hx).1
  |false=>exact hd
 ·show(bif _ then mo (fK p.en _) e else fK p.en _).length<=i+1;have d:=ik.zK p.en (j7.val p.w p.m p.s p.a e.k).2.2.2.2;have q:=ik.sG (fK p.en (j7.val p.w p.m p.s p.a e.k).2.2.2.2) e (h.so.drop _);cases eQ.has (j7.val p.w p.m p.s p.a e.k).1 e.k||eQ.has (j7.val p.w p.m p.s p.a e.k).2.1 e.k with
  |true=>rw[ay];omega
  |false=>rw[aC];omega
theorem DD{e:En}{now:az}(h:yO e now=ai):h_.v e.k e.st e.li e.bo=true:=by
 unfold yO Rr.v at h;cases hq:h_.v e.k e.st e.li e.bo with
 |true=>rfl
 |false=>rw[show zp.v e.k e.st e.li e.bo=ak from hq]at h;cases h
theorem DN(now:az)(l:ax En):∀i,i<=l.length->Inv now i (AB now (l.take i)):=by
 intro i;induction i with
 |zero=>intro _;exact alI now
 |succ i ih=>
  intro hi;have h:=ih (by omega);have e:AB now (l.take (i+1))=one now (AB now (l.take i)) l[i]:=by unfold AB;rw[dq (by omega),Mg];rfl
  rw[e];unfold one;cases hf:yO l[i] now with
  |true=>exact h.store _ (h_.Eu (DD hf)).1.1
  |false=>exact h.up
theorem F_(now:az)(l:ax En)(i:aE)(h:i<l.length):AB now (l.take (i+1))=one now (AB now (l.take i)) (el l i):=by unfold AB;rw[dq h,Mg,fc h];rfl
end g_

namespace jM
open Lib (rr rs re rf rc Px)
theorem ok(p:Px)(hp:p.Fit 1048576):c p.now (re p.en) (rs p.w) (rs p.m) (rr p.s) p.a (rf p.fe) (rc p.cl) p.hits=ai/\v p.now (re p.en) (rs p.w) (rs p.m) (rr p.s) p.a (rf p.fe) (rc p.cl) p.hits=(p.now,re p.en,rs p.w,rs p.m,rr p.s,p.a,rf p.fe,rc p.cl,p.hits):=by have he:=hp.en;have hf:=hp.fe;have hc:=hp.cl;have h2:=eR.ok p.w p.m p.s p.a hp.w hp.m ⟨hp.s.1,hp.s.2.1⟩;exact out _ _ _ _ _ _ _ _ _ (by unfold vo b;rw[h2.1,h2.2,ay,Lib.cF (b:=48) (by simp[aN,ej];omega) (by simp[aN,ej];omega),Lib.cF (b:=56) (by simp[aN,eu];omega) (by simp[aN,eu];omega),Lib.cF (b:=72) (by simp[aN,eI];omega) (by simp[aN,eI];omega)];rfl)
end jM

namespace wA
open Lib (rr rs re rf rc Px)
def later(now n:az):az:=bif decide (now>1000000000-n%1000)then 1000000000 else bE (now+n%1000)
def val(p:Px)(n:az):Px:={p with now:=later p.now n}
theorem tm(n:az):(0<=bI n 1000->bI n 1000=n%1000)/\(bI n 1000<0->bI n 1000+1000=n%1000):=by
 rw[Int.tmod_eq_emod];by_cases h:0<=n\/(1000:az)∣n
 ·rw[bu h];constructor<;>omega
 ·rw[bJ h];have hd:¬(1000:az)∣n:=λx=>h (.inr x);have:n%1000≠0:=λe=>hd (Int.dvd_of_emod_eq_zero e);constructor<;>simp<;>omega
theorem ok(p:Px)(n:az)(hp:p.Fit 1048576):c p.now (re p.en) (rs p.w) (rs p.m) (rr p.s) p.a (rf p.fe) (rc p.cl) p.hits n=ai/\v p.now (re p.en) (rs p.w) (rs p.m) (rr p.s) p.a (rf p.fe) (rc p.cl) p.hits n=((val p n).now,re p.en,rs p.w,rs p.m,rr p.s,p.a,rf p.fe,rc p.cl,p.hits):=by
 have h:=jM.ok p hp;refine out _ _ _ _ _ _ _ _ _ _ ?_;have t:=tm n;unfold vo b val later;simp only[Lib.lt,h.1,h.2,ay];by_cases hn:bI n 1000<0
 ·have e:=t.2 hn;rw[aG hn,ay,e,cX (x:=n%1000) (by omega) (by omega),cX (x:=1000000000-n%1000) (by omega) (by omega)];cases decide (p.now>1000000000-n%1000)<;>rfl
 ·have e:=t.1 (by omega);rw[aK hn,aC,e,cX (x:=1000000000-n%1000) (by omega) (by omega)];cases decide (p.now>1000000000-n%1000)<;>rfl
end wA

namespace B5
open Lib (rr rs re rf rc Px Cl el KC QS QT QU QV QW QX)
def val(p:Px)(id:az):Px:={p with cl:=p.cl.filter λc=> !decide (c.id=id)}
theorem ok(p:Px)(id:az)(hp:p.Fit 1048576):c p.now (re p.en) (rs p.w) (rs p.m) (rr p.s) p.a (rf p.fe) (rc p.cl) p.hits id=ai/\v p.now (re p.en) (rs p.w) (rs p.m) (rr p.s) p.a (rf p.fe) (rc p.cl) p.hits id=(p.now,re p.en,rs p.w,rs p.m,rr p.s,p.a,rf p.fe,rc (val p id).cl,p.hits):=by
 have h:=jM.ok p hp;have hc:=hp.cl;refine out _ _ _ _ _ _ _ _ _ _ ?_;unfold vo b;simp only[Lib.lt,h.1,h.2,ay];have key:=lI p.cl.length (λn (i:aE) (x:aU)=>l4 Lib.cR (λ(_ _ _:az) (_ _ _ _:aU) (_:az) (_ _:aU) (_ _ _ _ RN y38 y39:az) (y40 y41 Ve Vf Me y45:aU)=>ah (RN,y40,y41,Ve,Vf,y38,Me,y45,y39)) n id (i:az) p.now (re p.en) (rs p.w) (rs p.m) (rr p.s) p.a (rf p.fe) (rc p.cl) p.hits 0 0 0 p.now p.a p.hits (re p.en) (rs p.w) (rs p.m) (rr p.s) (rf p.fe) x) (λi=>rc ((p.cl.take i).filter λc=> !decide (c.id=id))) (ah (p.now,re p.en,rs p.w,rs p.m,rr p.s,p.a,rf p.fe,rc (val p id).cl,p.hits)) (λn i hi=>by
  have hlen:((p.cl.take i).filter λc=> !decide (c.id=id)).length<=i:=by refine cZ (dO ..) ?_;rw[dU];omega
  have e:(p.cl.take (i+1)).filter (λc=> !decide (c.id=id))=(p.cl.take i).filter (λc=> !decide (c.id=id))++(bif !decide ((el p.cl i).id=id)then [el p.cl i]else []):=by rw[dq hi,jl,fc hi];cases hd:decide (p.cl[i].id=id)<;>simp[hd]
  rw[e];simp only[l4,r4,eI,Lib.dE,hi,aR,Lib.cT,aM,ay,Lib.eD,KC hi,QS hi,QT hi,QU hi,QV hi,QW hi,QX hi,bM,bU,oV,bQ,Lib.dm hi (by omega:p.cl.length<=9223372036854775807)];rw[Lib.cF (by omega) (by omega),ay,show((el p.cl i).id !=id)= !decide ((el p.cl i).id=id)from rfl];cases decide ((el p.cl i).id=id)with
  |true=>rw[a9,aC,aC,dH]
  |false=>rw[bS,ay,ay];unfold Lib.rc;rw[c8];rfl) (λn=>by
  simp only[l4,r4,eI,Lib.dE,bk,bg,aC,gE];rfl) Lib.cR 0 (bm _) (cJ (by omega))
 exact key
end B5

namespace mz
open Lib (En Fi Px Cl Fe el)
open j_ (kp Cb)
open y_ (cls oO)
open jA (Jg J8)
open iX (mJ)
open o6 (dk es)
structure Wo where
 p:Px
 o:aA (ax En)
 cd:ax az
 bd:ax En
structure Ev where
 k:az
 id:az
 t:aq
 n:az
 l:aU
def flag(b:aW):az:=bif b then 0 else 1
def pj(w:Wo):ax En:=(kp (es w.o)).filter λe=>g_.yO e w.p.now
def closed(w:Wo)(id life:az):Wo×az:=
 let q:=cls w.p id life
 (bif q.2&&decide (life>0)then{w with p:=q.1,o:=ah (es w.o++[oO (el q.1.fe id.toNat)]),bd:=w.bd++[oO (el q.1.fe id.toNat)]}else{w with p:=q.1},flag q.2)
def Hk(w:Wo):Wo:={w with p:=g_.AB w.p.now (pj w),o:=ah (pj w)}
def act(w:Wo)(e:Ev):Wo×az:=
 bif decide (e.k=1)then({w with p:=(iX.ask w.p e.id e.t).1},(iX.ask w.p e.id e.t).2)
 else bif decide (e.k=2)then({w with p:=(J8 w.p e.id e.t).1},flag (J8 w.p e.id e.t).2)
 else bif decide (e.k=3)then closed w e.id (e.n%1000000)
 else bif decide (e.k=4)then({w with p:=(Jg w.p e.id).1},flag (Jg w.p e.id).2)
 else bif decide (e.k=5)then({w with p:=wA.val w.p e.n},0)
 else bif decide (e.k=6)then({w with p:=B5.val w.p e.id},flag (mJ w.p.cl e.id))
 else(Hk w,0)
def step(w:Wo)(e:Ev):Wo:={(act w e).1 with cd:=w.cd++[(act w e).2]}
def rG(e:Ev):aW:=decide (1<=e.k/\e.k<=7)&&(decide (0<=e.id/\e.id<=30)&&(decide (e.t.size<=60)&&(decide (0<=e.n)&&decide (e.l.length<=4))))
end mz

namespace i9
open Lib (rr rs re rf rc rd Px En el rX vt vu vv)
open mz (Wo Ev)
open o6 (dk es)
def ri(l:ax az):aU:=l.map λn=>[CV.i ao n]
theorem fV(l:ax az):(ri l).length=l.length:=by unfold ri;simp
def Dl(w:Wo):az×aU×aU×aU×aU×az×aU×aU×az×aU×aU×aU:=(w.p.now,re w.p.en,rs w.p.w,rs w.p.m,rr w.p.s,w.p.a,rf w.p.fe,rc w.p.cl,w.p.hits,rd (dk w.o),ri w.cd,re w.bd)
theorem CF(l:ax En)(e:En):re l++aw (aN [Ck.s,Ck.i ao,Ck.i ao,Ck.s] 1) 0 [CV.s e.k,CV.i ao e.st,CV.i ao e.li,CV.s e.bo]=re (l++[e]):=by unfold Lib.re;rw[c8];rfl
theorem afH(l:ax az)(n:az):ri l++aw (aN [Ck.i ao] 1) 0 [CV.i ao n]=ri (l++[n]):=by unfold ri;rw[c8];rfl
theorem aoB(l:ax En):aN [Ck.s,Ck.i ao,Ck.i ao,Ck.s] 0++re l=re l:=rfl
theorem aoC(l:ax az):aN [Ck.i ao] 0++ri l=ri l:=rfl
theorem sF(ks:ax Ck)(y:ax CV):(aw (aN ks 1) 0 y).length=1:=rfl
theorem mq{p:Px}(h:sL.gh p):p.Fit 1048576:=(m9.mq (sL.qk.2 h)).le (by omega)
theorem lt_eq{α β:Type}(x:α)(f:α->β):Lib.lt x f=f x:=by have h:∀y,y=Lib.lt x f->y=f x:=λy hy=>hy.trans (Eq.refl _);exact h _ (Eq.refl _)
end i9

namespace c9
theorem ok(q:aU)(a s k:az)(hI:bK.I q a):∃n a' s',c q a s k=ai/\v q a s k=(n,q,a',s')/\bK.I q a'/\0<=n/\(0<k->n<k):=by
 by_cases hk:k<=0
 ·obtain⟨e1,e2⟩:=out q a s k (x:=(0,q,a,s)) (by unfold vo b;rw[aG hk,ay]);exact⟨0,a,s,e1,e2,hI,by omega,λh=>by omega⟩
 ·have hm:∀x:az,0<=x->0<=bI x k/\bI x k<k:=λx hx=>by rw[iP hx];exact⟨q_ _ (by omega),vD _ (by omega)⟩
  have hk0:¬k=0:=by omega
  obtain⟨n1,a1,s1,c1,v1,I1,g1,u1⟩:=bK.ok q a s hI;by_cases h2:k<=256
  ·obtain⟨e1,e2⟩:=out q a s k (x:=(bI n1 k,q,a1,s1)) (by unfold vo b;simp only[hk,h2,hk0,c1,v1,aR,bg,ay,aC,bS]);exact⟨_,a1,s1,e1,e2,I1,(hm n1 g1).1,λ_=>(hm n1 g1).2⟩
  ·obtain⟨n2,a2,s2,c2,v2,I2,g2,u2⟩:=bK.ok q a1 s1 I1;obtain⟨n3,a3,s3,c3,v3,I3,g3,u3⟩:=bK.ok q a2 s2 I2;obtain⟨n4,a4,s4,c4,v4,I4,g4,u4⟩:=bK.ok q a3 s3 I3;have w1:bE (n1*16777216)=n1*16777216:=cX (by omega) (by omega);have w2:bE (n2*65536)=n2*65536:=cX (by omega) (by omega);have w3:bE (n3*256)=n3*256:=cX (by omega) (by omega);have w4:bE (n1*16777216+n2*65536)=n1*16777216+n2*65536:=cX (by omega) (by omega);have w5:bE (n1*16777216+n2*65536+n3*256)=n1*16777216+n2*65536+n3*256:=cX (by omega) (by omega);have w6:bE (n1*16777216+n2*65536+n3*256+n4)=n1*16777216+n2*65536+n3*256+n4:=cX (by omega) (by omega);obtain⟨e1,e2⟩:=out q a s k (x:=(bI (n1*16777216+n2*65536+n3*256+n4) k,q,a4,s4)) (by unfold vo b;simp only[hk,h2,hk0,c1,v1,c2,v2,c3,v3,c4,v4,w1,w2,w3,w4,w5,w6,aR,bg,ay,aC,bS]);have:=hm (n1*16777216+n2*65536+n3*256+n4) (by omega);exact⟨_,a4,s4,e1,e2,I4,this.1,λ_=>this.2⟩
end c9

namespace gT
theorem ok(q:aU)(a s k:az)(hI:bK.I q a):∃x a' s',c q a s k=ai/\v q a s k=(x,q,a',s')/\bK.I q a':=by obtain⟨n1,a1,s1,c1,v1,I1,g1,u1⟩:=c9.ok q a s k hI;obtain⟨e1,e2⟩:=out q a s k (x:=(decide (n1=0),q,a1,s1)) (by unfold vo b;simp only[c1,v1,ay]);exact⟨_,a1,s1,e1,e2,I1⟩
end gT

namespace sg
theorem ok(q:aU)(a s:az)(l:aU)(hI:bK.I q a)(hl:0<l.length):∃i a' s',c q a s l=ai/\v q a s l=(bU (ar l i 0),q,a',s',l)/\bK.I q a'/\i<l.length:=by obtain⟨n1,a1,s1,c1,v1,I1,g1,u1⟩:=c9.ok q a s (l.length:az) hI;have hu:=u1 (by omega);obtain⟨e1,e2⟩:=out q a s l (x:=(bU (ar l n1.toNat 0),q,a1,s1,l)) (by unfold vo b;simp only[c1,v1,g1,hu,aR,aM,ay]);exact⟨n1.toNat,a1,s1,e1,e2,I1,by omega⟩
end sg

namespace n_
theorem ok(q:aU)(a s:az)(l:aU)(hI:bK.I q a)(hl:0<l.length):∃i a' s',c q a s l=ai/\v q a s l=(bM (ar l i 0),q,a',s',l)/\bK.I q a'/\i<l.length:=by obtain⟨n1,a1,s1,c1,v1,I1,g1,u1⟩:=c9.ok q a s (l.length:az) hI;have hu:=u1 (by omega);obtain⟨e1,e2⟩:=out q a s l (x:=(bM (ar l n1.toNat 0),q,a1,s1,l)) (by unfold vo b;simp only[c1,v1,g1,hu,aR,aM,ay]);exact⟨n1.toNat,a1,s1,e1,e2,I1,by omega⟩
end n_

namespace jT
theorem ok(q:aU)(a s:az)(hI:bK.I q a):∃k a' s',c q a s=ai/\v q a s=(k,q,a',s')/\bK.I q a'/\k.size=2:=by
 obtain⟨i,a1,s1,c1,v1,I1,g1⟩:=n_.ok q a s (aw (aw (aw (aw (aw (aw (aw (aw (aN [Ck.s] 8) 0 [CV.s {data:= #[au 47,au 97]}]) 1 [CV.s {data:= #[au 47,au 98]}]) 2 [CV.s {data:= #[au 47,au 99]}]) 3 [CV.s {data:= #[au 47,au 100]}]) 4 [CV.s {data:= #[au 47,au 101]}]) 5 [CV.s {data:= #[au 47,au 102]}]) 6 [CV.s {data:= #[au 47,au 103]}]) 7 [CV.s {data:= #[au 47,au 104]}]) hI (by simp[aN]);obtain⟨e1,e2⟩:=out q a s (x:=(_,q,a1,s1)) (by unfold vo b;simp only[c1,v1,ay];rfl);refine⟨_,a1,s1,e1,e2,I1, ?_⟩
 have g2:i<8:=by simpa [aN]using g1
 match i,g2 with
 |0,_=>rfl
 |1,_=>rfl
 |2,_=>rfl
 |3,_=>rfl
 |4,_=>rfl
 |5,_=>rfl
 |6,_=>rfl
 |7,_=>rfl
end jT

namespace A_Post
open bK (I)
def fI{α:Type}(o:aA α)(P:α->Prop):Prop:=∃x,o=ah x/\P x
theorem ret{α:Type}{x:α}{P:α->Prop}(h:P x):fI (ah x) P:=⟨x,rfl,h⟩
theorem br{α:Type}{b:aW}{A B:aA α}{P:α->Prop}(h1:b=ai->fI A P)(h2:b=ak->fI B P):fI (bif b then A else B) P:=by
 cases b
 ·exact h2 rfl
 ·exact h1 rfl
theorem ck{α:Type}{b:aW}{A B:aA α}{P:α->Prop}(h:b=ai)(h1:fI A P):fI (bif b then A else B) P:=by subst h;exact h1
theorem cn{α:Type}{b:aW}{A B:aA α}{P:α->Prop}(h:b=ak)(h1:fI B P):fI (bif b then A else B) P:=by subst h;exact h1
theorem eq{α:Type}{o o':aA α}{P:α->Prop}(e:o=o')(h:fI o' P):fI o P:=by rw[e];exact h
theorem call{α β:Type}{b:aW}{w u:β}{X:β->aA α}{P:α->Prop}(h:b=ai)(e:w=u)(hx:fI (X u) P):fI (bif b then Lib.lt w X else aj) P:=by subst h;rw[ay,i9.lt_eq,e];exact hx
theorem below{α:Type}{q:aU}{a s k:az}{X:az×aU×az×az->aA α}{P:α->Prop}(hI:I q a)(hx:∀n a' s',I q a'->0<=n->(0<k->n<k)->fI (X (n,q,a',s')) P):fI (bif c9.c q a s k then Lib.lt (c9.v q a s k) X else aj) P:=by obtain⟨n,a',s',h1,h2,h3,h4,h5⟩:=c9.ok q a s k hI;exact call h1 h2 (hx n a' s' h3 h4 h5)
theorem once{α:Type}{q:aU}{a s k:az}{X:aW×aU×az×az->aA α}{P:α->Prop}(hI:I q a)(hx:∀n a' s',I q a'->fI (X (n,q,a',s')) P):fI (bif gT.c q a s k then Lib.lt (gT.v q a s k) X else aj) P:=by obtain⟨n,a',s',h1,h2,h3⟩:=gT.ok q a s k hI;exact call h1 h2 (hx n a' s' h3)
theorem PQ{α:Type}{q:aU}{a s:az}{l:aU}{X:az×aU×az×az×aU->aA α}{P:α->Prop}(R:az->Prop)(hR:0<l.length/\∀i,i<l.length->R (bU (ar l i 0)))(hI:I q a)(hx:∀n a' s',I q a'->R n->fI (X (n,q,a',s',l)) P):fI (bif sg.c q a s l then Lib.lt (sg.v q a s l) X else aj) P:=by obtain⟨n,a',s',h1,h2,h3,h4⟩:=sg.ok q a s l hI hR.1;exact call h1 h2 (hx _ a' s' h3 (hR.2 n h4))
theorem afs{α:Type}{q:aU}{a s:az}{l:aU}{X:aq×aU×az×az×aU->aA α}{P:α->Prop}(R:aq->Prop)(hR:0<l.length/\∀i,i<l.length->R (bM (ar l i 0)))(hI:I q a)(hx:∀n a' s',I q a'->R n->fI (X (n,q,a',s',l)) P):fI (bif n_.c q a s l then Lib.lt (n_.v q a s l) X else aj) P:=by obtain⟨n,a',s',h1,h2,h3,h4⟩:=n_.ok q a s l hI hR.1;exact call h1 h2 (hx _ a' s' h3 (hR.2 n h4))
theorem key{α:Type}{q:aU}{a s:az}{X:aq×aU×az×az->aA α}{P:α->Prop}(hI:I q a)(hx:∀n a' s',I q a'->n.size=2->fI (X (n,q,a',s')) P):fI (bif jT.c q a s then Lib.lt (jT.v q a s) X else aj) P:=by obtain⟨n,a',s',h1,h2,h3,h4⟩:=jT.ok q a s hI;exact call h1 h2 (hx n a' s' h3 h4)
theorem idx{n:az}{m:aE}(h0:0<=n)(h1:0<(m:az)->n<(m:az))(hm:decide ((m:az)>0)=ai):(decide (0<=n)&&decide (n<(m:az)))=true:=by have:=h1 (cg hm);rw[aG h0,aG this,aM]
end A_Post

namespace qw
open eQ (has without fX kV)
open iV (eh mj oT)
open eW (jK JS qE)
theorem gq{w m:ax aq}{s:ax (ax az)}{a:az}:oT w m s a=ai↔((∀k∈w++m,eh k=ai)/\(w++m).Nodup)/\w.length<=2/\m.length<=4/\jK s a=true:=by unfold oT;rw[aF,aF,aF,ba,ba,j7.Aa]
theorem qo{s:ax (ax az)}{a:az}:jK s a=ai↔s.length=3/\(0<=a/\a<=63)/\∀q∈s,q.length=16/\∀n∈q,0<=n/\n<=15:=by unfold jK qE JS;simp only[aF,ba,bj]
theorem D9{s:ax (ax az)}{a:az}(key:aq)(h:jK s a=ai):jK (fG.val s a key).1 (fG.val s a key).2=true:=by
 unfold fG.val;rw[h,ay];obtain⟨h1,h2,h3⟩:=qo.1 h;obtain⟨b1,b2⟩:=fG.rC (key:=key) h1 h3;by_cases ha:a+1=64
 ·rw[aG ha,ay,qo];unfold fG.half;refine⟨by rw[bP];exact b1,by omega,λq hq=> ?_⟩
  obtain⟨r,hr,rfl⟩:=cO.1 hq;refine⟨by rw[bP];exact(b2 r hr).1,λn hn=> ?_⟩
  obtain⟨k,hk,rfl⟩:=cO.1 hn;have:=(b2 r hr).2 k hk;rw[fZ this.1];omega
 ·rw[aK ha,aC,qo];exact⟨b1,by omega,b2⟩
theorem DT{k:aq}(h:eh k=ai):k≠⟨#[]⟩:=by intro e;rw[e]at h;exact cw h (by decide)
theorem pA{w m:ax aq}{s:ax (ax az)}{a:az}{key:aq}(h:oT w m s a=ai)(hk:eh key=ai):
  oT (j7.val w m s a key).1 (j7.val w m s a key).2.1 (j7.val w m s a key).2.2.1 (j7.val w m s a key).2.2.2.1=ai
  /\∀x,x∈(j7.val w m s a key).1\/x∈(j7.val w m s a key).2.1↔(x∈w\/x∈m\/x=key)/\x≠(j7.val w m s a key).2.2.2.2:=by
 obtain⟨⟨k1,nd⟩,l1,l2,hs⟩:=gq.1 h;have Ln:=D9 key hs;have kn:=DT hk;have wn:∀x,x∈w\/x∈m->x≠⟨#[]⟩:=λx hx=>DT (k1 x (aZ.2 hx));unfold j7.val;rw[h,hk,aM,ay];generalize fG.val s a key=V at Ln;obtain⟨S,A⟩:=V;dsimp only at Ln⊢;rw[dV]at nd;obtain⟨n1,n2,n3⟩:=nd;have hwo:∀l:ax aq,l.Nodup->(without l key).Nodup/\(∀x,x∈without l key↔x∈l/\x≠key):=λl hl=>by unfold without;exact⟨hl.sublist iS,λx=>by simp⟩
 cases h1:has w key with
 |true=>
  have hm:=fX.1 h1;obtain⟨o1,o2⟩:=hwo w n1;have o3:=eQ.qu h1;dsimp only[ay];refine⟨gq.2 ⟨⟨λk hx=> ?_, ?_⟩,by simp;omega,l2,Ln⟩,λx=> ?_⟩
  ·simp only[aZ,aY,o2]at hx;rcases hx with (hx|rfl)|hx
   ·exact k1 _ (aZ.2 (.inl hx.1))
   ·exact hk
   ·exact k1 _ (aZ.2 (.inr hx))
  ·simp only[dV,aZ,aY,o2];grind
  ·simp only[aZ,aY,o2];grind
 |false=>
  rw[aC];have hw:=kV.1 h1;cases h2:has m key with
  |true=>
   have hm:=fX.1 h2;obtain⟨o1,o2⟩:=hwo m n2;have o3:=eQ.qu h2;dsimp only[ay];refine⟨gq.2 ⟨⟨λk hx=> ?_, ?_⟩,l1,by simp;omega,Ln⟩,λx=> ?_⟩
   ·simp only[aZ,aY,o2]at hx;rcases hx with hx|hx|rfl
    ·exact k1 _ (aZ.2 (.inl hx))
    ·exact k1 _ (aZ.2 (.inr hx.1))
    ·exact hk
   ·simp only[dV,aZ,aY,o2];grind
   ·simp only[aZ,aY,o2];grind
  |false=>
   rw[aC];have hmn:=kV.1 h2;have od:∀x,x∈w++[key]\/x∈m↔x∈w\/x∈m\/x=key:=λx=>by simp only[aZ,aY];grind
   have S7:∀x,x∈w++[key]\/x∈m->eh x=true:=λx hx=>by
    rcases(od x).1 hx with hx|hx|rfl
    ·exact k1 _ (aZ.2 (.inl hx))
    ·exact k1 _ (aZ.2 (.inr hx))
    ·exact hk
   have Fv:(w++[key]).Nodup/\∀x∈w++[key],x∉m:=by simp only[dV,aZ,aY];grind
   have hlen:(w++[key]).length=w.length+1:=by simp
   generalize w++[key]=W at od S7 Fv hlen;obtain⟨d1,d2⟩:=Fv;by_cases h3:W.length<=2
   ·rw[aG h3,ay];refine⟨gq.2 ⟨⟨λk hx=>S7 k (aZ.1 hx), ?_⟩,h3,l2,Ln⟩,λx=> ?_⟩
    ·simp only[dV];grind
    ·dsimp only;rw[od];grind
   ·rw[aK h3,aC];cases W with
    |nil=>simp at hlen
    |cons x0 t=>
     rw[jC]at d1;rw[cS]at hlen;have hg:(x0::t).getD 0 ⟨#[]⟩=x0:=rfl;have ht:(x0::t).tail=t:=rfl;rw[hg,ht];by_cases h4:m.length<4
     ·rw[aG h4,ay];refine⟨gq.2 ⟨⟨λk hx=>S7 k ?_, ?_⟩,by dsimp only;omega,by simp;omega,Ln⟩,λx=> ?_⟩
      ·simp only[aZ,aY,cq]at hx⊢;grind
      ·simp only[dV,aZ,aY,cq]at d2⊢;grind
      ·dsimp only;rw[<-od];simp only[aZ,aY,cq];grind
     ·rw[aK h4,aC];cases m with
      |nil=>simp at h4
      |cons y0 u=>
       rw[jC]at n2;rw[cS]at l2 h4;have V_:(y0::u).getD 0 ⟨#[]⟩=y0:=rfl;have Es:(y0::u).tail=u:=rfl;rw[V_,Es];cases decide (mD.val S A x0>mD.val S A y0)with
       |true=>
        rw[ay];refine⟨gq.2 ⟨⟨λk hx=>S7 k ?_, ?_⟩,by dsimp only;omega,by simp;omega,Ln⟩,λx=> ?_⟩
        ·simp only[aZ,aY,cq]at hx⊢;grind
        ·simp only[dV,aZ,aY,cq]at d2⊢;grind
        ·dsimp only;rw[<-od];simp only[aZ,aY,cq]at d2⊢;grind
       |false=>
        rw[aC];refine⟨gq.2 ⟨⟨λk hx=>S7 k ?_, ?_⟩,by dsimp only;omega,by simp;omega,Ln⟩,λx=> ?_⟩
        ·simp only[aZ,cq]at hx⊢;grind
        ·simp only[dV,jC,cq]at d2⊢;grind
        ·dsimp only;rw[<-od];simp only[cq]at d2⊢;grind
end qw

namespace rA
open Lib (rr)
open bK (I)
open eW (jK)
open qw (qo)
abbrev s0:ax (ax az):=[tB 16 0,tB 16 0,tB 16 0]
theorem sk0:jK s0 0=true:=by decide
theorem fit{s:ax (ax az)}{a:az}(h:jK s a=ai):iK.oc s:=by obtain⟨h1,_,h3⟩:=qo.1 h;exact⟨by omega,λq hq=>by rw[(h3 q hq).1];omega⟩
theorem walk{P:R->Prop}(N:aE)(K:az->aU->az->az->az->az->aU->aA R)(q:aU)(z:az)
  (hK:∀(i a s:az) (S:ax (ax az)) (A:az),I q a->jK S A=ai->A_Post.fI (K i q a s z A (rr S)) P):
  ∀(d i n:aE) (S:ax (ax az)) (A a s:az),90-i<=d->i<=90->d<n->jK S A=ai->I q a->A_Post.fI (l3 N K n (i:az) q a s z A (rr S)) P:=by
 have step:∀(i n:aE) (S:ax (ax az)) (A a s:az),i<=90->jK S A=ai->I q a->
   (∀(S:ax (ax az)) (A a s:az),i<90->jK S A=ai->I q a->A_Post.fI (l3 N K n ((i+1:aE):az) q a s z A (rr S)) P)->A_Post.fI (l3 N K (n+1) (i:az) q a s z A (rr S)) P:=by
  intro i n S A a s h2 h4 h5 nx
  obtain⟨x,a1,s1,c1,v1,I1,g0,g1⟩:=c9.ok q a s 90 h5
  have:=g1 (by omega)
  rw[show l3 N K (n+1)=r3 N (l3 N K n) K from rfl]
  unfold r3
  refine A_Post.ck c1 ?_
  rw[v1]
  dsimp only
  by_cases h:(i:az)<x
  ·refine A_Post.ck (aG h) ?_;obtain⟨k,a2,s2,c2,v2,I2,hk⟩:=jT.ok q a1 s1 I1;refine A_Post.ck c2 ?_;rw[v2];dsimp only;have B:=fG.ok S A k (fit h4) (by omega);refine A_Post.ck B.1 ?_;rw[B.2,cX (x:=(i:az)+1) (by omega) (by omega)];exact nx _ _ a2 s2 (by omega) (qw.D9 k h4) I2
  ·exact A_Post.cn (aK h) (hK _ _ _ _ _ I1 h4)
 intro d;induction d with
 |zero=>
  intro i n S A a s h1 h2 h3 h4 h5;obtain⟨n,rfl⟩:∃k,n=k+1:=⟨n-1,by omega⟩
  exact step i n S A a s h2 h4 h5 (λ_ _ _ _ h=>by omega)
 |succ d ih=>
  intro i n S A a s h1 h2 h3 h4 h5;obtain⟨n,rfl⟩:∃k,n=k+1:=⟨n-1,by omega⟩
  exact step i n S A a s h2 h4 h5 (λS A a s h h6 h7=>ih (i+1) n S A a s (by omega) (by omega) (by omega) h6 h7)
theorem ok{q:aU}{a s:az}(hI:I q a):∃(S:ax (ax az)) (A a' s':az),jK S A=ai/\I q a'/\c q a s=ai/\v q a s=(rr S,A,q,a',s'):=by
 have main:A_Post.fI (vo q a s) (λx=>∃(S:ax (ax az)) (A a' s':az),jK S A=ai/\I q a'/\x=(rr S,A,q,a',s')):=by
  unfold vo;generalize hN:Lib.cR=N;have V3:90<N:=by rw[<-hN];exact cJ (by omega)
  clear hN;unfold b;exact walk N _ q 0 (λi a s S A h1 h2=>A_Post.ret ⟨S,A,a,s,h2,h1,rfl⟩) 90 0 N s0 0 a s (cm _) (bm _) V3 sk0 hI
 obtain⟨x,hx,S,A,a',s',h1,h2,rfl⟩:=main;obtain⟨c1,v1⟩:=out _ _ _ hx;exact⟨S,A,a',s',h1,h2,c1,v1⟩
end rA

namespace yp
open Lib (rr ri)
open bK (I)
open eW (jK)
open qw (qo)
open A_Post (fI)
open fG (Gh D8)
def Sm(s:ax (ax az)):Prop:=s.length<=3/\∀q∈s,q.length<=16
theorem Sm.fit{s:ax (ax az)}(h:Sm s):iK.oc s:=⟨by have:=h.1;omega,λq hq=>by have:=h.2 q hq;omega⟩
theorem Sm.of{s:ax (ax az)}{a:az}(h:jK s a=ai):Sm s:=by obtain⟨h1,_,h3⟩:=qo.1 h;exact⟨by omega,λq hq=>by rw[(h3 q hq).1];omega⟩
theorem Sm.set{s:ax (ax az)}(h:Sm s)(i:aE){q:ax az}(hq:q.length<=16):Sm (s.set i q):=by
 refine⟨by rw[c7];exact h.1,λx hx=> ?_⟩
 rcases ly hx with hx|rfl
 ·exact h.2 x hx
 ·exact hq
theorem md(x:az)(k:aE)(hk:0<k)(h:0<=x):∃m:aE,m<k/\bI x (k:az)=(m:az):=by
 refine⟨(x%(k:az)).toNat, ?_, ?_⟩
 ·have:=vD x (show(0:az)<k by omega);have:=q_ x (show(k:az)≠0 by omega);omega
 ·rw[iP h];have:=q_ x (show(k:az)≠0 by omega);omega
theorem ix{m n:aE}(h:m<n):(decide (0<=(m:az))&&decide ((m:az)<(n:az)))=true:=by rw[aG (show 0<=(m:az)by omega),aG (show(m:az)<(n:az)by omega)];rfl
theorem aed(ks:ax Ck)(x y z:ax CV):bT (aw (aw (aw (aN ks 3) 0 x) 1 y) 2 z)=3:=by simp[aN]
theorem ok{q:aU}{a s:az}(hI:I q a):∃(S:ax (ax az)) (A a' s':az),Sm S/\I q a'/\c q a s=ai/\v q a s=(rr S,A,q,a',s'):=by
 have main:fI (vo q a s) (λx=>∃(S:ax (ax az)) (A a' s':az),Sm S/\I q a'/\x=(rr S,A,q,a',s')):=by
  unfold vo b;refine A_Post.below hI (λk a1 s1 I1 k0 k1=> ?_);refine A_Post.below I1 (λx a2 s2 I2 x0 x1=> ?_);obtain⟨S,A,a3,s3,hS,I3,c3,v3⟩:=rA.ok (s:=s2) I2;refine A_Post.call c3 v3 ?_;have C:=lR.ok S A (rA.fit hS);refine A_Post.call C.1 C.2 ?_;dsimp only;have sm:=Sm.of hS;obtain⟨hl,hA,hq⟩:=qo.1 hS;have L3:(rr S).length=3:=by rw[gk];exact hl
  obtain⟨m3,hm3,e3⟩:=md x 3 (by omega) x0;obtain⟨m16,ali,e16⟩:=md x 16 (by omega) x0;rw[show(((3:aE):az))=3 from rfl]at e3;rw[show(((16:aE):az))=16 from rfl]at e16;rw[e3,e16,L3,aed,aed];have hmS:m3<S.length:=by omega
  have h0S:0<S.length:=by omega
  have r3:ar (rr S) m3 0=CV.l 3 (ri S[m3]):=Ew hmS;have r0:ar (rr S) 0 0=CV.l 3 (ri S[0]):=Ew h0S;have q3:=(hq _ (bD hmS)).1;have q0:=(hq _ (bD h0S)).1;refine A_Post.br (λ_=> ?_) (λ_=> ?_)
  ·refine A_Post.ck (ix hm3) ?_;refine A_Post.ck (ix hm3) ?_;rw[dJ,dJ,r3];refine A_Post.ck ?_ ?_
   ·show(decide (0<=(m16:az))&&decide ((m16:az)<((ri S[m3]).length:az)))=ai;rw[Lib.fV,q3];exact ix ali
   ·refine A_Post.ret ⟨S.set m3 (S[m3].set m16 (bU (ar (aw (aw (aw (aN [Ck.i ao] 3) 0 [CV.i ao (gD 1)]) 1 [CV.i ao 15]) 2 [CV.i ao 16]) m3 0))),A,a3,s3,sm.set m3 (by rw[c7];omega),I3, ?_⟩;rw[show rr S=S.map fG.fR from rfl];rw[show g9 (CV.l 3 (ri S[m3]))=ri S[m3]from rfl,Gh _ _ _ (by omega),D8 _ _ _ hmS];rfl
  ·refine A_Post.br (λ_=> ?_) (λ_=> ?_)
   ·exact A_Post.ck (ix hm3) (A_Post.ret ⟨S,_,a3,s3,sm,I3,rfl⟩)
   ·refine A_Post.br (λ_=> ?_) (λ_=> ?_)
    ·refine A_Post.ck rfl (A_Post.ret ⟨S.drop 1,A,a3,s3,⟨by rw[eF];omega,λy hy=>sm.2 y (kj hy)⟩,I3, ?_⟩);have:dW (rr S) (aX 1) (aX ((3:aE):az))=rr (S.drop 1):=by unfold dW rr;rw[show aX 1=1 from rfl,show aX ((3:aE):az)=3 from rfl,VQ];exact ir (by rw[eF,bP];omega)
     rw[this]
    ·refine A_Post.br (λ_=> ?_) (λ_=> ?_)
     ·refine A_Post.ck rfl ?_;rw[show aX 0=0 from rfl,r0];have e:g9 (CV.l 3 (ri S[0]))=ri S[0]:=rfl;rw[e,Lib.fV,q0];refine A_Post.ck rfl (A_Post.ck rfl (A_Post.ret ⟨S.set 0 (S[0].drop 1),A,a3,s3,sm.set 0 (by rw[eF];omega),I3, ?_⟩));have:dW (ri S[0]) (aX 1) (aX ((16:aE):az))=ri (S[0].drop 1):=by unfold dW ri;rw[show aX 1=1 from rfl,show aX ((16:aE):az)=16 from rfl,VQ];exact ir (by rw[eF,bP];omega)
      rw[this,show rr S=S.map fG.fR from rfl,D8 _ _ _ h0S];rfl
     ·exact A_Post.ret ⟨S,A,a3,s3,sm,I3,rfl⟩
 obtain⟨x,hx,S,A,a',s',h1,h2,rfl⟩:=main;obtain⟨c1,v1⟩:=out _ _ _ hx;exact⟨S,A,a',s',h1,h2,c1,v1⟩
end yp

namespace yo
open Lib (rr rs)
open bK (I)
open iV (oT eh)
open qw (gq)
theorem p0:oT [] [] rA.s0 0=true:=by decide
theorem walk{P:R->Prop}(N:aE)(K:az->aU->az->az->az->az->aU->aU->aU->aA R)(q:aU)(z:az)
  (hK:∀(i a s:az) (w m:ax aq) (S:ax (ax az)) (A:az),I q a->oT w m S A=ai->A_Post.fI (K i q a s z A (rs w) (rs m) (rr S)) P):
  ∀(d i n:aE) (w m:ax aq) (S:ax (ax az)) (A a s:az),40-i<=d->i<=40->d<n->oT w m S A=ai->I q a->A_Post.fI (l3 N K n (i:az) q a s z A (rs w) (rs m) (rr S)) P:=by
 have step:∀(i n:aE) (w m:ax aq) (S:ax (ax az)) (A a s:az),i<=40->oT w m S A=ai->I q a->
   (∀(w m:ax aq) (S:ax (ax az)) (A a s:az),i<40->oT w m S A=ai->I q a->A_Post.fI (l3 N K n ((i+1:aE):az) q a s z A (rs w) (rs m) (rr S)) P)->A_Post.fI (l3 N K (n+1) (i:az) q a s z A (rs w) (rs m) (rr S)) P:=by
  intro i n w m S A a s h2 h4 h5 nx
  obtain⟨x,a1,s1,c1,v1,I1,g0,g1⟩:=c9.ok q a s 40 h5
  have:=g1 (by omega)
  rw[show l3 N K (n+1)=r3 N (l3 N K n) K from rfl]
  unfold r3
  refine A_Post.ck c1 ?_
  rw[v1]
  dsimp only
  by_cases h:(i:az)<x
  ·refine A_Post.ck (aG h) ?_;obtain⟨k,a2,s2,c2,v2,I2,hk⟩:=jT.ok q a1 s1 I1;refine A_Post.ck c2 ?_;rw[v2];dsimp only;obtain⟨_,l1,l2,hS⟩:=gq.1 h4;have B:=j7.ok w m S A k (by omega) (by omega) (rA.fit hS) (by omega);refine A_Post.ck B.1 ?_;rw[B.2,cX (x:=(i:az)+1) (by omega) (by omega)];have hko:eh k=true:=by unfold eh;exact aG (by omega)
   exact nx _ _ _ _ a2 s2 (by omega) (qw.pA h4 hko).1 I2
  ·exact A_Post.cn (aK h) (hK _ _ _ _ _ _ _ I1 h4)
 intro d;induction d with
 |zero=>
  intro i n w m S A a s h1 h2 h3 h4 h5;obtain⟨n,rfl⟩:∃k,n=k+1:=⟨n-1,by omega⟩
  exact step i n w m S A a s h2 h4 h5 (λ_ _ _ _ _ _ h=>by omega)
 |succ d ih=>
  intro i n w m S A a s h1 h2 h3 h4 h5;obtain⟨n,rfl⟩:∃k,n=k+1:=⟨n-1,by omega⟩
  exact step i n w m S A a s h2 h4 h5 (λw m S A a s h h6 h7=>ih (i+1) n w m S A a s (by omega) (by omega) (by omega) h6 h7)
theorem ok{q:aU}{a s:az}(hI:I q a):∃(w m:ax aq) (S:ax (ax az)) (A a' s':az),oT w m S A=ai/\I q a'/\c q a s=ai/\v q a s=(rs w,rs m,rr S,A,q,a',s'):=by
 have main:A_Post.fI (vo q a s) (λx=>∃(w m:ax aq) (S:ax (ax az)) (A a' s':az),oT w m S A=ai/\I q a'/\x=(rs w,rs m,rr S,A,q,a',s')):=by
  unfold vo;generalize hN:Lib.cR=N;have V3:40<N:=by rw[<-hN];exact cJ (by omega)
  clear hN;unfold b;exact walk N _ q 0 (λi a s w m S A h1 h2=>A_Post.ret ⟨w,m,S,A,a,s,h2,h1,rfl⟩) 40 0 N [] [] rA.s0 0 a s (cm _) (bm _) V3 p0 hI
 obtain⟨x,hx,w,m,S,A,a',s',h1,h2,rfl⟩:=main;obtain⟨c1,v1⟩:=out _ _ _ hx;exact⟨w,m,S,A,a',s',h1,h2,c1,v1⟩
end yo

namespace zq
open Lib (rr rs)
open bK (I)
open qw (gq)
open A_Post (fI)
open yp (Sm md ix)
def Pm(w m:ax aq)(s:ax (ax az)):Prop:=w.length<=3/\m.length<=5/\Sm s
theorem rm(n k:aE)(h:n<=1000)(hk:k=1):cy (n+k) 16=true:=by unfold cy;subst hk;rw[aG (by omega),aG (by omega)];rfl
theorem snoc(w:ax aq)(y:aq):rs w++aw (aN [Ck.s] 1) 0 [CV.s y]=rs (w++[y]):=by unfold rs;rw[c8];rfl
theorem ok{q:aU}{a s:az}(hI:I q a):∃(w m:ax aq) (S:ax (ax az)) (A a' s':az),Pm w m S/\I q a'/\c q a s=ai/\v q a s=(rs w,rs m,rr S,A,q,a',s'):=by
 have main:fI (vo q a s) (λx=>∃(w m:ax aq) (S:ax (ax az)) (A a' s':az),Pm w m S/\I q a'/\x=(rs w,rs m,rr S,A,q,a',s')):=by
  unfold vo b;refine A_Post.below hI (λk a1 s1 I1 k0 k1=> ?_);refine A_Post.below I1 (λx a2 s2 I2 x0 x1=> ?_);obtain⟨w,m,S,A,a3,s3,hS,I3,c3,v3⟩:=yo.ok (s:=s2) I2;refine A_Post.call c3 v3 ?_;obtain⟨_,l1,l2,hsk⟩:=gq.1 hS;have C:=eR.ok w m S A (by omega) (by omega) (rA.fit hsk);refine A_Post.call C.1 C.2 ?_;dsimp only;have sm:=Sm.of hsk;obtain⟨m4,hm4,e4⟩:=md x 4 (by omega) x0;obtain⟨m2,S8,e2⟩:=md x 2 (by omega) x0;rw[show(((4:aE):az))=4 from rfl]at e4;rw[show(((2:aE):az))=2 from rfl]at e2;rw[e4,e2];refine A_Post.br (λ_=> ?_) (λ_=> ?_)
  ·refine A_Post.ck (ix (by simpa [aN]using hm4)) (A_Post.ck (rm _ _ (by rw[er];omega) (by simp[aN])) ?_);rw[snoc];exact A_Post.ret ⟨w++[_],m,S,A,a3,s3,⟨by rw[bX];show w.length+1<=3;omega,by omega,sm⟩,I3,rfl⟩
  ·refine A_Post.br (λ_=> ?_) (λ_=> ?_)
   ·refine A_Post.ck (ix (by simpa [aN]using S8)) (A_Post.ck (rm _ _ (by rw[er];omega) (by simp[aN])) ?_);rw[snoc];exact A_Post.ret ⟨w,m++[_],S,A,a3,s3,⟨by omega,by rw[bX];show m.length+1<=5;omega,sm⟩,I3,rfl⟩
   ·refine A_Post.br (λ_=> ?_) (λ_=> ?_)
    ·obtain⟨S2,A2,a4,s4,h4,I4,c4,v4⟩:=yp.ok (s:=s3) I3;exact A_Post.call c4 v4 (A_Post.ret ⟨w,m,S2,A2,a4,s4,⟨by omega,by omega,h4⟩,I4,rfl⟩)
    ·exact A_Post.ret ⟨w,m,S,A,a3,s3,⟨by omega,by omega,sm⟩,I3,rfl⟩
 obtain⟨x,hx,w,m,S,A,a',s',h1,h2,rfl⟩:=main;obtain⟨c1,v1⟩:=out _ _ _ hx;exact⟨w,m,S,A,a',s',h1,h2,c1,v1⟩
end zq

namespace Ix
open Lib (Px Cl Fe En el)
open eQ (has without fX kV)
open iV (eh oT)
open mC (sV)
open nr (m8 ll)
open s8 (kY)
open ik (So ff fK mo)
open m9 (Ii)
open sL (gh GA qk)
open qw (gq pA)
open jA (yS told Jg J8 j4)
theorem VX{p:Px}(h:gh p){n:az}(h1:p.now<=n)(h2:n<=1000000000):gh {p with now:=n}:=by
 have:=h.now;refine⟨⟨by dsimp only;omega,h2⟩,h.en,h.so,h.ek,h.pol,h.len,h.fl,λf hf=> ?_,h.ap,h.cll,λc hc=> ?_,h.cs,h.hits⟩
 ·have:=h.fe f hf;unfold m8 at this⊢;simp only[aF,ba]at this⊢;exact⟨this.1,this.2.1,this.2.2.1,this.2.2.2.1,this.2.2.2.2.1,wZ this.2.2.2.2.2 h1⟩
 ·have:=h.cl c hc;unfold GA at this⊢;simp only[aF,ba]at this⊢;exact⟨this.1,this.2.1,this.2.2.1,this.2.2.2.1,this.2.2.2.2.1,⟨this.2.2.2.2.2.1.1,wZ this.2.2.2.2.2.1.2 h1⟩,this.2.2.2.2.2.2⟩
theorem yX{p:Px}{n:aE}{g:Fe}{st:az}(h:gh p)(hn:n<p.fe.length)(hk:g.k=(el p.fe n).k)(hg:m8 p.now g=ai)(hs:g.sta=1->(el p.fe n).sta=1)(h1:1<=st/\st<=3):gh (told p n g st):=by
 rw[fc hn]at hk hs;refine⟨h.now,h.en,h.so,h.ek,h.pol,h.len, ?_,λf hf=> ?_, ?_, ?_,λc hc=> ?_, ?_,h.hits⟩
 ·show(p.fe.set n g).length<=20;rw[c7];exact h.fl
 ·rcases ly hf with q|rfl
  ·exact h.fe f q
  ·exact hg
 ·show(p.fe.set n g).Pairwise _;rw[db];intro i j hi hj Lf;rw[c7]at hi hj;have:=db.1 h.ap i j hi hj Lf;rw[Nq,Nq];unfold ll at this⊢;by_cases e1:n=i
  ·by_cases e2:n=j
   ·omega
   ·subst e1;simp only[if_true,e2,if_false];rw[hk];by_cases e3:g.sta=1
    ·rw[hs e3]at this;rw[e3];exact this
    ·rw[aK e3];simp
  ·by_cases e2:n=j
   ·subst e2;simp only[e1,if_true,if_false];rw[hk];by_cases e3:g.sta=1
    ·rw[hs e3]at this;rw[e3];exact this
    ·rw[aK e3];simp
   ·simp only[e1,e2,if_false];exact this
 ·show(vL.qz p.cl n st g.t).length<=6;unfold vL.qz;rw[bP];exact h.cll
 ·have Fo:c∈vL.qz p.cl n st g.t:=hc;unfold vL.qz at Fo;obtain⟨d,hd,rfl⟩:=cO.1 Fo;have h2:=h.cl d hd;show GA p.now (p.fe.set n g).length _=ai;rw[c7];unfold vL.ec;cases decide (d.fe=(n:az)+1)&&decide (d.sta=1)with
  |false=>exact h2
  |true=>rw[ay];unfold GA at h2⊢;unfold m8 at hg;simp only[aF,ba]at h2 hg⊢;exact⟨h2.1,h2.2.1,h1,h2.2.2.2.1,hg.2.1,h2.2.2.2.2.2⟩
 ·show(vL.qz p.cl n st g.t).Pairwise _;unfold vL.qz;rw[jz];refine h.cs.imp λ{a b} ZF=> ?_;have e:∀d:Cl,(vL.ec n st g.t d).id=d.id:=λd=>by unfold vL.ec;cases decide (d.fe=(n:az)+1)&&decide (d.sta=1)<;>rfl
  rw[e,e];exact ZF
theorem Js{p:Px}(h:gh p){n:aE}(hn:n<p.fe.length):eh (el p.fe n).k=ai/\((el p.fe n).t.size:az)<=400/\(1<=(el p.fe n).sta/\(el p.fe n).sta<=3)/\(0<=(el p.fe n).li/\(el p.fe n).li<=999999)/\0<=(el p.fe n).st/\(el p.fe n).st<=p.now:=by have:=h.fe _ (qe hn);unfold m8 at this;simpa only[aF,ba]using this
theorem NR{p:Px}(f:az)(h:gh p):gh (Jg p f).1:=by
 unfold Jg;cases ho:yS p f with
 |false=>exact h
 |true=>obtain⟨n,rfl,hn,_,h1⟩:=j4 ho;obtain⟨g1,g2,g3,g4,g5⟩:=Js h hn;refine yX h hn rfl ?_ (λe=>cw e (by dsimp only;omega)) (by omega);unfold m8;simp only[aF,ba];exact⟨g1,g2,by omega,g4,g5⟩
theorem PU{p:Px}(f:az)(t:aq)(h:gh p):gh (J8 p f t).1:=by
 unfold J8;cases ho:yS p f&&(decide (1<=t.size/\t.size<=40)&&decide ((el p.fe f.toNat).t.size+t.size<=400))with
 |false=>exact h
 |true=>
  simp only[aF,ba]at ho;obtain⟨n,rfl,hn,_,h1⟩:=j4 ho.1;obtain⟨g1,g2,g3,g4,g5⟩:=Js h hn;rw[dJ]at ho;refine yX h hn rfl ?_ (λ_=>h1) (by omega);unfold m8;simp only[aF,ba];refine⟨g1, ?_,g3,g4,g5⟩
  show((((el p.fe n).t++t).size:aE):az)<=400;rw[dn];omega
def KQ(en:ax En)(w m:ax aq):Prop:=∀k,k∈w\/k∈m↔∃e∈en,e.k=k
theorem Gi{en:ax En}(h:So en):(en.map λe=>e.k).Nodup:=by rw[n9,jz];refine h.imp λ{a b} ZF e=> ?_;rw[e]at ZF;unfold ff at ZF;rw[e8.nC]at ZF;cases ZF
theorem yU{p:Px}(h:gh p):KQ p.en p.w p.m:=by
 obtain⟨⟨_,nd⟩,_⟩:=gq.1 h.pol;have ne:=Gi h.so;have sub:(p.en.map λe=>e.k)⊆p.w++p.m:=λx hx=>by obtain⟨e,he,rfl⟩:=cO.1 hx;exact aZ.2 (h.ek e he)
 intro k;constructor
 ·intro hk;have hk:k∈p.w++p.m:=aZ.2 hk;refine xS λhn=> ?_;have nn:(k::p.en.map λe=>e.k).Nodup:=jC.2 ⟨λhx=>hn (by obtain⟨e,he,q⟩:=cO.1 hx;exact⟨e,he,q⟩),ne⟩;have:=nn.length_le_of_subset (l₂:=p.w++p.m) (λx hx=>by
   rcases cq.1 hx with rfl|hx
   ·exact hk
   ·exact sub hx)
  have hl:=h.len;simp only[cS,bP,bX]at this;omega
 ·rintro ⟨e,he,rfl⟩;exact h.ek e he
theorem of_same{en:ax En}{w m:ax aq}{s:ax (ax az)}{a:az}(h:KQ en w m)(so:So en)(hp:oT w m s a=ai):(∀e∈en,e.k∈w\/e.k∈m)/\w.length+m.length=en.length:=by
 obtain⟨⟨_,nd⟩,_⟩:=gq.1 hp;refine⟨λe he=>(h _).2 ⟨e,he,rfl⟩, ?_⟩
 have:=((List.perm_ext_iff_of_nodup nd (Gi so)).2 λx=>by rw[aZ,h x,cO]).length_eq;rw[bX,bP]at this;exact this
theorem lG{en:ax En}{k:aq}{e:En}:e∈fK en k↔e∈en/\e.k≠k:=by unfold fK;simp
theorem oy{en:ax En}{x e:En}:x∈mo en e↔x=e\/(x∈en/\x.k≠e.k):=by
 unfold mo;simp only[aZ,dh,aY,dt,gL,gi];constructor
 ·rintro ((⟨h1,h2⟩|rfl)|⟨h1,h2⟩)
  ·refine .inr ⟨h1,λe2=> ?_⟩;rw[e2]at h2;unfold ff at h2;rw[e8.nC]at h2;cases h2
  ·exact .inl rfl
  ·exact .inr ⟨h1,h2.2⟩
 ·rintro (rfl|⟨h1,h2⟩)
  ·exact .inl (.inr rfl)
  ·cases hl:ff x.k e.k with
   |true=>exact .inl (.inl ⟨h1,rfl⟩)
   |false=>exact .inr ⟨h1,rfl,h2⟩
theorem wR{en:ax En}(h:So en)(e:En):So (mo en e):=by have:=(e8.uU (ik.Cv h) e.k e.st e.li e.bo).1.1;rw[ik.tZ]at this;unfold Lib.re at this;rw[jz]at this;exact this
theorem Ij{p:Px}{e:En}(h:gh p)(he:sV e=ai):gh (Ii p e):=by
 have hk:eh e.k=true:=by have:=(h_.Eu he).1;unfold eh;exact aG (by omega)
 obtain⟨t1,t2⟩:=pA h.pol hk;have sm:=yU h;unfold Ii;generalize j7.val p.w p.m p.s p.a e.k=V at t1 t2;obtain⟨W,M,S,A,G⟩:=V;dsimp only at t1 t2⊢;have key:∀en',So en'->(∀x∈en',sV x=ai)->KQ en' W M->gh ⟨p.now,en',W,M,S,A,p.fe,p.cl,p.hits⟩:=λen' o1 o2 o3=>by obtain⟨q1,q2⟩:=of_same o3 o1 t1;exact⟨h.now,o2,o1,q1,t1,q2,h.fl,h.fe,h.ap,h.cll,h.cl,h.cs,h.hits⟩
 have d1:So (fK p.en G):=h.so.drop G;have d2:∀x∈fK p.en G,sV x=true:=λx hx=>h.en x (lG.1 hx).1;cases hh:has W e.k||has M e.k with
 |true=>
  rw[ay];have gO:e.k∈W\/e.k∈M:=by rwa[dv,fX,fX]at hh
  refine key _ (wR d1 e) (λx hx=> ?_) λk=> ?_
  ·rcases oy.1 hx with rfl|q
   ·exact he
   ·exact d2 x q.1
  ·rw[t2 k];have hg:=((t2 e.k).1 gO).2;constructor
   ·rintro ⟨q,hn⟩;by_cases e1:k=e.k
    ·exact⟨e,oy.2 (.inl rfl),e1.symm⟩
    ·have q2:k∈p.w\/k∈p.m:=q.elim .inl λq=>q.elim .inr λq=>cw q e1;obtain⟨x,hx,rfl⟩:=(sm k).1 q2;exact⟨x,oy.2 (.inr ⟨lG.2 ⟨hx,hn⟩,e1⟩),rfl⟩
   ·rintro ⟨x,hx,rfl⟩;rcases oy.1 hx with rfl|q
    ·exact⟨.inr (.inr rfl),hg⟩
    ·obtain⟨q1,q2⟩:=lG.1 q.1;exact⟨((sm x.k).2 ⟨x,q1,rfl⟩).elim .inl λz=> .inr (.inl z),q2⟩
 |false=>
  rw[aC];have gO:¬(e.k∈W\/e.k∈M):=by rw[<-fX,<-fX,<-dv,hh];simp
  have hg:e.k=G:=xS λhn=>gO ((t2 e.k).2 ⟨.inr (.inr rfl),hn⟩);refine key _ d1 d2 λk=> ?_;rw[t2 k];constructor
  ·rintro ⟨q,hn⟩;have q2:k∈p.w\/k∈p.m:=q.elim .inl λq=>q.elim .inr λq=>cw (q.trans hg) hn;obtain⟨x,hx,rfl⟩:=(sm k).1 q2;exact⟨x,lG.2 ⟨hx,hn⟩,rfl⟩
  ·rintro ⟨x,hx,rfl⟩;obtain⟨q1,q2⟩:=lG.1 hx;exact⟨((sm x.k).2 ⟨x,q1,rfl⟩).elim .inl λz=> .inr (.inl z),q2⟩
end Ix

namespace Iw
def fv(k:aq)(s l:az)(b:aq)(n:az):aW:=bif h_.v k s l b then bif jV.v n s 1000000000 then decide (bE (n-s)<l)else ak else ak
theorem eq(k:aq)(s l:az)(b:aq)(n:az):Rr.v k s l b n=fv k s l b n:=by
 have e:zp.v k s l b=h_.v k s l b:=rfl;unfold Rr.v fv;rw[e];cases h:h_.v k s l b with
 |false=>rfl
 |true=>
  have hs:(0<=s/\s<=1000000000)/\1<=l/\l<=999999:=by unfold h_.v at h;cases h1:EK.v k<;>rw[h1]at h<;>simp only[ay,aC,cU]at h;cases h2:jV.v s 0 1000000000<;>rw[h2]at h<;>simp only[ay,aC,cU]at h;cases h3:jV.v l 1 999999<;>rw[h3]at h<;>simp only[ay,aC,cU]at h;simp[jV.v]at h2 h3;omega
  simp only[ay,zo.v,pb.v,jV.v,dc,ba];by_cases h1:0<=n/\n<=1000000000
  ·rw[jL (x:=n-s) (by omega) (by omega),jL (x:=s+l) (by omega) (by omega),jL (x:=s+l-1) (by omega) (by omega)];by_cases h2:s<=n<;>by_cases h3:n-s<l<;>simp[h1,h2,h3]<;>omega
  ·by_cases h2:s<=n<;>by_cases h3:0<=n<;>by_cases h4:n<=1000000000<;>simp[h2,h3,h4]<;>omega
end Iw

namespace GI
open Lib (Px Cl Fe En el)
open eQ (has without fX kV)
open iV (eh oT)
open mC (sV)
open nr (m8 ll)
open s8 (kY)
open ik (So ff fK mo)
open sL (gh GA qk)
open qw (gq pA D9 DT)
open Ix (KQ yU of_same lG)
open iX (ZR Ag put N7 RD HZ mJ jn BB yO)
theorem U5(l:ax Cl)(n:az):(l.filter λx=>decide (x.id<n)).length+(l.filter λx=>decide (x.id>n)).length<=l.length:=by
 induction l with
 |nil=>exact cm _
 |cons y l ih=>
  simp only[List.filter_cons];by_cases h1:y.id<n
  ·rw[aG h1,aK (show¬y.id>n by omega)];simp only[if_true,cU,if_false,cS];omega
  ·rw[aK h1];by_cases h2:y.id>n
   ·rw[aG h2];simp only[if_true,cU,if_false,cS];omega
   ·rw[aK h2];simp only[cU,if_false,cS];omega
theorem WR{l:ax Cl}{c:Cl}(cs:l.Pairwise λa b=>a.id<b.id):(jn l c).length<=l.length+1/\((jn l c).Pairwise λa b=>a.id<b.id)/\∀x∈jn l c,x=c\/x∈l:=by
 unfold jn;refine⟨?_, ?_,λx hx=> ?_⟩
 ·have:=U5 l c.id;simp only[bX,cS,iT];omega
 ·rw[cf,sP];refine⟨cs.filter _, ?_,λa ha b hb=> ?_⟩
  ·rw[sQ,lE];exact⟨λb hb=>cg (dh.1 hb).2,cs.filter _⟩
  ·have ha:=cg (dh.1 ha).2;rcases aZ.1 hb with hb|hb
   ·rw[aY]at hb;rw[hb];exact ha
   ·have hb:=cg (dh.1 hb).2;omega
 ·rcases aZ.1 hx with hx|hx
  ·rcases aZ.1 hx with hx|hx
   ·exact .inr (dh.1 hx).1
   ·exact .inl (aY.1 hx)
  ·exact .inr (dh.1 hx).1
theorem U3{w m:ax aq}{s:ax (ax az)}{a:az}{key:aq}(h:key∈w\/key∈m):(j7.val w m s a key).2.2.2.2=⟨#[]⟩:=by
 unfold j7.val;cases oT w m s a&&eh key with
 |false=>rfl
 |true=>
  rw[ay];cases h1:has w key with
  |true=>rfl
  |false=>have h2:has m key=true:=fX.2 (h.resolve_left (kV.1 h1));rw[h2];rfl
theorem QO{w m:ax aq}{s:ax (ax az)}{a:az}{key:aq}(h:oT w m s a=ai)(hk:eh key=ai):(has (j7.val w m s a key).1 key||has (j7.val w m s a key).2.1 key)=true:=by
 obtain⟨⟨k1,nd⟩,l1,l2,hs⟩:=gq.1 h;rw[dv,fX,fX];refine((pA h hk).2 key).2 ⟨.inr (.inr rfl), ?_⟩;have kn:=DT hk;unfold j7.val;rw[h,hk,aM,ay];cases h1:has w key with
 |true=>exact kn
 |false=>
  rw[aC];have hw:=kV.1 h1;cases h2:has m key with
  |true=>exact kn
  |false=>
   rw[aC];have hm:=kV.1 h2;by_cases h3:(w++[key]).length<=2
   ·rw[aG h3];exact kn
   ·rw[aK h3,aC];have iq:(w++[key]).getD 0 ⟨#[]⟩≠key:=by
     cases w with
     |nil=>simp at h3
     |cons x w=>intro e;exact hw (by rw[<-e];simp)
    by_cases h4:m.length<4
    ·rw[aG h4];exact kn
    ·rw[aK h4,aC];cases decide (mD.val (fG.val s a key).1 (fG.val s a key).2 ((w++[key]).getD 0 ⟨#[]⟩)>mD.val (fG.val s a key).1 (fG.val s a key).2 (m.getD 0 ⟨#[]⟩))with
     |true=>
      intro e;cases m with
      |nil=>simp at h4
      |cons x m=>exact hm (by rw[e];simp)
     |false=>exact λe=>iq e.symm
theorem ZS{p:Px}{id:az}{key:aq}{e:En}(h:gh p)(Hz:1<=id/\id<=9)(hk:eh key=ai)(hl:p.cl.length<6)(he:e∈p.en)(hek:e.k=key)(Lq:e.st<=p.now):gh (ZR p id key e):=by
 have gO:key∈p.w\/key∈p.m:=by rw[<-hek];exact h.ek e he
 obtain⟨t1,t2⟩:=pA h.pol hk;have tg:=U3 (s:=p.s) (a:=p.a) gO;have sm:=yU h;have hr:=h_.Eu (h.en e he);obtain⟨j1,j2,j3⟩:=WR (c:=⟨id,key,0,e.st,2,e.bo,p.now-e.st⟩) h.cs;unfold ZR;generalize j7.val p.w p.m p.s p.a key=V at t1 t2 tg;obtain⟨W,M,S,A,G⟩:=V;dsimp only at t1 t2 tg⊢;subst tg;have sm2:KQ p.en W M:=λk=>by
  rw[t2 k];refine Iff.trans ?_ (sm k);constructor
  ·rintro ⟨q|q|rfl,_⟩
   ·exact .inl q
   ·exact .inr q
   ·exact gO
  ·intro q;refine⟨q.elim .inl λq=> .inr (.inl q), ?_⟩
   obtain⟨x,hx,rfl⟩:=(sm k).1 q;have:=(h_.Eu (h.en x hx)).1;intro e;rw[e]at this;exact cw this.1 (by decide)
 obtain⟨q1,q2⟩:=of_same sm2 h.so t1;refine⟨h.now,h.en,h.so,q1,t1,q2,h.fl,h.fe,h.ap,by dsimp only;omega,λc hc=> ?_,j2, ?_⟩
 ·rcases j3 c hc with rfl|hc
  ·unfold GA;simp only[aF,ba];exact⟨Hz,hk,by omega,⟨by omega,by omega⟩,by omega,⟨by omega,Lq⟩,by omega⟩
  ·exact h.cl c hc
 ·have:=h.hits;dsimp only;by_cases hh:p.hits<1000000000
  ·rw[aG hh,ay];omega
  ·rw[aK hh,aC];exact this
theorem Ef{l:ax aq}{k x:aq}:x∈without l k↔x∈l/\x≠k:=by unfold without;simp
theorem D1{p:Px}{id:az}{key:aq}{h:aW}{fe:ax Fe}{i:aE}(ho:gh p)(Hz:1<=id/\id<=9)(hk:eh key=ai)(hl:p.cl.length<6)(hn:p.fe.length<=fe.length)(ZC:fe.length<=20)(hf:∀f∈fe,m8 p.now f=ai)(hap:fe.Pairwise λf g=>ll g f=ak)(hi:i<fe.length)(hp:h=ak->True):gh (put p id key h fe i):=by
 obtain⟨⟨k1,nd⟩,l1,l2,hs⟩:=gq.1 ho.pol;have Ln:=D9 key hs;have sm:=yU ho;obtain⟨j1,j2,j3⟩:=WR (c:=⟨id,key,(i:az)+1,0,1,(el fe i).t,0⟩) ho.cs;have hfi:=hf _ (qe hi);have nT:∀c∈jn p.cl ⟨id,key,(i:az)+1,0,1,(el fe i).t,0⟩,GA p.now fe.length c=true:=λc hc=>by
  rcases j3 c hc with rfl|hc
  ·unfold m8 at hfi;unfold GA;simp only[aF,ba]at hfi⊢;have:=ho.now;exact⟨Hz,hk,by omega,⟨by omega,by omega⟩,hfi.2.1,⟨by omega,by omega⟩,by omega⟩
  ·have:=ho.cl c hc;unfold GA at this⊢;simp only[aF,ba]at this⊢;exact⟨this.1,this.2.1,this.2.2.1,⟨this.2.2.2.1.1,by omega⟩,this.2.2.2.2⟩
 unfold put;cases h with
 |false=>have Td:oT p.w p.m (fG.val p.s p.a key).1 (fG.val p.s p.a key).2=true:=gq.2 ⟨⟨k1,nd⟩,l1,l2,Ln⟩;exact⟨ho.now,ho.en,ho.so,ho.ek,Td,ho.len,ZC,hf,hap,by dsimp only;omega,nT,j2,ho.hits⟩
 |true=>
  have Td:oT (without p.w key) (without p.m key) (fG.val p.s p.a key).1 (fG.val p.s p.a key).2=true:=by
   refine gq.2 ⟨⟨λk hx=> ?_, ?_⟩,cZ eQ.iC l1,cZ eQ.iC l2,Ln⟩
   ·rcases aZ.1 hx with q|q
    ·exact k1 k (aZ.2 (.inl (Ef.1 q).1))
    ·exact k1 k (aZ.2 (.inr (Ef.1 q).1))
   ·have:without p.w key++without p.m key=(p.w++p.m).filter λx=> !decide (x=key):=by unfold without;rw[jl]
    rw[this];exact nd.sublist iS
  have sm2:KQ (fK p.en key) (without p.w key) (without p.m key):=λk=>by
   rw[Ef,Ef];constructor
   ·intro q;have iq:k≠key:=q.elim (·.2) (·.2);obtain⟨x,hx,rfl⟩:=(sm k).1 (q.elim (λq=> .inl q.1) (λq=> .inr q.1));exact⟨x,lG.2 ⟨hx,iq⟩,rfl⟩
   ·rintro ⟨x,hx,rfl⟩;obtain⟨hx,iq⟩:=lG.1 hx;exact((sm x.k).2 ⟨x,hx,rfl⟩).elim (λq=> .inl ⟨q,iq⟩) (λq=> .inr ⟨q,iq⟩)
  have so:=ho.so.drop key;obtain⟨q1,q2⟩:=of_same sm2 so Td;exact⟨ho.now,λe he=>ho.en e (lG.1 he).1,so,q1,Td,q2,ZC,hf,hap,by dsimp only;omega,nT,j2,ho.hits⟩
theorem JR{p:Px}{id:az}{key:aq}{h:aW}(ho:gh p)(Hz:1<=id/\id<=9)(hk:eh key=ai)(hl:p.cl.length<6):gh (Ag p id key h).1:=by
 unfold Ag;cases hop:RD p.fe key with
 |some i=>have hi:i<p.fe.length:=(vG.1 hop).1;exact D1 ho Hz hk hl (cm _) ho.fl ho.fe ho.ap hi (λ_=>trivial)
 |none=>
  dsimp only;by_cases ZC:p.fe.length<20
  ·rw[aG ZC,ay];have yv:∀f∈p.fe,HZ key f=false:=λf hf=>by have:=BT.1 hop f hf;simpa using this
   have alo:=ho.now;refine D1 ho Hz hk hl (by simp) (by simp;omega) (λf hf=> ?_) ?_ (by simp) (λ_=>trivial)
   ·rcases aZ.1 hf with q|q
    ·exact ho.fe f q
    ·rw[aY]at q;subst q;unfold m8 BB;simp only[aF,ba];exact⟨hk,by show((0:aE):az)<=400;omega,by omega,by omega,by omega,by omega⟩
   ·rw[sP];refine⟨ho.ap,by simp,λa ha b hb=> ?_⟩
    rw[aY]at hb;subst hb;have:=yv a ha;unfold HZ at this;unfold ll BB;dsimp only;revert this;rw[show decide (key=a.k)=decide (a.k=key)from by rw[b9];exact E8];cases decide (a.k=key)<;>cases decide (a.sta=1)<;>simp
  ·rw[aK ZC];exact ho
theorem Zd{p:Px}(id:az)(key:aq)(h:gh p):gh (iX.ask p id key).1:=by
 unfold iX.ask;cases hg:kY p&&(decide (1<=id/\id<=9)&&(eh key&&(!mJ p.cl id&&decide (p.cl.length<6))))with
 |false=>exact h
 |true=>
  simp only[aF,ba]at hg;obtain⟨_,Hz,hk,_,hl⟩:=hg;rw[ay];cases he:N7 p.en key with
  |none=>exact JR h Hz hk hl
  |some e=>
   dsimp only;cases hf:yO e p.now with
   |false=>exact JR h Hz hk hl
   |true=>
    unfold N7 at he;have h1:=oF he;have h2:=List.find?_some he;refine ZS h Hz hk hl h1 (cg h2) ?_;unfold yO at hf;rw[Iw.eq]at hf;unfold Iw.fv at hf;rw[show h_.v e.k e.st e.li e.bo=ai from h.en e h1,ay,show jV.v p.now e.st 1000000000=decide (e.st<=p.now/\p.now<=1000000000)from eW.eH _ _ _]at hf;cases hd:decide (e.st<=p.now/\p.now<=1000000000)with
    |true=>exact(cg hd).1
    |false=>rw[hd]at hf;cases hf
end GI

namespace CL
open Lib (Px Cl Fe En el)
open sL (gh GA qk)
open Ix (VX)
theorem Cr{now n:az}(h:1<=now/\now<=1000000000):now<=wA.later now n/\wA.later now n<=1000000000:=by
 unfold wA.later;have:=q_ n (show(1000:az)≠0 by omega);have:=vD n (show(0:az)<1000 by omega);by_cases hc:now>1000000000-n%1000
 ·rw[aG hc,ay];omega
 ·rw[aK hc,aC,cX (by omega) (by omega)];omega
theorem J7{p:Px}(n:az)(h:gh p):gh (wA.val p n):=VX h (Cr h.now).1 (Cr h.now).2
theorem O0{p:Px}(id:az)(h:gh p):gh (B5.val p id):=
 ⟨h.now,h.en,h.so,h.ek,h.pol,h.len,h.fl,h.fe,h.ap,cZ (dO _ _) h.cll,λc hc=>h.cl c (dh.1 hc).1,h.cs.sublist iS,h.hits⟩
end CL

namespace kO
open Lib (Px Cl Fe En el)
open eQ (has fX)
open iV (eh oT)
open mC (sV)
open nr (m8 ll)
open s8 (kY)
open sL (gh GA qk)
open jA (yS told Jg J8 j4)
open y_ (cls oO)
open m9 (Ii)
open j_ (Cb Hs tx kp qS)
open o6 (dk es)
open mz (Wo Ev closed Hk pj rG flag)
open Ix (yX Js NR PU Ij)
def on(l:ax Fe):aE:=l.countP λf=>decide (f.sta=1)
theorem vb5{x:az}(h:x<=1000000000):(bytesOf (Lib.vb x)).size<=5:=by
 rw[Lib.gX]
 exact Lib.yZ 4 x (by have:(128:az)^5=34359738368:=by decide
                      omega)
theorem Oh{e:En}(h:Cb e=ai):(Hs e).size<=460:=by
 have hr:=h_.Eu h;have z1:=vb5 (x:=(e.k.size:az)) (by omega);have z2:=vb5 (x:=e.st) (by omega);have z3:=vb5 (x:=e.li) (by omega);have ht:(qS e).size<=445:=by unfold qS jo.qS;simp only[Lib.kH];omega
 have z4:=vb5 (x:=((qS e).size:az)) (by omega);unfold Hs fg.fr;rw[Lib.kH,Lib.kH,oa.size];omega
theorem Yh(l:ax En)(h:∀e∈l,Cb e=ai):(tx l).size<=460*l.length:=by
 induction l with
 |nil=>exact cm _
 |cons e l ih=>have h1:=Oh (h e (by simp));have h2:=ih λx hx=>h x (by simp[hx]);have:(tx (e::l)).size=(Hs e).size+(tx l).size:=dn;rw[this,cS];omega
structure A0 (i:aE) (w:Wo):Prop where
 px:gh w.p
 eo:∀e∈es w.o,Cb e=ai
 ct:2*(es w.o).length+on w.p.fe<=i
 cd:w.cd.length=i
 bd:w.bd.length<=i
 bo:∀e∈w.bd,Cb e=ai
theorem A0.len{i:aE}{w:Wo}(h:A0 i w)(hi:i<=71):(es w.o).length<=35:=by have:=h.ct;omega
theorem A0.tx{i:aE}{w:Wo}(h:A0 i w)(hi:i<=71):(tx (es w.o)).size<=16100:=by have:=Yh _ h.eo;have:=h.len hi;omega
theorem HV{l:ax Fe}{n:aE}{g:Fe}(hn:n<l.length):on (l.set n g)+(if(el l n).sta=1 then 1 else 0)=on l+(if g.sta=1 then 1 else 0):=by
 unfold on;rw[List.countP_set hn,fc hn];have hle:l[n].sta=1->1<=l.countP λf=>decide (f.sta=1):=λh=>List.countP_pos_iff.2 ⟨_,bD hn,aG h⟩;generalize l.countP (λf=>decide (f.sta=1))=m at hle;by_cases h1:l[n].sta=1
 ·have:=hle h1;by_cases h2:g.sta=1
  ·rw[bu h1,bu h2,bu (aG h1),bu (aG h2)];omega
  ·rw[bu h1,bJ h2,bu (aG h1),bJ (by rw[aK h2];simp)];omega
 ·by_cases h2:g.sta=1
  ·rw[bJ h1,bu h2,bJ (by rw[aK h1];simp),bu (aG h2)];omega
  ·rw[bJ h1,bJ h2,bJ (by rw[aK h1];simp),bJ (by rw[aK h2];simp)];omega
theorem Qc{now:az}(hn:1<=now/\now<=1000000000)(l:ax En):gh (g_.AB now l):=by
 have key:∀(l:ax En) (p:Px),gh p->gh (l.foldl (g_.one now) p):=by
  intro l;induction l with
  |nil=>intro p h;exact h
  |cons e l ih=>
   intro p h;rw[Bb];refine ih _ ?_;unfold g_.one;cases hf:g_.yO e now with
   |true=>exact Ij h (g_.DD hf)
   |false=>exact h
 refine key l _ ⟨hn,λe h=>(by cases h),gf,λe h=>(by cases h), ?_,rfl,bm _,λf h=>(by cases h),gf,bm _,λc h=>(by cases h),gf,by show(0:az)<=0/\(0:az)<=1000000000;omega⟩;refine qw.gq.2 ⟨⟨λk h=>(by cases h),List.nodup_nil⟩,bm _,bm _,qw.qo.2 ⟨rfl,by show(0:az)<=0/\(0:az)<=63;omega,λq hq=> ?_⟩⟩;have:q=g_.Gt:=by change q∈[g_.Gt,g_.Gt,g_.Gt]at hq;simp at hq;exact hq
 subst this;refine⟨rfl,λn hn=> ?_⟩
 unfold g_.Gt at hn;simp at hn;omega
theorem N2{p:Px}{f life:az}(h:gh p)(hl:0<=life/\life<=999999):
  gh (cls p f life).1/\(((cls p f life).2=ak/\(cls p f life).1=p)\/((cls p f life).2=ai/\∃n:aE,f=(n:az)/\n<p.fe.length/\(cls p f life).1.fe=p.fe.set n {el p.fe n with sta:=2,li:=life,st:=p.now}/\(el p.fe n).sta=1/\
   (life>0->Cb (oO {el p.fe n with sta:=2,li:=life,st:=p.now})=ai/\(has (cls p f life).1.w (el p.fe n).k||has (cls p f life).1.m (el p.fe n).k)=ai))):=by
 unfold cls;cases ho:yS p f&&decide (0<=life/\life<=999999)with
 |false=>exact⟨h, .inl ⟨rfl,rfl⟩⟩
 |true=>
  rw[aF]at ho;obtain⟨n,rfl,hn,_,h1⟩:=j4 ho.1;obtain⟨g1,g2,g3,g4,g5⟩:=Js h hn;have alo:=h.now;rw[ay,dJ];have ht:gh (told p n {el p.fe n with sta:=2,li:=life,st:=p.now} 2):=by refine yX h hn rfl ?_ (λe=>cw e (by dsimp only;omega)) (by omega);unfold m8;simp only[aF,ba];exact⟨g1,g2,by omega,hl,by omega,by omega⟩
  have he:life>0->Cb (oO {el p.fe n with sta:=2,li:=life,st:=p.now})=true:=λRB=>by unfold Cb oO h_.v;dsimp only;rw[iV.iB,g1,ay,show jV.v p.now 0 1000000000=decide (0<=p.now/\p.now<=1000000000)from eW.eH _ _ _,aG (show 0<=p.now/\p.now<=1000000000 by omega),ay,show jV.v life 1 999999=decide (1<=life/\life<=999999)from eW.eH _ _ _,aG (show 1<=life/\life<=999999 by omega),ay];exact aG g2
  by_cases RB:life>0
  ·rw[aG RB,ay];have gO:=GI.QO (key:=(el p.fe n).k) ht.pol g1;exact⟨Ij ht (he RB), .inr ⟨rfl,n,rfl,hn,rfl,h1,λ_=>⟨he RB,gO⟩⟩⟩
  ·rw[aK RB,aC];exact⟨ht, .inr ⟨rfl,n,rfl,hn,rfl,h1,λh=>cw h RB⟩⟩
theorem Ze(p:Px)(id:az)(key:aq):on (iX.ask p id key).1.fe<=on p.fe+1:=by
 have hm:∀h,on (iX.Ag p id key h).1.fe<=on p.fe+1:=λh=>by
  unfold iX.Ag;cases iX.RD p.fe key with
  |some i=>exact iI _
  |none=>
   dsimp only;cases decide (p.fe.length<20)with
   |true=>show on (p.fe++[iX.BB key])<=_;unfold on;rw[List.countP_append];exact cm _
   |false=>exact iI _
 unfold iX.ask;cases kY p&&(decide (1<=id/\id<=9)&&(eh key&&(!iX.mJ p.cl id&&decide (p.cl.length<6))))with
 |false=>exact iI _
 |true=>
  rw[ay];cases iX.N7 p.en key with
  |none=>exact hm _
  |some e=>
   dsimp only;cases iX.yO e p.now with
   |false=>exact hm _
   |true=>exact iI _
theorem Fl(w:Wo):(pj w).length<=(es w.o).length:=cZ (dO ..) (j_.OZ _)
theorem JB{w:Wo}(h:∀e∈es w.o,Cb e=ai):∀e∈pj w,Cb e=true:=λe he=>h e (j_.aak (dh.1 he).1)
theorem yV{i:aE}{w:Wo}{e:Ev}(h:A0 i w)(he:rG e=ai):A0 (i+1) (mz.step w e):=by
 unfold rG at he;simp only[aF,ba]at he;obtain⟨hk,Hz,ht,hn,hl⟩:=he;have hct:=h.ct;have hbd:=h.bd;have cdl:∀n:az,(w.cd++[n]).length=i+1:=λn=>by rw[bX,h.cd];rfl
 have px':∀(p:Px) (n:az),gh p->on p.fe<=on w.p.fe+1->A0 (i+1) {{w with p:=p}with cd:=w.cd++[n]}:=λp n hp ho=>⟨hp,h.eo,by dsimp only;omega,cdl n,lY h.bd,h.bo⟩
 unfold mz.step mz.act;by_cases k1:e.k=1
 ·rw[aG k1,ay];exact px' _ _ (GI.Zd _ _ h.px) (Ze ..)
 rw[aK k1,aC];by_cases k2:e.k=2
 ·rw[aG k2,ay];refine px' _ _ (PU _ _ h.px) ?_;unfold J8;cases ho:yS w.p e.id&&(decide (1<=e.t.size/\e.t.size<=40)&&decide ((el w.p.fe e.id.toNat).t.size+e.t.size<=400))with
  |false=>exact iI _
  |true=>
   rw[aF]at ho;obtain⟨n,en,hn,_,h1⟩:=j4 ho.1;rw[en,dJ];have q:∀g:Fe,g.sta=(el w.p.fe n).sta->on (w.p.fe.set n g)<=on w.p.fe+1:=λg hg=>by have:=HV (g:=g) hn;rw[hg]at this;omega
   exact q _ rfl
 rw[aK k2,aC];by_cases k3:e.k=3
 ·rw[aG k3,ay];have hlr:0<=e.n%1000000/\e.n%1000000<=999999:=by omega
  obtain⟨q1,q2⟩:=N2 (f:=e.id) h.px hlr;unfold closed;dsimp only;rcases q2 with ⟨r1,r2⟩|⟨r1,n,rn,hn,rf,rs,rl⟩
  ·rw[r1,CN,aC];exact px' _ _ q1 (by rw[r2];exact iI _)
  ·have:=HV (g:={el w.p.fe n with sta:=2,li:=e.n%1000000,st:=w.p.now}) hn;rw[bu rs,bJ (show¬(2:az)=1 by omega)]at this;have ho:on (cls w.p e.id (e.n%1000000)).1.fe+1=on w.p.fe:=by rw[rf];exact this
   rw[r1,bG];by_cases RB:e.n%1000000>0
   ·rw[aG RB,ay];obtain⟨s1,s2⟩:=rl RB;have hx:Cb (oO (el (cls w.p e.id (e.n%1000000)).1.fe e.id.toNat))=true:=by rw[rn,dJ,<-rn,rf,jA.rF hn];exact s1
    refine⟨q1,λy hy=> ?_, ?_,cdl _, ?_,λy hy=> ?_⟩
    ·rcases aZ.1 hy with hy|hy
     ·exact h.eo y hy
     ·rw[aY]at hy;rw[hy];exact hx
    ·show 2*(es w.o++[_]).length+on (cls w.p e.id (e.n%1000000)).1.fe<=i+1;rw[bX,bQ];omega
    ·show(w.bd++[_]).length<=i+1;rw[bX,bQ];omega
    ·rcases aZ.1 hy with hy|hy
     ·exact h.bo y hy
     ·rw[aY]at hy;rw[hy];exact hx
   ·rw[aK RB,aC];exact px' _ _ q1 (by omega)
 rw[aK k3,aC];by_cases k4:e.k=4
 ·rw[aG k4,ay];refine px' _ _ (NR _ h.px) ?_;unfold Jg;cases ho:yS w.p e.id with
  |false=>exact iI _
  |true=>
   obtain⟨n,en,hn,_,h1⟩:=j4 ho;rw[en,dJ];have q:∀g:Fe,g.sta=3->on (w.p.fe.set n g)<=on w.p.fe+1:=λg hg=>by have:=HV (g:=g) hn;rw[bu h1,bJ (show¬g.sta=1 by omega)]at this;omega
   exact q _ rfl
 rw[aK k4,aC];by_cases k5:e.k=5
 ·rw[aG k5,ay];exact px' _ _ (CL.J7 _ h.px) (iI _)
 rw[aK k5,aC];by_cases k6:e.k=6
 ·rw[aG k6,ay];exact px' _ _ (CL.O0 _ h.px) (iI _)
 rw[aK k6,aC];have Mt:=Fl w;have hinv:=g_.DN w.p.now (pj w) (pj w).length (cm _);rw[gE]at hinv;refine⟨Qc h.px.now _,JB h.eo, ?_,cdl _,lY h.bd,h.bo⟩
 show 2*(pj w).length+on (g_.AB w.p.now (pj w)).fe<=i+1;rw[hinv.fe];show 2*(pj w).length+0<=i+1;omega
end kO

namespace RO
open Lib (rr rs re rf rc rd Px En el)
open mz (Wo Ev rG)
open o6 (dk es)
open kO (A0)
open i9 (ri Dl)
instance:Inhabited Ev:=⟨⟨0,0,⟨#[]⟩,0,[]⟩⟩
def Evr(e:Ev):ax CV:=[CV.i ao e.k,CV.i ao e.id,CV.s e.t,CV.i ao e.n,CV.l 3 e.l]
def rv(l:ax Ev):aU:=l.map Evr
def w0:Wo:=⟨g_.p0 1,aj,[],[]⟩
def run(l:ax Ev):Wo:=l.foldl mz.step w0
theorem agz:A0 0 w0:=by refine⟨kO.Qc (now:=1) (by omega) [],λe h=>(by cases h),cm _,rfl,cm _,λe h=>(by cases h)⟩
def W13(w:Wo)(b:aW):az×aU×aU×aU×aU×az×aU×aU×az×aU×aU×aU×aW:=(w.p.now,re w.p.en,rs w.p.w,rs w.p.m,rr w.p.s,w.p.a,rf w.p.fe,rc w.p.cl,w.p.hits,rd (dk w.o),ri w.cd,re w.bd,b)
def akI(l:ax Ev):aW:=decide (l.length<=70)&&(cz l.length).all λi=>rG (el l i)
def life(l:ax Ev):az×aU×aU×aU×aU×az×aU×aU×az×aU×aU×aU×aW:=bif akI l then W13 (run l) ai else(0,[],[],[],[],0,[],[],0,[],[],[],ak)
end RO

namespace tD
open bK (I)
open A_Post (fI)
open mz (Ev rG)
def Dr(q e w m s fe cl dk cd bd:aU)(x:az×az×aq×az×aU×aU×az×az×aU×aU×aU×aU×aU×aU×aU×aU×aU):Prop:=
 ∃k id t n a' s',x=(k,id,t,n,[],q,a',s',e,w,m,s,fe,cl,dk,cd,bd)/\I q a'/\rG ⟨k,id,t,n,[]⟩=ai/\k<=6
theorem leaf{q e w m s fe cl dk cd bd:aU}{k id:az}{t:aq}{n a' s':az}(hI:I q a')(hk:1<=k/\k<=6)(Hz:0<=id/\id<=30)(ht:t.size<=60)(hn:0<=n):fI (ah (k,id,t,n,([]:aU),q,a',s',e,w,m,s,fe,cl,dk,cd,bd)) (Dr q e w m s fe cl dk cd bd):=by
 refine⟨_,rfl,k,id,t,n,a',s',rfl,hI, ?_,hk.2⟩
 unfold rG;rw[aG (show 1<=k/\k<=7 by omega),aG Hz,aG ht,aG hn];rfl
theorem idA{n:az}(h0:0<=n)(h1:(0:az)<3->n<3):0<=n/\n<=30:=by omega
theorem idB{n:az}(h0:0<=n)(h1:(0:az)<9->n<9):0<=bE (1+n)/\bE (1+n)<=30:=by rw[cX (x:=1+n) (by omega) (by omega)];omega
theorem idC{l:aU}{n:az}(hl:∀j,j<l.length->0<=bU (ar l j 0)/\bU (ar l j 0)<=30)(h0:0<=n)(h1:0<(l.length:az)->n<(l.length:az))(hp:decide ((l.length:az)>0)=ai):0<=bU (ar l n.toNat 0)/\bU (ar l n.toNat 0)<=30:=by have:=h1 (cg hp);exact hl _ (by omega)
theorem tA{t:aq}(h:t.size=2):t.size<=60:=by omega
theorem opens{P:R->Prop}(N:aE)(K:az->az->az->az->aU->az->az->aU->aU->aU->aU->aU->aU->aU->aU->aU->az->az->az->az->az->aq->az->az->az->aq->az->aU->aA R)(x1 x2 x3:az)(x5:aU)(x6 x7:az)(x8 x9 x10 x11 Ir x13 x14 x15 x16:aU)(x17 x18 x19 x20 x21:az)(x22:aq)(x23 x24 x25:az)(x26:aq)(x27:az)(hf:Ir.length<=20)
  (hK:∀l:aU,(∀j,j<l.length->0<=bU (ar l j 0)/\bU (ar l j 0)<=30)->fI (K x1 x2 x3 (Ir.length:az) x5 x6 x7 x8 x9 x10 x11 Ir x13 x14 x15 x16 x17 x18 x19 x20 x21 x22 x23 x24 x25 x26 x27 l) P):
  ∀(d i n:aE) (l:aU),Ir.length-i<=d->i<=Ir.length->d<n->l.length<=i->(∀j,j<l.length->0<=bU (ar l j 0)/\bU (ar l j 0)<=30)->
   fI (l4 N K n x1 x2 x3 (i:az) x5 x6 x7 x8 x9 x10 x11 Ir x13 x14 x15 x16 x17 x18 x19 x20 x21 x22 x23 x24 x25 x26 x27 l) P:=by
 have fin:∀(n:aE) (l:aU),(∀j,j<l.length->0<=bU (ar l j 0)/\bU (ar l j 0)<=30)->fI (l4 N K (n+1) x1 x2 x3 (Ir.length:az) x5 x6 x7 x8 x9 x10 x11 Ir x13 x14 x15 x16 x17 x18 x19 x20 x21 x22 x23 x24 x25 x26 x27 l) P:=λn l hl=>by refine A_Post.eq ?_ (hK l hl);simp only[l4,r4,Lib.dE,bk,bg,aC]
 intro d;induction d with
 |zero=>
  intro i n l h1 h2 h3 h4 h5;obtain⟨n,rfl⟩:∃k,n=k+1:=⟨n-1,by omega⟩
  have:i=Ir.length:=by omega
  subst this;exact fin n l h5
 |succ d ih=>
  intro i n l h1 h2 h3 h4 h5;obtain⟨n,rfl⟩:∃k,n=k+1:=⟨n-1,by omega⟩
  by_cases h:i<Ir.length
  ·have jr:bE ((i:az)+1)=((i+1:aE):az):=cX (by omega) (by omega);by_cases hs:bU (ar Ir i 2)=1
   ·have hr:cy (l.length+(aw (aN [Ck.i ao] 1) 0 [CV.i ao (i:az)]).length) 8=true:=by rw[i9.sF];exact Lib.cF (by omega) (by omega)
    refine A_Post.eq (o':=l4 N K n x1 x2 x3 ((i+1:aE):az) x5 x6 x7 x8 x9 x10 x11 Ir x13 x14 x15 x16 x17 x18 x19 x20 x21 x22 x23 x24 x25 x26 x27 (l++aw (aN [Ck.i ao] 1) 0 [CV.i ao (i:az)])) ?_ (ih (i+1) n _ (by omega) h (by omega) (by rw[bX,i9.sF];omega) λj hj=> ?_)
    ·simp only[l4,r4,Lib.dE,h,aR,Lib.cT,aM,ay,Lib.eD,hs,hr,jr]
    ·rw[bX,i9.sF]at hj;by_cases jt:j<l.length
     ·have:ar (l++aw (aN [Ck.i ao] 1) 0 [CV.i ao (i:az)]) j 0=ar l j 0:=by unfold ar;rw[cD,cD,dB jt];simp only[cD]
      rw[this];exact h5 j jt
     ·have:ar (l++aw (aN [Ck.i ao] 1) 0 [CV.i ao (i:az)]) j 0=CV.i ao (i:az):=by unfold ar;rw[cD,cD,cW (by omega),show j-l.length=0 by omega];rfl
      rw[this];show 0<=(i:az)/\(i:az)<=30;omega
   ·refine A_Post.eq (o':=l4 N K n x1 x2 x3 ((i+1:aE):az) x5 x6 x7 x8 x9 x10 x11 Ir x13 x14 x15 x16 x17 x18 x19 x20 x21 x22 x23 x24 x25 x26 x27 l) ?_ (ih (i+1) n _ (by omega) h (by omega) (by omega) h5);simp only[l4,r4,Lib.dE,h,aR,Lib.cT,aM,ay,aC,Lib.eD,hs,bg,jr]
  ·have:i=Ir.length:=by omega
   subst this;exact fin n l h5
set_option maxHeartbeats 8000000 in
theorem body(q:aU)(a s:az)(now:az)(en w m sk:aU)(ag:az)(fe cl:aU)(hits:az)(dk cd bd:aU)(hI:I q a)(hf:fe.length<=20)(hc:∀j,j<cl.length->0<=bU (ar cl j 0)/\bU (ar cl j 0)<=30):fI (vo q a s now en w m sk ag fe cl hits dk cd bd) (Dr q en w m sk fe cl dk cd bd):=by
 unfold vo;generalize hN:Lib.cR=N;have V3:20<N:=by rw[<-hN];exact cJ (by omega)
 unfold b;refine A_Post.PQ (λn=>1<=n/\n<=6) ⟨by decide,by decide⟩ hI (λkd a1 s1 I1 hk=> ?_);refine opens N _ _ _ _ _ _ _ _ _ _ _ _ _ _ _ _ _ _ _ _ _ _ _ _ _ _ _ hf (λl hl=> ?_) fe.length 0 N _ (by omega) (by omega) (by omega) (bm _) (λj hj=>cw hj (Nat.not_lt_zero j));dsimp only
 repeat' first
  |refine A_Post.below (by assumption) (λn a s hI h0 h1=> ?_)
  |refine A_Post.once (by assumption) (λn a s hI=> ?_)
  |refine A_Post.key (by assumption) (λn a s hI h0=> ?_)
  |refine A_Post.PQ (λn=>0<=n) ⟨by decide,by decide⟩ (by assumption) (λn a s hI h0=> ?_)
  |refine A_Post.afs (λt=>t.size<=60) ⟨by decide,by decide⟩ (by assumption) (λn a s hI h0=> ?_)
  |refine A_Post.ck (A_Post.idx (by assumption) (by assumption) (by assumption)) ?_
  |refine leaf (by assumption) (by first|exact hk|decide) (by first|exact idA (by assumption) (by assumption)|exact idB (by assumption) (by assumption)|exact idC hl (by assumption) (by assumption) (by assumption)|exact idC hc (by assumption) (by assumption) (by assumption)|decide) (by first|exact bm _|assumption|exact tA (by assumption)) (by first|exact Vt 0|assumption)
  |refine A_Post.br (λh=> ?_) (λh=> ?_)
end tD

namespace sS
theorem ok(l:aU)(hl:l.length<=4294967296):c l=ai/\v l=l:=by refine out l ?_;unfold vo b;rw[show bT (aN [Ck.s] 0)+l.length=l.length by simp[aN],Lib.cF (by omega) (by omega)];rfl
end sS

namespace iQ
open Lib (rr rs)
theorem ok(w m:ax aq)(s:ax (ax az))(a:az)(hw:w.length<=1048576)(hm:m.length<=1048576)(hf:iK.oc s):c (rs w) (rs m) (rr s) a=ai/\v (rs w) (rs m) (rr s) a=(rs w,rs m,rr s,a):=by have h1:=sS.ok (rs w) (by rw[er];omega);have h2:=sS.ok (rs m) (by rw[er];omega);have h3:=iK.ok s a hf;exact out _ _ _ _ (by unfold vo b;rw[h1.1,h1.2,h2.1,h2.2,h3.1,h3.2,ay,ay,ay])
end iQ

namespace p9
open Lib (rr rs re rf rc Px)
theorem ok(p:Px)(hp:p.Fit 1048576):c p.now (re p.en) (rs p.w) (rs p.m) (rr p.s) p.a (rf p.fe) (rc p.cl) p.hits=ai/\v p.now (re p.en) (rs p.w) (rs p.m) (rr p.s) p.a (rf p.fe) (rc p.cl) p.hits=(p.now,re p.en,rs p.w,rs p.m,rr p.s,p.a,rf p.fe,rc p.cl,p.hits):=by have he:=hp.en;have hf:=hp.fe;have hc:=hp.cl;have h1:=uv.ok (re p.en) (by rw[ej];omega);have h2:=iQ.ok p.w p.m p.s p.a hp.w hp.m ⟨hp.s.1,hp.s.2.1⟩;exact out _ _ _ _ _ _ _ _ _ (by unfold vo b;rw[h1.1,h1.2,h2.1,h2.2,ay,ay,Lib.cF (by simp[aN,eu];omega) (by simp[aN,eu];omega),Lib.cF (by simp[aN,eI];omega) (by simp[aN,eI];omega)];rfl)
end p9

namespace oI
open Lib (rr)
theorem eH(n a b:az):pb.v n a b=decide (a<=n/\n<=b):=eW.eH n a b
theorem ok(s:ax (ax az))(a:az)(hf:iK.oc s):c (rr s) a=ai/\v (rr s) a=eW.jK s a:=by
 refine out _ _ ?_;unfold vo b;have hl:=hf.1;rw[gk]
 have inner:∀i (h:i<s.length) (K0 K1:aW->aU->aU->az->az->aU->az->az->aU->az->aA aW) (kf kt:aA aW) (x:az)
   (h0:∀j:az,K0 ak (Lib.ri s[i]) (rr s) s.length i (Lib.ri s[i]) x j (rr s) a=kf) (h1:∀j:az,K1 ak (Lib.ri s[i]) (rr s) s.length i (Lib.ri s[i]) x j (rr s) a=kt),x=(s[i].length:az)->l5 Lib.cR K0 K1 Lib.cR ak (Lib.ri s[i]) (rr s) s.length (i:az) (Lib.ri s[i]) x 0 (rr s) a=bif(s[i]).all eW.JS then kt else kf:=λi h K0 K1 kf kt x h0 h1 hx=>by
  subst hx
  exact nM (s[i]) eW.JS (λm (j:aE)=>l5 Lib.cR K0 K1 m ak (Lib.ri s[i]) (rr s) s.length (i:az) (Lib.ri s[i]) s[i].length (j:az) (rr s) a) kf kt
   (λm j hj hp=>by have hl:=hf.2 _ (bD h);unfold eW.JS at hp;simp only[l5,r5,Lib.dE,hj,aR,Lib.cT,aM,ay,Lib.eD,Lib.fV,Qa hj,bU,eH,hp,a9,aC,Lib.dm hj (by omega:s[i].length<=9223372036854775807)])
   (λm j hj hp=>by unfold eW.JS at hp;simp only[l5,r5,Lib.dE,hj,aR,Lib.cT,aM,ay,Lib.eD,Lib.fV,Qa hj,bU,eH,hp,bS,h0])
   (λm=>by simp only[l5,r5,Lib.dE,bk,bg,aC,h1]) Lib.cR (cJ (by have:=hf.2 _ (bD h);omega))
 have ro:∀q:ax az,eW.qE q=(q.all eW.JS&&decide (q.length=16)):=λq=>Bool.and_comm ..
 have key:=nM s eW.qE (λm (i:aE)=>l2 Lib.cR (λ(Vd:aW) (_:aU) (_ _:az) (_:aU) (_:az)=>ah Vd) (λ(_:aW) (_:aU) (_ _:az) (y46:aU) (y47:az)=>bif(decide ((↑(bT y46):az)=3))then(ah (pb.v y47 0 63))else(ah ak)) m ak (rr s) s.length (i:az) (rr s) a) (ah ak) (ah (decide (s.length=3)&&decide (0<=a/\a<=63)))
  (λm i h hp=>by rw[ro,aF]at hp;have JE:=cg hp.2;simp only[l2,r2,gk,Lib.dE,h,aR,Lib.cT,aM,ay,Lib.eD,Ew h,g9,Lib.fV];rw[inner i h _ _ (ah ak) _ _ (λ_=>rfl) (λ_=>rfl) rfl,hp.1,ay,Lib.fV,JE,show(((16:aE):az) !=16)=ak from rfl,aC,Lib.dm h (by omega)])
  (λm i h hp=>by
   rw[ro]at hp;simp only[l2,r2,gk,Lib.dE,h,aR,Lib.cT,aM,ay,Lib.eD,Ew h,g9,Lib.fV];rw[inner i h _ _ (ah ak) _ _ (λ_=>rfl) (λ_=>rfl) rfl];cases ha:(s[i]).all eW.JS with
   |false=>rfl
   |true=>rw[ha,bG]at hp;have:=sZ hp;rw[ay,Lib.fV,show((s[i].length:az) !=16)=ai by simp;omega,ay])
  (λm=>by simp only[l2,r2,gk,Lib.dE,bk,bg,aC,eH];rw[show decide ((s.length:az)=3)=decide (s.length=3)by rw[b9];omega];cases decide (s.length=3)<;>rfl) Lib.cR (cJ (by omega))
 refine key.trans ?_;unfold eW.jK;cases s.all eW.qE<;>cases decide (s.length=3)<;>cases decide (0<=a/\a<=63)<;>rfl
end oI

namespace Bk
theorem ok(n:az)(h0:0<=n)(h1:n<=4294967296):c n=ai/\v n=[]:=by
 refine out n ?_;unfold vo b;have e:bE (n-bE (0-0))=n:=by rw[show bE (0-0)=0 from rfl,Int.sub_zero,cX (by omega) (by omega)]
 rw[e,aK (show¬n<0 by omega),aC];by_cases hn:n>0
 ·rw[aG hn,ay,aG h0,aG (show n<=9223372036854775807 by omega),Lib.cF (by simp;omega) (by simp;omega)];simp[dW]
 ·rw[aK hn,aC]
end Bk

namespace uz
theorem ok(p q:aU)(hp:p.length<=1048576)(hq:q.length<=1048576):c [[CV.l 9 p],[CV.l 9 q]]=ai/\v [[CV.l 9 p],[CV.l 9 q]]=p++q:=by
 refine out _ ?_;have w1:bE (0+(p.length:az))=(p.length:az):=by rw[Int.zero_add];exact cX (by omega) (by omega)
 have w2:bE ((p.length:az)+(q.length:az))=(p.length:az)+(q.length:az):=cX (by omega) (by omega);have hg:=Bk.ok ((p.length:az)+(q.length:az)) (by omega) (by omega);have d1:decide ((p.length:az)<0)=false:=aK (by omega);have d2:decide ((p.length:az)+(q.length:az)<0)=false:=aK (by omega);have g1:cy (0+p.length) 16=true:=Lib.cF (by omega) (by omega);have g2:cy (p.length+q.length) 16=true:=Lib.cF (by omega) (by omega);have c0:g9 (ar [[CV.l 9 p],[CV.l 9 q]] 0 0)=p:=rfl;have c1:g9 (ar [[CV.l 9 p],[CV.l 9 q]] 1 0)=q:=rfl;unfold vo b;obtain⟨n,hn⟩:∃n,Lib.cR=n+3:=⟨18446744073709551613,rfl⟩
 generalize Lib.cR=B at hn⊢;subst hn;have k3:∀(R:Type) (K:aU->az->aU->az->az->aA R) (S:aU),S=[[CV.l 9 p],[CV.l 9 q]]->l3 (n+3) K (n+3) S 0 S 2 0=K S ((p.length:az)+(q.length:az)) S 2 2:=by intro R K S hS;subst hS;simp only[l3,r3,cS,iT,show aX 0=0 from rfl,c0,w1,d1,show bE (0+1)=1 from rfl,show aX 1=1 from rfl,c1,w2,d2,show bE (1+1)=2 from rfl,aC,show decide ((0:az)<2)=ai from rfl,show decide ((1:az)<2)=ai from rfl,show decide ((2:az)<2)=ak from rfl,show decide ((0:az)<=0)=ai from rfl,show decide ((0:az)<=1)=ai from rfl,show((0+1+1:aE):az)=2 from rfl,aM,ay]
 have k11:∀(R:Type) (K:aU->az->az->aU->aA R) (S:aU),S=[[CV.l 9 p],[CV.l 9 q]]->l11 (n+3) K (n+3) S 2 0 []=K S 2 2 (p++q):=by intro R K S hS;subst hS;simp only[l11,F7,cS,iT,show aX 0=0 from rfl,c0,g1,show bE (0+1)=1 from rfl,show aX 1=1 from rfl,c1,fF,g2,show bE (1+1)=2 from rfl,aC,show decide ((0:az)<2)=ai from rfl,show decide ((1:az)<2)=ai from rfl,show decide ((2:az)<2)=ak from rfl,show decide ((0:az)<=0)=ai from rfl,show decide ((0:az)<=1)=ai from rfl,show((0+1+1:aE):az)=2 from rfl,aM,ay]
 show l3 (n+3) _ (n+3) _ 0 _ 2 0=_;rw[k3 _ _ _ rfl,hg.1,hg.2,ay];exact k11 _ _ _ rfl
end uz

namespace o_
theorem ok(w m:ax aq)(s:aU)(a:az)(hw:w.length<=1048576)(hm:m.length<=1048576):c (Lib.rs w) (Lib.rs m) s a=ai/\v (Lib.rs w) (Lib.rs m) s a=Lib.rs (w++m):=by
 have h:=uz.ok (Lib.rs w) (Lib.rs m) (by rw[er];exact hw) (by rw[er];exact hm);have e:aw (aw (aN [Ck.l 9] 2) 0 [CV.l 9 (Lib.rs w)]) 1 [CV.l 9 (Lib.rs m)]=[[CV.l 9 (Lib.rs w)],[CV.l 9 (Lib.rs m)]]:=rfl;have e2:Lib.rs w++Lib.rs m=Lib.rs (w++m):=by unfold Lib.rs;rw[c8]
 exact out _ _ _ _ (by unfold vo b;rw[e,h.1,h.2,ay,e2])
end o_

namespace x_
theorem ok(l:ax aq)(k:aq)(hl:l.length<=4294967296):c (Lib.rs l) k=ai/\decide (v (Lib.rs l) k≥0)=eQ.has l k:=by
 have h:=out (Lib.rs l) k (x:=Lib.fi (λi=>decide ((l.getD i ⟨#[]⟩)=k)) l.length 0) (by
  unfold vo b;rw[er];refine oP (λi=>decide ((l.getD i ⟨#[]⟩)=k)) l.length (λm (i:aE)=>l2 Lib.cR (λ(_:aU) (_:aq) (y7 _ _:az)=>ah y7) (λ(_:aU) (_:aq) (_ _ _:az)=>ah (-1)) m (Lib.rs l) k 0 (l.length:az) (i:az)) ah (λm i hi hp=> ?_) (λm i hi hp=> ?_) (λm=> ?_) Lib.cR (cJ (by omega))
  ·have hg:l.getD i ⟨#[]⟩=l[i]:=by simp[jm,hi]
   rw[hg]at hp;have mL:decide (k=l[i])=true:=by rw[<-hp,b9];exact E8
   simp only[l2,r2,er,Lib.dE,hi,aR,Lib.cT,aM,ay,Lib.eD,RE hi,bM,Lib.fB,mL]
  ·have hg:l.getD i ⟨#[]⟩=l[i]:=by simp[jm,hi]
   rw[hg]at hp;have mL:decide (k=l[i])=false:=by rw[<-hp,b9];exact E8
   simp only[l2,r2,er,Lib.dE,hi,aR,Lib.cT,aM,ay,Lib.eD,RE hi,bM,Lib.fB,mL,aC,Lib.dm hi (by omega:l.length<=9223372036854775807)]
  ·simp only[l2,r2,Lib.dE,bk,bg,aC])
 refine⟨h.1, ?_⟩
 rw[h.2];exact Hl l (λx=>decide (x=k)) _ (λi hi=>by simp[jm,hi])
end x_

namespace rq
theorem ok(l:ax aq)(k:aq)(hl:l.length<=4294967296):c (Lib.rs l) k=ai/\v (Lib.rs l) k=eQ.has l k:=by have h:=x_.ok l k hl;exact out _ _ (by unfold vo b;rw[h.1,h.2,ay])
end rq

namespace o8
open Lib (rr rs)
open eQ (has without fX kV)
open iV (eh HH mj oT vp)
theorem iB(k:aq):KS.v k=eh k:=eW.eH _ _ _
theorem ok(w m:ax aq)(s:ax (ax az))(a:az)(hw:w.length<=1048576)(hm:m.length<=1048576)(hf:iK.oc s):c (rs w) (rs m) (rr s) a=ai/\v (rs w) (rs m) (rr s) a=oT w m s a:=by
 refine out _ _ _ _ ?_;have h2:=oI.ok s a hf;have h3:=o_.ok w m (rr s) a hw hm;unfold vo b;rw[h3.1,h3.2,ay,er];have hl:(w++m).length<=2097152:=by rw[bX];omega
 have gO:∀i,i<(w++m).length->rq.c (rs ((w++m).take i)) ((w++m).getD i ⟨#[]⟩)=ai/\rq.v (rs ((w++m).take i)) ((w++m).getD i ⟨#[]⟩)=has ((w++m).take i) ((w++m).getD i ⟨#[]⟩):=λi hi=>rq.ok _ _ (by rw[dU];omega);have hk:∀i (hi:i<(w++m).length),bM (ar (rs (w++m)) i 0)=(w++m).getD i ⟨#[]⟩:=λi hi=>by rw[RE hi,show(w++m).getD i ⟨#[]⟩=(w++m)[i]by rw[cD,lD hi];rfl];rfl
 generalize hL:w++m=L at hl gO hk
 have key:=js (HH L) L.length (λn (i:aE)=>l3 Lib.cR (λ(y8:aW) (_ _:az) (_ _ _:aU) (_:az) (_:aU)=>ah y8) (λ(_:aW) (_ _:az) (KE xO Q3:aU) (Q4:az) (_:aU)=>bif(decide ((↑(bT KE):az)<=2))then(bif(decide ((↑(bT xO):az)<=4))then(bif(oI.c Q3 Q4)then(ah (oI.v Q3 Q4))else(aj))else(ah ak))else(ah ak)) n ak (L.length:az) (i:az) (rs w) (rs m) (rr s) a (rs L)) (ah ak) (ah (decide (w.length<=2)&&(decide (m.length<=4)&&eW.jK s a)))
  (λn i hi hp=>by
   unfold HH at hp;rw[aF,dt]at hp;have b1:iy 0 (i:az) (L.length:az)=true:=by simp[iy];omega
   simp only[l3,r3,er,Lib.dE,hi,aR,Lib.cT,aM,ay,Lib.eD,hk i hi,iB,hp.1,a9,aC,b1,vp,(gO i hi).1,(gO i hi).2,hp.2,Lib.dm hi (by omega:L.length<=9223372036854775807)])
  (λn i hi hp=>by
   have b1:iy 0 (i:az) (L.length:az)=true:=by simp[iy];omega
   unfold HH at hp;cases h1:eh (L.getD i ⟨#[]⟩)with
   |false=>simp only[l3,r3,er,Lib.dE,hi,aR,Lib.cT,aM,ay,Lib.eD,hk i hi,iB,h1,bS]
   |true=>rw[h1,bG,lz]at hp;simp only[l3,r3,er,Lib.dE,hi,aR,Lib.cT,aM,ay,Lib.eD,hk i hi,iB,h1,a9,aC,b1,vp,(gO i hi).1,(gO i hi).2,hp])
  (λn=>by simp only[l3,r3,er,Lib.dE,bk,bg,aC,h2.1,h2.2,ay];rw[show decide ((w.length:az)<=2)=decide (w.length<=2)by rw[b9];omega,show decide ((m.length:az)<=4)=decide (m.length<=4)by rw[b9];omega];cases decide (w.length<=2)<;>cases decide (m.length<=4)<;>rfl) Lib.cR (cJ (by omega))
 refine key.trans ?_;unfold oT mj;rw[hL];cases (cz L.length).all (HH L)<;>rfl
end o8

namespace xY
open Lib (rr rs)
open eQ (has)
theorem SZ(w m:ax aq)(k:aq):has (w++m) k=(has w k||has m k):=by unfold has;rw[List.any_append]
theorem ok(w m:ax aq)(s:aU)(a:az)(k:aq)(hw:w.length<=1048576)(hm:m.length<=1048576):c (rs w) (rs m) s a k=ai/\v (rs w) (rs m) s a k=(has w k||has m k):=by have h1:=o_.ok w m s a hw hm;have h2:=rq.ok (w++m) k (by rw[bX];omega);exact out _ _ _ _ _ (by unfold vo b;rw[h1.1,h1.2,h2.1,h2.2,ay,ay,SZ])
end xY

namespace Mr
open Lib (rr rs re el rX vt vu vv En)
open eQ (has)
open iV (oT)
open mC (Ep Jo sV)
theorem Ca(k:aq)(s l:az)(b:aq):zp.v k s l b=h_.v k s l b:=rfl
theorem ok(i0:az)(en:ax En)(w m:ax aq)(s:ax (ax az))(a:az)(r6 r7:aU)(i8:az)(he:en.length<=1048576)(hw:w.length<=1048576)(hm:m.length<=1048576)(hf:iK.oc s):
  c i0 (re en) (rs w) (rs m) (rr s) a r6 r7 i8=ai/\v i0 (re en) (rs w) (rs m) (rr s) a r6 r7 i8=Jo en w m s a:=by
 refine out _ _ _ _ _ _ _ _ _ ?_;have h1:=o8.ok w m s a hw hm hf;have h2:=λk=>xY.ok w m (rr s) a k hw hm;have h3:=o_.ok w m (rr s) a hw hm;unfold vo b;rw[ej]
 have key:=js (Ep en w m) en.length (λn (i:aE)=>l2 Lib.cR (λ(Gs:aW) (_:aU) (_ _ _:az) (_ _ _ _:aU) (_:az) (_ _:aU) (_:az)=>ah Gs) (λ(_:aW) (_:aU) (_ _ _:az) (My Md Q5 Q6:aU) (Q7:az) (_ _:aU) (_:az)=>bif(o8.c Md Q5 Q6 Q7)then(bif(o8.v Md Q5 Q6 Q7)then(bif(o_.c Md Q5 Q6 Q7)then(ah (decide ((↑(bT (o_.v Md Q5 Q6 Q7)):az)=(↑(bT My):az))))else(aj))else(ah ak))else(aj)) n ak (re en) (en.length:az) (i:az) i0 (re en) (rs w) (rs m) (rr s) a r6 r7 i8) (ah ak) (ah (oT w m s a&&decide (w.length+m.length=en.length)))
  (λn i hi hp=>by
   unfold Ep sV at hp;rw[aF,aF]at hp;obtain⟨p1,p2,p3⟩:=hp;by_cases hz:i=0
   ·subst hz;simp only[l2,r2,ej,Lib.dE,hi,aR,Lib.cT,aM,ay,Lib.eD,rX hi,vt hi,vu hi,vv hi,bM,bU,Ca,p1,a9,aC,aK (show¬(((0:aE):az)>0)by omega),(h2 _).1,(h2 _).2,p3,Lib.dm hi (by omega:en.length<=9223372036854775807)]
   ·rw[aK hz,kQ]at p2;have jr:i-1<en.length:=by omega
    simp only[l2,r2,ej,Lib.dE,hi,aR,Lib.cT,aM,ay,Lib.eD,rX hi,vt hi,vu hi,vv hi,bM,bU,Ca,p1,a9,aC,aG (show(i:az)>0 by omega),kG (show 0<i by omega) (by omega),jr,rX jr,p2,(h2 _).1,(h2 _).2,p3,Lib.dm hi (by omega:en.length<=9223372036854775807)])
  (λn i hi hp=>by
   unfold Ep sV at hp;cases p1:h_.v (el en i).k (el en i).st (el en i).li (el en i).bo with
   |false=>simp only[l2,r2,ej,Lib.dE,hi,aR,Lib.cT,aM,ay,Lib.eD,rX hi,vt hi,vu hi,vv hi,bM,bU,Ca,p1,bS]
   |true=>
    rw[p1,bG]at hp;by_cases hz:i=0
    ·subst hz;rw[aG rfl,xR,bG]at hp;simp only[l2,r2,ej,Lib.dE,hi,aR,Lib.cT,aM,ay,Lib.eD,rX hi,vt hi,vu hi,vv hi,bM,bU,Ca,p1,a9,bS,aC,aK (show¬(((0:aE):az)>0)by omega),(h2 _).1,(h2 _).2,hp]
    ·rw[aK hz,kQ]at hp;have jr:i-1<en.length:=by omega
     cases p2:bZ (aJ (el en (i-1)).k) (aJ (el en i).k)with
     |false=>simp only[l2,r2,ej,Lib.dE,hi,aR,Lib.cT,aM,ay,Lib.eD,rX hi,vt hi,vu hi,vv hi,bM,bU,Ca,p1,a9,bS,aC,aG (show(i:az)>0 by omega),kG (show 0<i by omega) (by omega),jr,rX jr,p2]
     |true=>rw[p2,bG]at hp;simp only[l2,r2,ej,Lib.dE,hi,aR,Lib.cT,aM,ay,Lib.eD,rX hi,vt hi,vu hi,vv hi,bM,bU,Ca,p1,a9,bS,aC,aG (show(i:az)>0 by omega),kG (show 0<i by omega) (by omega),jr,rX jr,p2,(h2 _).1,(h2 _).2,hp])
  (λn=>by simp only[l2,r2,Lib.dE,bk,bg,aC,h1.1,h1.2,h3.1,h3.2,ay,er,ej,bX];rw[show decide (((w.length+m.length:aE):az)=(en.length:az))=decide (w.length+m.length=en.length)by rw[b9];omega];cases oT w m s a<;>rfl) Lib.cR (cJ (by omega))
 refine key.trans ?_;unfold Jo;cases (cz en.length).all (Ep en w m)<;>rfl
end Mr

namespace e7
def op(r:aU)(i:aE):aW:=decide (bU (ar r i 2)=1)
def g(r:aU)(i j:aE):aW:= !(op r i&&(op r j&&c6 (aJ (bM (ar r i 0))) (aJ (bM (ar r j 0)))))
def val(r:aU):aW:=(cz r.length).all λi=>(cz i).all (g r i)
end e7

namespace qM
def p(s0:aU)(gW:aq)(i:aE):aW:=G0.v (bM (ar s0 i 0)) (bM (ar s0 i 1)) (bU (ar s0 i (1+1))) (bU (ar s0 i (1+1+1))) (bU (ar s0 i (1+1+1+1))) gW
theorem ok(s0:aU)(gW:aq)(hl:s0.length<=4294967296):c s0 gW=ai/\v s0 gW=Lib.fi (p s0 gW) s0.length 0:=by
 refine out s0 gW ?_;unfold vo b;refine oP (p s0 gW) s0.length (λm (i:aE)=>l2 Lib.cR (λ(_:aU) (_:aq) (y7 _ _:az)=>ah y7) (λ(_:aU) (_:aq) (_ _ _:az)=>ah (-1)) m s0 gW 0 (s0.length:az) (i:az)) ah (λm i hi hp=> ?_) (λm i hi hp=> ?_) (λm=> ?_) Lib.cR (cJ (by omega))
 ·unfold p at hp;simp only[l2,r2,Lib.dE,Lib.cT,Lib.eD,hi,aR,aM,ay,hp]
 ·unfold p at hp;simp only[l2,r2,Lib.dE,Lib.cT,Lib.eD,hi,aR,aM,ay,hp,aC,Lib.dm hi (by omega:s0.length<=9223372036854775807)]
 ·simp only[l2,r2,Lib.dE,bk,bg,aC]
end qM

namespace Ja
theorem ok(i0:az)(r1 r2 r3 r4:aU)(i5:az)(r6 r7:aU)(i8:az)(key:aq)(hl:r6.length<=4294967296):c i0 r1 r2 r3 r4 i5 r6 r7 i8 key=ai/\v i0 r1 r2 r3 r4 i5 r6 r7 i8 key=Lib.fi (qM.p r6 key) r6.length 0:=by have h:=qM.ok r6 key hl;exact out _ _ _ _ _ _ _ _ _ _ (by unfold vo b;rw[h.1,h.2,ay])
end Ja

namespace ur
def q(r:aU)(i:aE):aW:= !(e7.op r i&&(Lib.fi (qM.p r (bM (ar r i 0))) r.length 0 !=(i:az)))
theorem same(r:aU)(i:aE)(hi:i<r.length):q r i=(cz i).all (e7.g r i):=by
 unfold q;cases ho:e7.op r i with
 |false=>symm;rw[CN,bS,bj];intro j _;unfold e7.g;rw[ho];rfl
 |true=>
  rw[bG];have hp:∀j,qM.p r (bM (ar r i 0)) j= !e7.g r i j:=by intro j;unfold qM.p G0.v e7.g;rw[ho,bG,Bool.not_not,Lib.fB,Lib.fB];unfold e7.op;rw[show decide (bM (ar r j 0)=bM (ar r i 0))=decide (bM (ar r i 0)=bM (ar r j 0))from by rw[b9];exact E8];cases decide (bM (ar r i 0)=bM (ar r j 0))<;>simp
  have hpi:qM.p r (bM (ar r i 0)) i=true:=by rw[hp];unfold e7.g;rw[ho,Lib.fB];simp
  rcases Lib.rI (qM.p r (bM (ar r i 0))) r.length 0 with ⟨_,h2⟩|⟨k,h1,h2,h3,h4,h5⟩
  ·have:=h2 i (bm _) (by omega);rw[hpi]at this;cases this
  ·rw[h3];by_cases hk:k=i
   ·subst hk;rw[eU,bS];symm;rw[bj];intro j hj;have:=h5 j (bm _) (by simpa using hj);rw[hp]at this;simpa using this
   ·have ji:k<i:=by
     rcases pF k i with h|h
     ·exact h
     ·have:=h5 i (bm _) (by omega);rw[hpi]at this;cases this
    rw[show((k:az) !=(i:az))=ai from by simp;omega,a9];symm;rw[List.all_eq_false];refine⟨k,by simpa using ji, ?_⟩
    rw[hp]at h4;simpa using h4
theorem ok(i0:az)(p1 p2 p3 p4:aU)(i5:az)(p6 p7:aU)(i8:az)(hl:p6.length<=4294967296):c i0 p1 p2 p3 p4 i5 p6 p7 i8=ai/\v i0 p1 p2 p3 p4 i5 p6 p7 i8=e7.val p6:=by
 refine out _ _ _ _ _ _ _ _ _ ?_;unfold vo b;have hw:∀i,i<p6.length->bE ((i:az)+1)=((i+1:aE):az):=λi h=>Lib.dm h (by omega);have ho:=λkey=>Ja.ok i0 p1 p2 p3 p4 i5 p6 p7 i8 key hl
 have key:=js (q p6) p6.length (λm (i:aE)=>l2 Lib.cR (λ(Gs:aW) (_:aU) (_ _ _:az) (_ _ _ _:aU) (_:az) (_ _:aU) (_:az)=>ah Gs) (λ(_:aW) (_:aU) (_ _ _:az) (_ _ _ _:aU) (_:az) (_ _:aU) (_:az)=>ah ai) m ak p6 (p6.length:az) (i:az) i0 p1 p2 p3 p4 i5 p6 p7 i8) (ah ak) (ah ai)
  (λm i hi hp=>by
   unfold q e7.op at hp;cases e1:decide (bU (ar p6 i (1+1))=1)with
   |false=>simp only[l2,r2,Lib.dE,hi,aR,Lib.cT,aM,ay,Lib.eD,e1,aC,hw i hi]
   |true=>rw[show decide (bU (ar p6 i 2)=1)=ai from e1,bG,dt]at hp;simp only[l2,r2,Lib.dE,hi,aR,Lib.cT,aM,ay,Lib.eD,e1,(ho _).1,(ho _).2,hp,aC,hw i hi])
  (λm i hi hp=>by unfold q e7.op at hp;rw[lz,aF]at hp;obtain⟨e1,e2⟩:=hp;have e1:decide (bU (ar p6 i (1+1))=1)=true:=e1;simp only[l2,r2,Lib.dE,hi,aR,Lib.cT,aM,ay,Lib.eD,e1,(ho _).1,(ho _).2,e2])
  (λm=>by simp only[l2,r2,Lib.dE,bk,bg,aC]) Lib.cR (cJ (by omega))
 refine key.trans ?_;rw[all_congr (λi hi=>same p6 i hi)];unfold e7.val;cases (cz p6.length).all λi=>(cz i).all (e7.g p6 i)<;>rfl
end ur

namespace KU
open Lib (rf el Fe Iq Ma Yj BJ RG RH)
open nr (m8 apart ll)
theorem eH(n a b:az):pb.v n a b=decide (a<=n/\n<=b):=eW.eH n a b
theorem one(fe:ax Fe):e7.val (rf fe)=(cz fe.length).all (apart fe):=by
 unfold e7.val;rw[eu];refine all_congr (λi hi=> ?_);unfold apart;refine all_congr (λj hj=> ?_);have jt:j<fe.length:=by omega
 unfold e7.g e7.op ll;rw[Iq hi,Iq jt,BJ hi,BJ jt];simp only[bM,bU,Lib.fB];rfl
theorem ok(i0:az)(u1 u2 u3 u4:aU)(i5:az)(fe:ax Fe)(u7:aU)(i8:az)(hf:fe.length<=1048576):
  c i0 u1 u2 u3 u4 i5 (rf fe) u7 i8=ai/\v i0 u1 u2 u3 u4 i5 (rf fe) u7 i8=((cz fe.length).all (λi=>m8 i0 (el fe i))&&(decide (fe.length<=20)&&(cz fe.length).all (apart fe))):=by
 refine out _ _ _ _ _ _ _ _ _ ?_;have h1:=ur.ok i0 u1 u2 u3 u4 i5 (rf fe) u7 i8 (by rw[eu];omega);rw[one]at h1;unfold vo b;rw[eu]
 have key:=js (λi=>m8 i0 (el fe i)) fe.length (λn (i:aE)=>l2 Lib.cR (λ(Gs:aW) (_:aU) (_ _ _:az) (_ _ _ _:aU) (_:az) (_ _:aU) (_:az)=>ah Gs) (λ(_:aW) (_:aU) (_ _ RM:az) (My Md Q5 Q6:aU) (Q7:az) (Vd RN:aU) (y38:az)=>bif(decide ((↑(bT Vd):az)<=20))then(bif(ur.c RM My Md Q5 Q6 Q7 Vd RN y38)then(ah (ur.v RM My Md Q5 Q6 Q7 Vd RN y38))else(aj))else(ah ak)) n ak (rf fe) (fe.length:az) (i:az) i0 u1 u2 u3 u4 i5 (rf fe) u7 i8) (ah ak) (ah (decide (fe.length<=20)&&(cz fe.length).all (apart fe)))
  (λn i hi hq=>by
   unfold m8 at hq;simp only[aF]at hq;obtain⟨q1,q2,q3,q4,q5⟩:=hq;have e1:decide (((el fe i).t.size:az)>400)= !decide (((el fe i).t.size:az)<=400):=by rw[<-decide_not,b9];omega
   simp only[l2,r2,eu,Lib.dE,hi,aR,Lib.cT,aM,ay,Lib.eD,Iq hi,Ma hi,Yj hi,RG hi,RH hi,bM,bU,eH,o8.iB,e1,q1,q2,q3,q4,q5,a9,aC,Lib.dm hi (by omega:fe.length<=9223372036854775807)])
  (λn i hi hq=>by
   unfold m8 at hq;have e1:decide (((el fe i).t.size:az)>400)= !decide (((el fe i).t.size:az)<=400):=by rw[<-decide_not,b9];omega
   simp only[l2,r2,eu,Lib.dE,hi,aR,Lib.cT,aM,ay,Lib.eD,Iq hi,Ma hi,Yj hi,RG hi,RH hi,bM,bU,eH,o8.iB,e1];revert hq;cases iV.eh (el fe i).k<;>cases decide (((el fe i).t.size:az)<=400)<;>cases decide (1<=(el fe i).sta/\(el fe i).sta<=3)<;>cases decide (0<=(el fe i).li/\(el fe i).li<=999999)<;>cases decide (0<=(el fe i).st/\(el fe i).st<=i0)<;>intro hq<;>first|rfl|cases hq)
  (λn=>by simp only[l2,r2,Lib.dE,bk,bg,aC,eu,h1.1,h1.2,ay];rw[show decide ((fe.length:az)<=20)=decide (fe.length<=20)by rw[b9];omega];cases decide (fe.length<=20)<;>rfl) Lib.cR (cJ (by omega))
 refine key.trans ?_;cases (cz fe.length).all (λi=>m8 i0 (el fe i))<;>rfl
end KU

namespace Ms
open Lib (rf rc el Fe Cl KC QS QT QU QV QW QX)
open iV (eh)
open s8 (Eo)
open KU (eH)
theorem step(N:aE)(g k0 k1:aW->aU->az->az->az->aU->aU->aU->aU->az->aU->aU->az->aA R)(i0:az)(q1 q2 q3 q4:aU)(i5:az)(fe:ax Fe)(cl:ax Cl)(i8:az)(i:aE)(hi:i<cl.length)(hl:cl.length<=1048576):
  r2 N g k0 k1 ak (rc cl) cl.length (i:az) i0 q1 q2 q3 q4 i5 (rf fe) (rc cl) i8=bif Eo i0 fe.length cl i then g ak (rc cl) cl.length ((i+1:aE):az) i0 q1 q2 q3 q4 i5 (rf fe) (rc cl) i8 else k0 ak (rc cl) cl.length (i:az) i0 q1 q2 q3 q4 i5 (rf fe) (rc cl) i8:=by
 unfold Eo;have e1:decide (((el cl i).got.size:az)>400)= !decide (((el cl i).got.size:az)<=400):=by rw[<-decide_not,b9];omega
 have e2:decide ((el cl i).age<0)= !decide (0<=(el cl i).age):=by rw[<-decide_not,b9];omega
 by_cases hz:i=0
 ·subst hz;simp only[r2,eI,eu,Lib.dE,hi,aR,Lib.cT,aM,ay,Lib.eD,KC hi,QS hi,QT hi,QU hi,QV hi,QW hi,QX hi,bM,bU,eH,o8.iB,aK (show¬(((0:aE):az)>0)by omega),aC,e1,e2,Lib.dm hi (by omega:cl.length<=9223372036854775807),xR,bG];cases decide (1<=(el cl 0).id/\(el cl 0).id<=9)<;>cases eh (el cl 0).k<;>cases decide (1<=(el cl 0).sta/\(el cl 0).sta<=3)<;>cases decide (0<=(el cl 0).fe/\(el cl 0).fe<=(fe.length:az))<;>cases decide (((el cl 0).got.size:az)<=400)<;>cases decide (0<=(el cl 0).fr/\(el cl 0).fr<=i0)<;>cases decide (0<=(el cl 0).age)<;>rfl
 ·have jr:i-1<cl.length:=by omega
  have e3:decide ((el cl (i-1)).id≥(el cl i).id)= !decide ((el cl (i-1)).id<(el cl i).id):=by rw[<-decide_not,b9];omega
  simp only[r2,eI,eu,Lib.dE,hi,aR,Lib.cT,aM,ay,Lib.eD,KC hi,QS hi,QT hi,QU hi,QV hi,QW hi,QX hi,bM,bU,eH,o8.iB,aG (show(i:az)>0 by omega),kG (show 0<i by omega) (by omega),jr,KC jr,aC,e1,e2,e3,Lib.dm hi (by omega:cl.length<=9223372036854775807),aK hz,kQ];cases decide (1<=(el cl i).id/\(el cl i).id<=9)<;>cases decide ((el cl (i-1)).id<(el cl i).id)<;>cases eh (el cl i).k<;>cases decide (1<=(el cl i).sta/\(el cl i).sta<=3)<;>cases decide (0<=(el cl i).fe/\(el cl i).fe<=(fe.length:az))<;>cases decide (((el cl i).got.size:az)<=400)<;>cases decide (0<=(el cl i).fr/\(el cl i).fr<=i0)<;>cases decide (0<=(el cl i).age)<;>rfl
theorem ok(i0:az)(q1 q2 q3 q4:aU)(i5:az)(fe:ax Fe)(cl:ax Cl)(i8:az)(hl:cl.length<=1048576):
  c i0 q1 q2 q3 q4 i5 (rf fe) (rc cl) i8=ai/\v i0 q1 q2 q3 q4 i5 (rf fe) (rc cl) i8=((cz cl.length).all (Eo i0 fe.length cl)&&decide (cl.length<=6)):=by
 refine out _ _ _ _ _ _ _ _ _ ?_;unfold vo b;rw[eI]
 have key:=js (Eo i0 fe.length cl) cl.length (λn (i:aE)=>l2 Lib.cR (λ(Gs:aW) (_:aU) (_ _ _:az) (_ _ _ _:aU) (_:az) (_ _:aU) (_:az)=>ah Gs) (λ(_:aW) (_:aU) (_ _ _:az) (_ _ _ _:aU) (_:az) (_ RN:aU) (_:az)=>ah (decide ((↑(bT RN):az)<=6))) n ak (rc cl) (cl.length:az) (i:az) i0 q1 q2 q3 q4 i5 (rf fe) (rc cl) i8) (ah ak) (ah (decide (cl.length<=6)))
  (λn i hi hq=>by simp only[l2];rw[step _ _ _ _ _ _ _ _ _ _ _ _ _ i hi hl,hq];rfl)
  (λn i hi hq=>by simp only[l2];rw[step _ _ _ _ _ _ _ _ _ _ _ _ _ i hi hl,hq];rfl)
  (λn=>by simp only[l2,r2,Lib.dE,bk,bg,aC,eI];rw[show decide ((cl.length:az)<=6)=decide (cl.length<=6)by rw[b9];omega]) Lib.cR (cJ (by omega))
 refine key.trans ?_;cases (cz cl.length).all (Eo i0 fe.length cl)<;>rfl
end Ms

namespace I9
open Lib (rr rs re rf rc el En Fe Cl Px)
open mC (Jo)
open nr (m8 apart)
open s8 (Eo kY)
theorem ok(p:Px)(hp:p.Fit 1048576):c p.now (re p.en) (rs p.w) (rs p.m) (rr p.s) p.a (rf p.fe) (rc p.cl) p.hits=ai/\v p.now (re p.en) (rs p.w) (rs p.m) (rr p.s) p.a (rf p.fe) (rc p.cl) p.hits=kY p:=by refine out _ _ _ _ _ _ _ _ _ ?_;have h1:=Mr.ok p.now p.en p.w p.m p.s p.a (rf p.fe) (rc p.cl) p.hits hp.en hp.w hp.m ⟨hp.s.1,hp.s.2.1⟩;have h2:=KU.ok p.now (re p.en) (rs p.w) (rs p.m) (rr p.s) p.a p.fe (rc p.cl) p.hits hp.fe;have h3:=Ms.ok p.now (re p.en) (rs p.w) (rs p.m) (rr p.s) p.a p.fe p.cl p.hits hp.cl;unfold vo b kY;have e1:∀n a b,pb.v n a b=decide (a<=n/\n<=b):=λn a b=>eW.eH n a b;have e2:zo.v p.hits=decide (0<=p.hits/\p.hits<=1000000000):=e1 p.hits 0 1000000000;rw[e1,e2,h1.1,h1.2,h2.1,h2.2,h3.1,h3.2,Dm];cases decide (1<=p.now/\p.now<=1000000000)<;>cases Jo p.en p.w p.m p.s p.a<;>cases decide (p.fe.length<=20)<;>cases decide (p.cl.length<=6)<;>cases decide (0<=p.hits/\p.hits<=1000000000)<;>cases (cz p.fe.length).all (λi=>m8 p.now (el p.fe i))<;>cases (cz p.fe.length).all (apart p.fe)<;>cases (cz p.cl.length).all (Eo p.now p.fe.length p.cl)<;>rfl
end I9

namespace rk
def p(s:aU)(k:az)(i:aE):aW:=decide (bU (ar s i 0)=k)
theorem ok(d:aU)(n:az)(hl:d.length<=4294967296):c d n=ai/\v d n=Lib.fi (p d n) d.length 0:=by
 refine out d n ?_;unfold vo b;refine oP (p d n) d.length (λm (i:aE)=>l2 Lib.cR (λ(_:aU) (_:az) (y7 _ _:az)=>ah y7) (λ(_:aU) (_:az) (_ _ _:az)=>ah (-1)) m d n 0 (d.length:az) (i:az)) ah (λm i hi hp=> ?_) (λm i hi hp=> ?_) (λm=> ?_) Lib.cR (cJ (by omega))
 ·unfold p at hp;simp only[l2,r2,Lib.dE,Lib.cT,Lib.eD,hi,aR,aM,ay,GZ.v,hp]
 ·unfold p at hp;simp only[l2,r2,Lib.dE,Lib.cT,Lib.eD,hi,aR,aM,ay,GZ.v,hp,aC,Lib.dm hi (by omega:d.length<=9223372036854775807)]
 ·simp only[l2,r2,Lib.dE,bk,bg,aC]
end rk

namespace Y1
open Lib (rc el Cl)
open iX (mJ)
end Y1

namespace EL
def p(s:aU)(k:aq)(i:aE):aW:=c6 (aJ (bM (ar s i 0))) (aJ k)
theorem ok(d:aU)(n:aq)(hl:d.length<=4294967296):c d n=ai/\v d n=Lib.fi (p d n) d.length 0:=by
 refine out d n ?_;unfold vo b;refine oP (p d n) d.length (λm (i:aE)=>l2 Lib.cR (λ(_:aU) (_:aq) (y7 _ _:az)=>ah y7) (λ(_:aU) (_:aq) (_ _ _:az)=>ah (-1)) m d n 0 (d.length:az) (i:az)) ah (λm i hi hp=> ?_) (λm i hi hp=> ?_) (λm=> ?_) Lib.cR (cJ (by omega))
 ·unfold p at hp;simp only[l2,r2,Lib.dE,Lib.cT,Lib.eD,hi,aR,aM,ay,U67.v,hp]
 ·unfold p at hp;simp only[l2,r2,Lib.dE,Lib.cT,Lib.eD,hi,aR,aM,ay,U67.v,hp,aC,Lib.dm hi (by omega:d.length<=9223372036854775807)]
 ·simp only[l2,r2,Lib.dE,bk,bg,aC]
end EL

namespace ru
theorem ok(i:aE)(key:aq)(hi:i<3)(hk:key.size<=140737488355328):c (i:az) key=ai/\v (i:az) key=(fU.pl i key:az):=by
 refine out _ _ ?_;unfold vo b;have e:(key++bytesOf (aw (aN [Ck.i bc] 1) 0 [CV.i bc (bC bc (bE (↑(dG (iD (bY 64 (i:az)) (bY 64 255))):az)))]))=fU.keyed i key:=by
  unfold fU.keyed;match i,hi with
  |0,_=>rfl
  |1,_=>rfl
  |2,_=>rfl
 have hs:=fU.AK i key;have h:=uw.ok (fU.keyed i key) (by omega);have e2:fH key+fH (bytesOf (aw (aN [Ck.i bc] 1) 0 [CV.i bc (bC bc (bE (↑(dG (iD (bY 64 (i:az)) (bY 64 255))):az)))]))=key.size+1:=by rw[oV,AJ]
 rw[e2,e,aG (by omega),ay,h.1,h.2,ay];have hp:=fU.pl_int i key;have hl:=fU.Cz i key;have hr:=fU.Ia i key;unfold fU.sm at hp hr;rw[cX (by omega) (by omega),hp]
end ru

namespace oL
open Lib (rr ri)
open fG (fR bq Bn half zH Gh D8 oj u5 rC)
theorem aa3(K:aq->az->az->az->az->aU->aA R)(s:ax (ax az))(key:aq)(y a:az)(hs:s.length=3)(hq:∀q∈s,q.length=16/\∀n∈q,0<=n/\n<=15)(hk:key.size<=140737488355328):
  l5 Lib.cR K Lib.cR key 3 0 y a (rr s)=K key 3 3 y a (rr (Bn s key)):=by
 refine(qt fR s (λi q=>bq (fU.pl i key) q) (λm (i:aE) x=>l5 Lib.cR K m key 3 (i:az) y a x) (λx=>K key 3 3 y a x) (λm i L h h2 hL DH=> ?_) (λm L hL=> ?_) Lib.cR (cJ (by omega)))
 ·have hp:=ru.ok i key (by omega) hk;have sA:=fU.Cz i key;obtain⟨JE,hn⟩:=hq _ (bD h);have e0:ar (L.map fR) i 0=CV.l 3 (ri s[i]):=by rw[zH L i h2,DH]
  have hb:fU.pl i key<s[i].length:=by omega
  have hx:=hn _ (bD hb);have e3:decide ((i:az)<3)=true:=aG (by omega);simp only[l5,r5,bP,Lib.dE,h2,e3,aR,ay,hp.1,hp.2,Lib.cT,aM,Lib.eD,e0,g9,Lib.fV,JE,sA,Qa hb,bU];unfold bq mm;rw[oj hb,aC,cX (x:=s[i][fU.pl i key]+1) (by omega) (by omega)];by_cases hd:s[i][fU.pl i key]<15
  ·rw[bJ (by omega),aG hd,ay,Gh _ _ _ hb,D8 _ _ _ h2,Lib.dm h2 (by omega)]
  ·have e15:s[i][fU.pl i key]=15:=by omega
   rw[bu (by omega),aK hd,aC,e15,Gh _ _ _ hb,D8 _ _ _ h2,Lib.dm h2 (by omega)]
 ·have e3:decide ((s.length:az)<3)=false:=aK (by omega);simp only[l5,r5,e3,aC,hs];rfl
theorem afF(K:aE->az->az->az->az->az->az->aU->aA R)(L:ax (ax az))(i:aE)(h:i<L.length)(u w y a:az)(hl:L.length<=1048576)(hq:L[i].length=16)(hn:∀n∈L[i],0<=n/\n<=15):
  l18 Lib.cR K Lib.cR i u w 16 0 y a (L.map fR)=K i u w 16 16 y a ((L.set i (L[i].map λn=>cG n 2)).map fR):=by
 have We:L[i].mapIdx (λ_ n=>cG n 2)=L[i].map λn=>cG n 2:=by apply ki<;>simp
 have key:=lI (L[i].length) (λm (k:aE) x=>l18 Lib.cR K m i u w 16 (k:az) y a x) (λk=>(L.set i (mX L[i] (λ_ n=>cG n 2) k)).map fR) (K i u w 16 16 y a ((L.set i (L[i].map λn=>cG n 2)).map fR)) (λm k hk=> ?_) (λm=> ?_) Lib.cR 0 (bm _) (cJ (by omega))
 ·rw[AQ,jD]at key;exact key
 ·have hu:=pC L[i] (λ_ n=>cG n 2) k (by omega);generalize hU:mX L[i] (λ_ n=>cG n 2) k=U at hu;have ZW:k<U.length:=by omega
  have fN:U[k]=L[i][k]:=by subst hU;exact vn _ _ _ hk _
  have Z6:U.set k (cG L[i][k] 2)=mX L[i] (λ_ n=>cG n 2) (k+1):=by subst hU;exact rU L[i] (λ_ n=>cG n 2) k hk
  have h2:i<(L.set i U).length:=by simpa using h
  have e0:ar ((L.set i U).map fR) i 0=CV.l 3 (ri U):=by rw[zH _ _ h2,mP]
  have hx:=hn _ (bD hk);have ht:0<=cG L[i][k] 2:=R5 hx.1 (by omega);have Es:cG L[i][k] 2<=15:=wZ (Rh _ hx.1) hx.2;have e3:decide ((k:az)<16)=true:=aG (by omega);simp only[l18,r18,bP,c7,Lib.dE,h,ZW,e3,aR,ay,Lib.cT,aM,Lib.eD,e0,g9,Lib.fV,Qa ZW,bU,fN];rw[cX (x:=cG L[i][k] 2) (by omega) (by omega),Gh _ _ _ ZW,D8 _ _ _ h2,Z6,List.set_set,Lib.dm hk (by omega)]
 ·have e3:decide ((L[i].length:az)<16)=false:=aK (by omega);simp only[l18,r18,e3,aC];rw[pB,We,hq];rfl
theorem afD(K:az->az->az->az->aU->aA R)(s:ax (ax az))(y a:az)(hs:s.length=3)(hq:∀q∈s,q.length=16/\∀n∈q,0<=n/\n<=15):
  l15 Lib.cR K Lib.cR 3 0 y a (rr s)=K 3 3 y a (rr (half s)):=by
 have We:s.mapIdx (λ_ q=>q.map λn=>cG n 2)=half s:=by unfold half;apply ki<;>simp
 rw[<-We];refine(qt fR s (λ_ q=>q.map λn=>cG n 2) (λm (i:aE) x=>l15 Lib.cR K m 3 (i:az) y a x) (λx=>K 3 3 y a x) (λm i L h h2 hL DH=> ?_) (λm L hL=> ?_) Lib.cR (cJ (by omega)))
 ·obtain⟨JE,hn⟩:=hq _ (bD h);have e3:decide ((i:az)<3)=true:=aG (by omega);have e0:ar (L.map fR) i 0=CV.l 3 (ri s[i]):=by rw[zH L i h2,DH]
  simp only[l15,r15,bP,Lib.dE,h2,e3,aR,ay,Lib.cT,aM,Lib.eD,e0,g9,Lib.fV,JE];rw[show((16:aE):az)=16 from rfl,afF _ L i h2 3 i y a (by omega) (by rw[DH];exact JE) (by rw[DH];exact hn),Lib.dm h2 (by omega),DH]
 ·have e3:decide ((s.length:az)<3)=false:=aK (by omega);simp only[l15,r15,e3,aC,hs];rfl
theorem ok(s:ax (ax az))(a:az)(key:aq)(hf:iK.oc s)(hk:key.size<=140737488355328):c (rr s) a key=ai/\v (rr s) a key=(rr (fG.val s a key).1,(fG.val s a key).2):=by
 refine out _ _ _ ?_;have h1:=iK.ok s a hf;have h2:=oI.ok s a hf;unfold vo b fG.val;rw[h1.1,h1.2,h2.1,h2.2,ay,ay];cases b7:eW.jK s a with
 |false=>rfl
 |true=>
  obtain⟨hs,ha,hq⟩:=u5 b7;obtain⟨b1,b2⟩:=rC (key:=key) hs hq;rw[a9,aC,ay,gk,hs,show((3:aE):az)=3 from rfl,aa3 _ s key _ _ hs hq hk,cX (x:=a+1) (by omega) (by omega)];by_cases hd:a+1=64
  ·rw[aK (show¬a+1<64 by omega),aG hd,ay,aC,gk,b1,show((3:aE):az)=3 from rfl,afD _ _ _ _ b1 b2]
  ·rw[aG (show a+1<64 by omega),aK hd];rfl
end oL

namespace Bh
def p(s:aU)(k:aq)(i:aE):aW:=c6 (aJ (bM (ar s i 0))) (aJ k)
end Bh

namespace EI
def cn(y:ax CV):aW:=match y with|[.s _]=>ai|_=>ak
def cr(y:ax CV):ax CV:=[CV.s (bM (y.getD 0 (.b ak)))]
def keep(d:aq)(y:ax CV):aW:= !List.beq (aJ (bM (y.getD 0 (.b ak)))) (aJ d)
end EI

namespace kA
end kA

namespace Bd
open Lib (rr ri)
open mD (gs JD)
end Bd

namespace Y2
open Lib (rr rs)
open eQ (has without fX kV AU iC qu)
open iV (eh HH mj oT)
open j7 (Kb zer V8 Yc qg Aa po Qk zT DY)
end Y2

namespace KT
open Lib (rr rs)
open eQ (without)
end KT

namespace pG
open Lib (rc Cl)
open iX (mJ jn lid aag)
end pG

namespace U11
open Lib (rr rs re rf rc Px Cl Fe En el)
open eQ (without)
open iV (eh)
open s8 (kY)
open iX (ZR Ag put N7 RD HZ mJ jn BB yO SQ)
open ik (fK)
open sL (gh qk)
def res(q:Px×az):az×aU×aU×aU×aU×az×aU×aU×az×az:=(q.1.now,re q.1.en,rs q.1.w,rs q.1.m,rr q.1.s,q.1.a,rf q.1.fe,rc q.1.cl,q.1.hits,q.2)
theorem Qn(fe:ax Fe)(key:aq):rf fe++aw (aN [Ck.s,Ck.s,Ck.i ao,Ck.i ao,Ck.i ao] 1) 0 [CV.s key,CV.s {data:= #[]},CV.i ao 1,CV.i ao 0,CV.i ao 0]=rf (fe++[BB key]):=by unfold Lib.rf;rw[c8];rfl
theorem JA{p:Px}{i:aE}(hi:i<p.en.length)(ho:gh p):bE (p.now-(el p.en i).st)=p.now-(el p.en i).st:=by have h1:=ho.now;have h2:=(h_.Eu (ho.en _ (qe hi))).2.1;exact cX (by omega) (by omega)
end U11

namespace I_
open Lib (re el En)
open iX (N7)
def res(o:aA En):aq×az×az×aq×aW:=match o with|some e=>(e.k,e.st,e.li,e.bo,ai)|none=>(⟨#[]⟩,0,0,⟨#[]⟩,ak)
theorem ok(now:az)(en:ax En)(q2 q3 q4:aU)(q5:az)(q6 q7:aU)(q8:az)(key:aq)(hl:en.length<=1048576):c now (re en) q2 q3 q4 q5 q6 q7 q8 key=ai/\v now (re en) q2 q3 q4 q5 q6 q7 q8 key=res (N7 en key):=by
 refine out _ _ _ _ _ _ _ _ _ _ ?_;unfold vo b N7
 have go:∀(d i n:aE),en.length-i<=d->i<=en.length->d<n->
   l2 Lib.cR (λ(_:aq) (RI:aW) (_ _:az) (_ _ _ _:aU) (_:az) (_ _:aU) (_:az) (RJ:aq) (RK RM:az) (My:aq)=>ah (RJ,RK,RM,My,RI)) (λ(_:aq) (_:aW) (_ _:az) (_ _ _ _:aU) (_:az) (_ _:aU) (_:az) (_:aq) (_ _:az) (_:aq)=>ah (({data:= #[]}:aq),0,0,({data:= #[]}:aq),ak)) n key ak (i:az) now (re en) q2 q3 q4 q5 q6 q7 q8 ({data:= #[]}) 0 0 ({data:= #[]})=ah (res ((en.drop i).find? λe=>decide (e.k=key))):=by
  intro d
  induction d with
  |zero=>
   intro i n h1 h2 h3;obtain⟨n,rfl⟩:∃n',n=n'+1:=⟨n-1,by omega⟩
   have:i=en.length:=by omega
   subst this;simp only[l2,r2,ej,Lib.dE,bk,bg,aC,dg];rfl
  |succ d ih=>
   intro i n h1 h2 h3;obtain⟨n,rfl⟩:∃n',n=n'+1:=⟨n-1,by omega⟩
   by_cases hi:i<en.length
   ·rw[dA hi];have g:=ih (i+1) n (by omega) hi (by omega);simp only[l2,r2,ej,Lib.dE,hi,aR,Lib.cT,aM,ay,Lib.eD,rX hi,vt hi,vu hi,vv hi,bM,bU,Lib.fB,fc hi,Lib.dm hi (by omega:en.length<=9223372036854775807)];cases hk:decide (en[i].k=key)with
    |true=>rw[ay,ED (p:=λe:En=>decide (e.k=key)) hk];rfl
    |false=>rw[aC,qH (p:=λe:En=>decide (e.k=key)) (by simp[hk])];exact g
   ·have:i=en.length:=by omega
    subst this;simp only[l2,r2,ej,Lib.dE,bk,bg,aC,dg];rfl
 have:=go en.length 0 Lib.cR (by omega) (bm _) (cJ (by omega));rw[fA]at this;exact this
end I_

namespace Gy
open Lib (rr rs)
open eQ (without)
theorem ok(w m:ax aq)(s:ax (ax az))(a:az)(key:aq)(hw:w.length<=1048576)(hm:m.length<=1048576)(hf:iK.oc s):c (rs w) (rs m) (rr s) a key=ai/\v (rs w) (rs m) (rr s) a key=(rs (without w key),rs (without m key),rr s,a):=by have h1:=lR.ok s a hf;have h2:=nL.ok w key hw;have h3:=nL.ok m key hm;exact out _ _ _ _ _ (by unfold vo b;rw[h1.1,h1.2,h2.1,h2.2,h3.1,h3.2];rfl)
end Gy

namespace Bm
open Lib (re el rX vt vu vv En)
open ik (fK)
theorem ok(l:ax En)(k:aq)(hl:l.length<=2097152):c (re l) k=ai/\v (re l) k=re (fK l k):=by
 refine out _ _ ?_;unfold vo b;have key:=lI l.length (λn (i:aE) (x:aU)=>l3 Lib.cR (λ(_:aU) (_:aq) (_:az) (y7:aU)=>ah y7) n (re l) k (i:az) x) (λi=>re (fK (l.take i) k)) (ah (re (fK l k))) (λn i hi=>by
  have hlen:(fK (l.take i) k).length<=i:=by refine cZ (dO ..) ?_;rw[dU];omega
  have e:fK (l.take (i+1)) k=fK (l.take i) k++(bif !decide ((el l i).k=k)then [el l i]else []):=by unfold fK;rw[dq hi,jl,fc hi];cases hd:decide (l[i].k=k)<;>simp[hd]
  rw[e];simp only[l3,r3,ej,Lib.dE,hi,aR,Lib.cT,aM,ay,Lib.eD,rX hi,vt hi,vu hi,vv hi,bM,bU,Lib.fB,oV,bQ,Lib.dm hi (by omega:l.length<=9223372036854775807)];rw[Lib.cF (by omega) (by omega),ay];cases decide ((el l i).k=k)with
  |true=>rw[a9,aC,aC,dH]
  |false=>rw[bS,ay,ay];unfold Lib.re;rw[c8];rfl) (λn=>by
  simp only[l3,r3,ej,Lib.dE,bk,bg,aC,gE]) Lib.cR 0 (bm _) (cJ (by omega))
 exact key
end Bm

namespace s9
open Lib (rc el Cl)
open iX (jn)
theorem tail(l:ax Cl)(x:Cl)(hl:l.length<=1048576)(c0:ax Cl)(hc:c0.length<=1048577):
  l9 Lib.cR (λ(_:aU) (_ _:az) (_:aq) (_ _ _:az) (_:aq) (_:az) (y:aU)=>ah y) Lib.cR (rc l) 0 x.id x.k x.fe x.fr x.sta x.got x.age (rc c0)=ah (rc (c0++l.filter λy=>decide (y.id>x.id))):=by
 refine Cd l (λy=>decide (y.id>x.id)) (λm (i:aE) acc=>l9 Lib.cR (λ(_:aU) (_ _:az) (_:aq) (_ _ _:az) (_:aq) (_:az) (y:aU)=>ah y) m (rc l) (i:az) x.id x.k x.fe x.fr x.sta x.got x.age (rc acc)) (λacc=>ah (rc acc)) c0
  (λm i acc h ha hp=> ?_) (λm i acc h hp=> ?_) (λm acc=> ?_) Lib.cR (cJ (by omega))
 ·have mL:decide (l[i].id>x.id)=true:=hp;simp only[l9,r9,eI,Lib.dE,h,aR,Lib.cT,aM,ay,Lib.eD,rc0 h,rc1 h,rc2 h,rc3 h,rc4 h,rc5 h,rc6 h,bM,bU,mL,oV,bQ,Lib.dm h (by omega:l.length<=9223372036854775807),Lib.cF (n:=acc.length+1) (b:=72) (by omega) (by omega)];unfold Lib.rc;rw[c8];rfl
 ·have mL:decide (l[i].id>x.id)=false:=hp;simp only[l9,r9,eI,Lib.dE,h,aR,Lib.cT,aM,ay,aC,Lib.eD,rc0 h,bU,mL,Lib.dm h (by omega:l.length<=9223372036854775807)]
 ·simp only[l9,r9,eI,Lib.dE,bk,bg,aC]
theorem ok(l:ax Cl)(x:Cl)(hl:l.length<=1048576):c (rc l) x.id x.k x.fe x.fr x.sta x.got x.age=ai/\v (rc l) x.id x.k x.fe x.fr x.sta x.got x.age=rc (jn l x):=by
 refine out _ _ _ _ _ _ _ _ ?_;unfold vo b
 have key:=Cd l (λy=>decide (y.id<x.id))
  (λm (i:aE) acc=>l3 Lib.cR (λ(Mc:aU) (_ Q1:az) (Gs:aq) (Yk y15 Yl:az) (RI:aq) (Q2:az) (KE:aU)=>bif(cy (bT KE+bT (aw (aN [Ck.i ao,Ck.s,Ck.i ao,Ck.i ao,Ck.i ao,Ck.s,Ck.i ao] 1) 0 [CV.i ao Q1,CV.s Gs,CV.i ao Yk,CV.i ao y15,CV.i ao Yl,CV.s RI,CV.i ao Q2])) 72)then(l9 Lib.cR (λ(_:aU) (_ _:az) (_:aq) (_ _ _:az) (_:aq) (_:az) (y39:aU)=>ah y39) Lib.cR Mc 0 Q1 Gs Yk y15 Yl RI Q2 (KE++aw (aN [Ck.i ao,Ck.s,Ck.i ao,Ck.i ao,Ck.i ao,Ck.s,Ck.i ao] 1) 0 [CV.i ao Q1,CV.s Gs,CV.i ao Yk,CV.i ao y15,CV.i ao Yl,CV.s RI,CV.i ao Q2]))else(aj)) m (rc l) (i:az) x.id x.k x.fe x.fr x.sta x.got x.age (rc acc))
  (λacc=>bif cy (acc.length+1) 72 then l9 Lib.cR (λ(_:aU) (_ _:az) (_:aq) (_ _ _:az) (_:aq) (_:az) (y:aU)=>ah y) Lib.cR (rc l) 0 x.id x.k x.fe x.fr x.sta x.got x.age (rc (acc++[x]))else aj) []
  (λm i acc h ha hp=>by
   have mL:decide (l[i].id<x.id)=true:=hp;have ha:acc.length<=i:=by simpa using ha
   simp only[l3,r3,eI,Lib.dE,h,aR,Lib.cT,aM,ay,Lib.eD,rc0 h,rc1 h,rc2 h,rc3 h,rc4 h,rc5 h,rc6 h,bM,bU,mL,oV,bQ,Lib.dm h (by omega:l.length<=9223372036854775807),Lib.cF (n:=acc.length+1) (b:=72) (by omega) (by omega)];unfold Lib.rc;rw[c8];rfl)
  (λm i acc h hp=>by have mL:decide (l[i].id<x.id)=false:=hp;simp only[l3,r3,eI,Lib.dE,h,aR,Lib.cT,aM,ay,aC,Lib.eD,rc0 h,bU,mL,Lib.dm h (by omega:l.length<=9223372036854775807)])
  (λm acc=>by simp only[l3,r3,eI,Lib.dE,bk,bg,aC,oV,bQ];unfold Lib.rc;rw[c8];rfl) Lib.cR (cJ (by omega))
 refine key.trans ?_;have hf:=dO (λy:Cl=>decide (y.id<x.id)) l;rw[fF,Lib.cF (by omega) (by omega),ay,tail l x hl _ (by simp;omega)];unfold jn;rw[cf]
end s9

namespace Gx
theorem eq(k:aq)(s l:az)(b:aq)(n:az):Rr.v k s l b n=Gx.v k s l b n:=Iw.eq k s l b n
end Gx

namespace U9
open Lib (rr rs re rf rc Px Cl Fe En el)
open eQ (without)
open iV (eh)
open s8 (kY)
open nr (ll)
open iX (ZR Ag put N7 RD HZ mJ jn BB yO)
open ik (fK)
open sL (gh qk)
open U11 (res JA Qn)
theorem find(k0 k1:az->aq->az->az->az->aU->aU->aU->aU->az->aU->aU->az->az->az->az->az->az->az->aU->aU->aU->aU->aU->aU->aA R)(cl:ax Cl)(hl:cl.length<=1048576)(id:az)(key:aq)(z4 z6:az)(q7 q8 q9 GF:aU)(Q8:az)(PW:aU)(Q9 Ym Gt Yn KF KG KH:az)(PX PY PZ P0 P3 P4:aU):
  (mJ cl id=ak->l5 Lib.cR k0 k1 Lib.cR id key z4 0 z6 q7 q8 q9 GF Q8 PW (rc cl) Q9 Ym Gt Yn KF KG KH PX PY PZ P0 P3 P4=k1 id key z4 (cl.length:az) z6 q7 q8 q9 GF Q8 PW (rc cl) Q9 Ym Gt Yn KF KG KH PX PY PZ P0 P3 P4)/\
  (mJ cl id=ai->∃j:az,l5 Lib.cR k0 k1 Lib.cR id key z4 0 z6 q7 q8 q9 GF Q8 PW (rc cl) Q9 Ym Gt Yn KF KG KH PX PY PZ P0 P3 P4=k0 id key 1 j z6 q7 q8 q9 GF Q8 PW (rc cl) Q9 KF KG KH KF KG KH PX PY PZ P0 P3 P4):=by
 have go:∀(d i n:aE),cl.length-i<=d->i<=cl.length->d<n->
   (((cl.drop i).any λx=>decide (x.id=id))=ak->l5 Lib.cR k0 k1 n id key z4 (i:az) z6 q7 q8 q9 GF Q8 PW (rc cl) Q9 Ym Gt Yn KF KG KH PX PY PZ P0 P3 P4=k1 id key z4 (cl.length:az) z6 q7 q8 q9 GF Q8 PW (rc cl) Q9 Ym Gt Yn KF KG KH PX PY PZ P0 P3 P4)/\
   (((cl.drop i).any λx=>decide (x.id=id))=ai->∃j:az,l5 Lib.cR k0 k1 n id key z4 (i:az) z6 q7 q8 q9 GF Q8 PW (rc cl) Q9 Ym Gt Yn KF KG KH PX PY PZ P0 P3 P4=k0 id key 1 j z6 q7 q8 q9 GF Q8 PW (rc cl) Q9 KF KG KH KF KG KH PX PY PZ P0 P3 P4):=by
  intro d
  induction d with
  |zero=>
   intro i n h1 h2 h3;obtain⟨n,rfl⟩:∃n',n=n'+1:=⟨n-1,by omega⟩
   have:i=cl.length:=by omega
   subst this;rw[dg];exact⟨λ_=>by simp only[l5,r5,eI,Lib.dE,bk,bg,aC],λh=>by cases h⟩
  |succ d ih=>
   intro i n h1 h2 h3;obtain⟨n,rfl⟩:∃n',n=n'+1:=⟨n-1,by omega⟩
   by_cases hi:i<cl.length
   ·rw[dA hi,List.any_cons];obtain⟨g1,g2⟩:=ih (i+1) n (by omega) hi (by omega);have e:l5 Lib.cR k0 k1 (n+1) id key z4 (i:az) z6 q7 q8 q9 GF Q8 PW (rc cl) Q9 Ym Gt Yn KF KG KH PX PY PZ P0 P3 P4=bif decide (cl[i].id=id)then k0 id key 1 (i:az) z6 q7 q8 q9 GF Q8 PW (rc cl) Q9 KF KG KH KF KG KH PX PY PZ P0 P3 P4 else l5 Lib.cR k0 k1 n id key z4 ((i+1:aE):az) z6 q7 q8 q9 GF Q8 PW (rc cl) Q9 Ym Gt Yn KF KG KH PX PY PZ P0 P3 P4:=by simp only[l5,r5,eI,Lib.dE,hi,aR,Lib.cT,aM,ay,Lib.eD,rc0 hi,bU,Lib.dm hi (by omega:cl.length<=9223372036854775807)]
    rw[e];cases hc:decide (cl[i].id=id)with
    |true=>exact⟨λh=>by simp at h,λ_=>⟨i,rfl⟩⟩
    |false=>rw[kQ,aC];exact⟨g1,g2⟩
   ·have:i=cl.length:=by omega
    subst this;rw[dg];exact⟨λ_=>by simp only[l5,r5,eI,Lib.dE,bk,bg,aC],λh=>by cases h⟩
 have:=go cl.length 0 Lib.cR (by omega) (bm _) (cJ (by omega));rw[fA]at this;exact this
def sc(key:aq):ax Fe->aE->az×aq->az×aq
 |[],_,s=>s|x::r,i,s=>sc key r (i+1) (bif HZ key x then((i:az)+1,x.t)else s)
theorem scan(k0:aq->aW->az->az->aU->aU->aU->aU->az->aU->aU->az->az->az->az->az->az->az->az->aq->az->az->az->aq->az->aU->aU->aU->aU->aU->aU->aA R)(fe:ax Fe)(hl:fe.length<=1048576)(key:aq)(h0:aW)(z84:az)(q85 q86 q87 q88:aU)(z89:az)(q91:aU)(z92 z93 z94 z95 z96 z97 z98 z99:az)(UQ:aq)(Vj Vk Vl:az)(UE UF UG UH UI UJ:aU):
  TE Lib.cR k0 Lib.cR key h0 0 z84 q85 q86 q87 q88 z89 (rf fe) q91 z92 z93 z94 z95 z96 z97 z98 z99 UQ 0 Vj Vk ({data:= #[]}) Vl UE UF UG UH UI UJ=k0 key h0 (fe.length:az) z84 q85 q86 q87 q88 z89 (rf fe) q91 z92 z93 z94 z95 z96 z97 z98 z99 UQ (sc key fe 0 (0,⟨#[]⟩)).1 Vj Vk (sc key fe 0 (0,⟨#[]⟩)).2 Vl UE UF UG UH UI UJ:=by
 have go:∀(d i n:aE) (s:az×aq),fe.length-i<=d->i<=fe.length->d<n->
   TE Lib.cR k0 n key h0 (i:az) z84 q85 q86 q87 q88 z89 (rf fe) q91 z92 z93 z94 z95 z96 z97 z98 z99 UQ s.1 Vj Vk s.2 Vl UE UF UG UH UI UJ=k0 key h0 (fe.length:az) z84 q85 q86 q87 q88 z89 (rf fe) q91 z92 z93 z94 z95 z96 z97 z98 z99 UQ (sc key (fe.drop i) i s).1 Vj Vk (sc key (fe.drop i) i s).2 Vl UE UF UG UH UI UJ:=by
  intro d
  induction d with
  |zero=>
   intro i n s h1 h2 h3;obtain⟨n,rfl⟩:∃n',n=n'+1:=⟨n-1,by omega⟩
   have:i=fe.length:=by omega
   subst this;simp only[TE,r22,eu,Lib.dE,bk,bg,aC,dg,sc]
  |succ d ih=>
   intro i n s h1 h2 h3;obtain⟨n,rfl⟩:∃n',n=n'+1:=⟨n-1,by omega⟩
   by_cases hi:i<fe.length
   ·rw[dA hi];unfold sc;rw[<-ih (i+1) n _ (by omega) hi (by omega)];have w:=Lib.dm hi (by omega:fe.length<=9223372036854775807);have w2:((i+1:aE):az)=(i:az)+1:=by omega
    simp only[TE,r22,eu,Lib.dE,hi,aR,Lib.cT,aM,ay,Lib.eD,Iq hi,Ma hi,BJ hi,bM,bU,Lib.fB,w,fc hi];unfold HZ;cases decide (fe[i].k=key)<;>cases decide (fe[i].sta=1)<;>simp only[qT,Ey,aM,CN,ay,aC,w2]
   ·have:i=fe.length:=by omega
    subst this;simp only[TE,r22,eu,Lib.dE,bk,bg,aC,dg,sc]
 have:=go fe.length 0 Lib.cR (0,⟨#[]⟩) (by omega) (bm _) (cJ (by omega));rw[fA]at this;exact this
theorem UU(key:aq):∀(l:ax Fe) (i:aE) (s:az×aq),(∀x∈l,HZ key x=ak)->sc key l i s=s:=by
 intro l;induction l with
 |nil=>intro i s _;rfl
 |cons x l ih=>intro i s h;unfold sc;rw[h x (by simp),aC];exact ih _ _ λy hy=>h y (by simp[hy])
theorem aa4{fe:ax Fe}(hp:fe.Pairwise λf g=>ll g f=ak)(key:aq):sc key fe 0 (0,⟨#[]⟩)=match RD fe key with|some j=>((j:az)+1,(el fe j).t)|none=>(0,⟨#[]⟩):=by
 have go:∀(l:ax Fe) (i:aE),l.Pairwise (λf g=>ll g f=ak)->sc key l i (0,⟨#[]⟩)=match l.findIdx? (HZ key)with|some j=>(((i+j:aE):az)+1,(el l j).t)|none=>(0,⟨#[]⟩):=by
  intro l;induction l with
  |nil=>intro i _;rfl
  |cons x l ih=>
   intro i h;rw[lE]at h;unfold sc;rw[List.findIdx?_cons];cases hq:HZ key x with
   |true=>
    have hn:∀y∈l,HZ key y=false:=λy hy=>by
     have h2:=h.1 y hy;unfold HZ at hq⊢;unfold ll at h2;simp only[aF,ba]at hq;rw[hq.1,hq.2]at h2;simp only[Gv,gi]at h2⊢;rcases h2 with h2|h2
     ·exact .inr h2
     ·rcases h2 with h2|h2
      ·exact cw trivial h2
      ·exact .inl h2
    rw[ay,UU key l _ _ hn];rfl
   |false=>
    rw[aC,ih (i+1) h.2];cases l.findIdx? (HZ key)with
    |none=>rfl
    |some j=>simp only[cU,if_false,fS,show i+1+j=i+(j+1)by omega];rfl
 have:=go fe 0 hp;unfold RD;rw[this];cases fe.findIdx? (HZ key)with
 |none=>rfl
 |some j=>dsimp only;rw[bO]
theorem ok(p:Px)(id:az)(key:aq)(hp:p.Fit 1048576)(hkz:key.size<=140737488355328):c p.now (re p.en) (rs p.w) (rs p.m) (rr p.s) p.a (rf p.fe) (rc p.cl) p.hits id key=ai/\v p.now (re p.en) (rs p.w) (rs p.m) (rr p.s) p.a (rf p.fe) (rc p.cl) p.hits id key=res (iX.ask p id key):=by
 have h1:=jM.ok p hp;have h2:=s8.ok p hp;have nT:=hp.cl;have Oq:=hp.fe;have hen:=hp.en;have Rz:iK.oc p.s:=⟨hp.s.1,hp.s.2.1⟩
 refine out _ _ _ _ _ _ _ _ _ _ _ ?_;unfold vo b iX.ask;simp only[Lib.lt,h1.1,h1.2,h2.1,h2.2,ay];cases b7:kY p with
 |false=>rfl
 |true=>
 have ho:gh p:=qk.1 b7;rw[a9,aC,bG,show jV.v id 1 9=decide (1<=id/\id<=9)from eW.eH _ _ _];cases Hz:decide (1<=id/\id<=9)with
 |false=>rfl
 |true=>
 rw[a9,aC,bG,show EK.v key=eh key from eW.eH _ _ _];cases hko:eh key with
 |false=>rfl
 |true=>
 have Bw:=j7.po hko;rw[a9,aC,bG,eI];have hc6:=ho.cll;by_cases h6:p.cl.length=6
 ·rw[aG (show(p.cl.length:az)≥6 by omega),ay,aK (show¬p.cl.length<6 by omega),Ey];rfl
 rw[aK (show¬(p.cl.length:az)≥6 by omega),aC,aG (show p.cl.length<6 by omega),qT];cases hhi:mJ p.cl id with
 |true=>obtain⟨j,hj⟩:=(find _ _ p.cl nT id key 0 p.now (re p.en) (rs p.w) (rs p.m) (rr p.s) p.a (rf p.fe) p.hits 0 0 0 p.now p.a p.hits (re p.en) (rs p.w) (rs p.m) (rr p.s) (rf p.fe) (rc p.cl)).2 hhi;refine hj.trans ?_;rfl
 |false=>
 refine((find _ _ p.cl nT id key 0 p.now (re p.en) (rs p.w) (rs p.m) (rr p.s) p.a (rf p.fe) p.hits 0 0 0 p.now p.a p.hits (re p.en) (rs p.w) (rs p.m) (rr p.s) (rf p.fe) (rc p.cl)).1 hhi).trans ?_;rw[bS,ay];have h4:=I_.ok p.now p.en (rs p.w) (rs p.m) (rr p.s) p.a (rf p.fe) (rc p.cl) p.hits key hen;have h7:=j7.ok p.w p.m p.s p.a key hp.w hp.m Rz (by omega);have h8:=fG.ok p.s p.a key Rz (by omega);have h9:=Gy.ok p.w p.m p.s p.a key hp.w hp.m Rz;have h10:=Bm.ok p.en key (by omega);have FH:=λx:Cl=>s9.ok p.cl x nT;have asS:=ho.hits;have sA:=ho.fl;have vK:=aa4 ho.ap key;have JI:cy (p.fe.length+1) 56=true:=Lib.cF (by omega) (by omega);have di:∀key:aq,bT (aw (aN [Ck.s,Ck.s,Ck.i ao,Ck.i ao,Ck.i ao] 1) 0 [CV.s key,CV.s {data:= #[]},CV.i ao 1,CV.i ao 0,CV.i ao 0])=1:=λ_=>rfl;have Ry:(el (p.fe++[BB key]) p.fe.length).t=⟨#[]⟩:=by rw[fc (by simp),List.getElem_append_right (by omega)];simp[BB]
 rw[h4.1,h4.2,ay];cases he:N7 p.en key with
 |some e=>
  have ZY:e∈p.en:=oF he;obtain⟨i,hi,hie⟩:=dr ZY;dsimp only[I_.res];rw[ay,<-Gx.eq,show Rr.v e.k e.st e.li e.bo p.now=yO e p.now from rfl];cases ZQ:yO e p.now with
  |true=>
   have hw:bE (p.now-e.st)=p.now-e.st:=by have:=JA (p:=p) hi ho;rwa[fc hi,hie]at this
   have hj:=FH ⟨id,key,0,e.st,2,e.bo,p.now-e.st⟩;dsimp only at hj;rw[ay,h7.1,h7.2,ay,ay,hw,hj.1,hj.2,ay,ay];unfold res ZR;cases hh:decide (p.hits<1000000000)with
   |true=>rw[ba]at hh;rw[ay,cX (by omega) (by omega)];rfl
   |false=>rfl
  |false=>
   rw[aC,aC];refine(scan _ p.fe Oq key ai p.now (re p.en) (rs p.w) (rs p.m) (rr p.s) p.a (rc p.cl) p.hits 0 0 0 p.now p.a p.hits id key 0 1 0 (re p.en) (rs p.w) (rs p.m) (rr p.s) (rf p.fe) (rc p.cl)).trans ?_;rw[vK];unfold Ag;cases hoi:RD p.fe key with
   |none=>
    dsimp only;by_cases ZC:p.fe.length=20
    ·rw[aK (show¬p.fe.length<20 by omega)];simp only[aR,ay,eu,aG (show(p.fe.length:az)≥20 by omega)];rfl
    ·rw[aG (show p.fe.length<20 by omega)];have hj:=FH ⟨id,key,(p.fe.length:az)+1,0,1,⟨#[]⟩,0⟩;dsimp only at hj;have hlen:((p.fe.length+1:aE):az)=(p.fe.length:az)+1:=by omega
     simp only[aR,ay,aC,eu,aK (show¬(p.fe.length:az)≥20 by omega),di,JI,h10.1,h10.2,h9.1,h9.2,h8.1,h8.2,Qn,bX,bQ,hlen,hj.1,hj.2];unfold res put;rw[Ry];rfl
   |some j=>dsimp only;have hj:=FH ⟨id,key,(j:az)+1,0,1,(el p.fe j).t,0⟩;dsimp only at hj;simp only[aK (show¬(j:az)+1=0 by omega),ay,aC,h10.1,h10.2,h9.1,h9.2,h8.1,h8.2,hj.1,hj.2];rfl
 |none=>
  dsimp only[I_.res];rw[aC];refine(scan _ p.fe Oq key ak p.now (re p.en) (rs p.w) (rs p.m) (rr p.s) p.a (rc p.cl) p.hits 0 0 0 p.now p.a p.hits id key 0 1 0 (re p.en) (rs p.w) (rs p.m) (rr p.s) (rf p.fe) (rc p.cl)).trans ?_;rw[vK];unfold Ag;cases hoi:RD p.fe key with
  |none=>
   dsimp only;by_cases ZC:p.fe.length=20
   ·rw[aK (show¬p.fe.length<20 by omega)];simp only[aR,ay,eu,aG (show(p.fe.length:az)≥20 by omega)];rfl
   ·rw[aG (show p.fe.length<20 by omega)];have hj:=FH ⟨id,key,(p.fe.length:az)+1,0,1,⟨#[]⟩,0⟩;dsimp only at hj;have hlen:((p.fe.length+1:aE):az)=(p.fe.length:az)+1:=by omega
    simp only[aR,ay,aC,eu,aK (show¬(p.fe.length:az)≥20 by omega),di,JI,h8.1,h8.2,Qn,bX,bQ,hlen,hj.1,hj.2];unfold res put;rw[Ry];rfl
  |some j=>dsimp only;have hj:=FH ⟨id,key,(j:az)+1,0,1,(el p.fe j).t,0⟩;dsimp only at hj;simp only[aK (show¬(j:az)+1=0 by omega),ay,aC,h8.1,h8.2,hj.1,hj.2];rfl
end U9

namespace sR
open Lib (rr rs re rf rc Px el)
open s8 (kY)
theorem ok(p:Px)(f:az)(hp:p.Fit 1048576):c p.now (re p.en) (rs p.w) (rs p.m) (rr p.s) p.a (rf p.fe) (rc p.cl) p.hits f=ai/\v p.now (re p.en) (rs p.w) (rs p.m) (rr p.s) p.a (rf p.fe) (rc p.cl) p.hits f=jA.yS p f:=by
 have h:=s8.ok p hp;have hf:=hp.fe;refine out _ _ _ _ _ _ _ _ _ _ ?_;unfold vo b jA.yS;rw[h.1,h.2,ay,eu,cX (x:=(p.fe.length:az)-1) (by omega) (by omega),show jV.v f 0 ((p.fe.length:az)-1)=decide (0<=f/\f<=(p.fe.length:az)-1)from eW.eH _ _ _];cases kY p with
 |false=>rfl
 |true=>
  cases hd:decide (0<=f/\f<=(p.fe.length:az)-1)with
  |false=>rfl
  |true=>
   have:=cg hd;obtain⟨n,rfl⟩:∃n:aE,f=(n:az):=⟨f.toNat,by omega⟩
   have hn:n<p.fe.length:=by omega
   simp only[ay,bG,Lib.cT,Lib.dE,hn,aR,aM,Lib.eD,BJ hn,bU]
end sR

end Go.FG
