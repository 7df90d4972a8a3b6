/- What the functions come to, in plain numbers, texts and lists; last the law itself. No condition but those that each states. -/
import Derived.Test.YtjejmgffiilmlaaGreatPProxies
set_option linter.unusedVariables false
set_option linter.unusedSimpArgs false
set_option maxRecDepth 100000
open Array renaming toList_extract->g7,toList_append->uw,length_toList->dm
open BitVec renaming toNat->dM,and->iY,ofInt->b9,xor->lF
open Bool renaming true->ai,false->ak,and_self->aM,true_and->bj,not_true->aY,not_false->bV,and_eq_true->aJ,not_eq_true'->dz,not_eq_false'->lY,false_or->nG,true_or->zi,or_eq_true->dB,or_eq_false_iff->ij,and_assoc->mZ,and_true->o0,false_eq_true->dg,cond_eq_ite->cZ,false_and->pr
open ByteArray renaming toList->aL,data_extract->fW,data_append->lN,size_extract->wG,size_append->dv,empty_append->oQ,append_assoc->B1,empty->F2,append_empty->pK,size->gj
open Classical renaming byContradiction->zj
open Go.ByteArray renaming toList_eq->jQ
open Go.IntKind renaming i64->ao,wrap->bI,u32->ed,u8->bg
open Go.Op renaming bytesLess->b_
open Int renaming natCast_zero->Tp,toNat->aZ,neg->iT,tmod->bL,tdiv->cS,tmod_eq_emod_of_nonneg->sa,tdiv_eq_ediv_of_nonneg->gF,pow_succ->tK,toNat_natCast->dU,tmod_nonneg->Uf,tdiv_nonneg->Ue,le_trans->yQ,tdiv_le_self->Tq,emod_nonneg->r_,emod_lt_of_pos->wH,le_refl->Gm
open List renaming filter_eq_self->gK,length_filter_le->eH,length->bP,getElem_mem->bC,length_nil->jo,length_pos_iff->KD,length_singleton->bB,length_take->er,take_length->g8,nil_append->gi,range->cJ,drop_zero->gd,map_append->c8,length_append->bW,getD_eq_getElem?_getD->cL,getElem?_eq_getElem->eF,set->ax,length_map->bN,map_congr_left->NS,mem_filter->dt,append_assoc->ch,pairwise_append->tL,filter_sublist->jm,singleton_append->tM,pairwise_cons->pQ,mem_append->a_,mem_singleton->aX,filter_cons_of_pos->dn,filter_cons_of_neg->cj,length_cons->cY,beq->db,take_succ_eq_append_getElem->dx,filter_append->jG,all_eq_true->bu,mem_or_eq_of_mem_set->je,take_set_of_le->KE,drop_set_of_lt->KC,drop_eq_nil_of_le->mq,append_nil->dN,getElem_of_mem->dy,take->ny,drop->Au,take_append_of_le_length->B4,take_of_length_le->gH,getElem_take->pN,pairwise_map->jV,mem_map->cO,filter_map->rR,map_map->lH,filter_congr->pM,pairwise_iff_getElem->dj,mem_range->oS,getD->jH,length_set->cm,length_drop->eL,drop_eq_getElem_cons->dG,cons_append->Ar,extract_eq_take_drop->gQ,drop_drop->uF,drop_append_of_le_length->zJ,drop_of_length_le->Gn,find?_eq_none->Uh,find?_eq_some_iff_getElem->zl,takeWhile_cons_of_pos->pA,takeWhile_cons_of_neg->pz,filter_filter->Mx,foldl_cons->Ci,drop_length->dh,foldl_nil->Ui,mem_of_find?_eq_some->F8,ext_getElem->kS,getElem_set_self->jX,set_getElem_self->eR,set_set->oU,nodup_iff_pairwise_ne->oT,mem_cons_self->dA,mem_append_left->bU,length_tail->zm,mem_append_right->bK,replicate->uI,any_eq_false->XZ,findIdx?_eq_none_iff->C4,findIdx?_eq_some_iff_getElem->wI,pairwise_singleton->F9,find?_cons_of_neg->IE,foldl_append->NQ,nodup_append->dY,nodup_cons->jY,mem_cons->cz,mem_of_mem_drop->kT,map_drop->X2,getElem_set->PA,getElem?_append_left->dr,getElem?_append_right->cX
open List.Pairwise renaming nil->gM
open List.cons renaming inj->ru
open Nat renaming lt_irrefl->bm,sub_zero->Cm,le_refl->cu,zero_le->bz,add_sub_cancel->NT,zero_add->bT,le_succ->jc,le_trans->c6,le_succ_of_le->mF,lt_or_ge->ql
open Option renaming some->ah,none->aj,map_some->h_
open Option.some renaming inj->aD
open Prod.mk renaming inj->bS
open UInt8 renaming lt_iff_toNat_lt->rT,ofNat->aw,toNat_ofNat'->KS
open _root_ renaming List->ay,ByteArray->aq,Bool->aW,Nat->aE,Int->az,decide_true->aQ,cond_true->au,cond_false->aA,decide_false->bh,Option->aC,decide_eq_true->aF,decide_eq_false->aK,of_decide_eq_true->cg,decide_eq_decide->cf,eq_comm->GY,UInt8->F_,decide_eq_true_eq->bc,absurd->cE,decide_eq_false_iff_not->gO,if_pos->bw,if_neg->bH,congrArg->kX,of_decide_eq_false->nX,bne_self_eq_false->fC
namespace Go.FG
open Lib (EJ all_congr jO ox AH jZ eZ zR fQ gP qM pG Dm La vT me tl cK lu rc0 rc1 rc2 rc3 rc4 rc5 rc6 eO J0 ZI ZJ gq dO dC N7 FH gg TS dZ oZ jD BQ wz od Ad H6 nE BW wB qh qi sR nZ c5 NM wd0 wd1 wd2 qo t_ ua ub H_ Gh Xm yK TT TU)
variable {R:Type}
namespace eT
def has(l:ay aq)(k:aq):aW:=l.any λx=>decide (x=k)
def without(l:ay aq)(k:aq):ay aq:=l.filter λx=> !decide (x=k)
theorem gm{l:ay aq}{k:aq}:has l k=ai↔k∈l:=by unfold has;simp
theorem kV{l:ay aq}{k:aq}:has l k=ak↔k∉l:=by rw[<-gm];cases has l k<;>simp
theorem vh{l:ay aq}{k:aq}(h:has l k=ak):without l k=l:=by unfold without;rw[gK];intro x hx;have:=kV.1 h;simp;intro e;subst e;exact this hx
theorem gY{l:ay aq}{k:aq}:(without l k).length<=l.length:=eH ..
theorem oM{l:ay aq}{k:aq}(h:has l k=ai):(without l k).length<l.length:=by unfold without;refine List.length_filter_lt_length_iff_exists.2 ⟨k,gm.1 h,by simp⟩
theorem ok(l:ay aq)(k:aq)(hl:l.length<=4294967296):c (Lib.rs l) k=ai/\v (Lib.rs l) k=has l k:=by
 refine out _ _ ?_;unfold vo b
 have:=AH l (λx=>decide (x=k)) (λm (i:aE)=>l2 Lib.cW (λ(_:aU) (_:aq) (y6:aW) (_:az)=>ah y6) (λ(_:aU) (_:aq) (_:aW) (_:az)=>ah ak) m (Lib.rs l) k ak (i:az)) (ah ai) (ah ak)
  (λm i h hp=>by simp only[l2,r2,dZ,Lib.du,h,aQ,Lib.cQ,aM,au,Lib.eD,TS h,bQ,Lib.fB,hp])
  (λm i h hp=>by simp only[l2,r2,dZ,Lib.du,h,aQ,Lib.cQ,aM,au,Lib.eD,TS h,bQ,Lib.fB,hp,aA,Lib.di h (by omega:l.length<=9223372036854775807)])
  (λm=>by simp only[l2,r2,dZ,Lib.du,bm,bh,aA]) Lib.cW (cK (by omega))
 refine this.trans ?_;unfold has;cases l.any λx=>decide (x=k)<;>rfl
end eT

namespace uR
theorem ok(l:aU)(hl:l.length<=4294967296):c l=ai/\v l=l:=by refine out l ?_;unfold vo b;rw[show bP (aN [Ck.i ao] 0)+l.length=l.length by simp[aN],Lib.cC (by omega) (by omega)];rfl
end uR

namespace iO
open Lib (rr)
def nh(s:ay (ay az)):Prop:=s.length<=1048576/\∀q∈s,q.length<=1048576
theorem run(N:aE)(K0:aU->az->az->az->az->aC R)(K1:aU->az->az->az->az->aU->aC R)(s:ay (ay az))(z a:az)(hf:nh s)(m:aE)(hm:s.length+1<m)(kr:aU->aC R)
  (h0:s=[]->K0 (rr s) 0 0 z a=kr []) (h1:K1 (rr s) s.length s.length z a (rr s)=kr (rr s)):l3 N K0 K1 m (rr s) (s.length:az) 0 z a=kr (rr s):=by
 obtain⟨m,rfl⟩:∃m',m=m'+1:=⟨m-1,by omega⟩
 have hci:∀i (h:i<s.length),uR.c (Lib.ri s[i])=ai/\uR.v (Lib.ri s[i])=Lib.ri s[i]:=λi h=>uR.ok _ (by rw[Lib.fU];have:=hf.2 _ (bC h);omega);by_cases hs:s=[]
 ·subst hs;simp only[l3,r3,jo,Tp,Int.lt_irrefl,bh,aA];exact h0 rfl
 ·have hp:0<s.length:=KD.2 hs;have key:=me (R:=R) s.length (λm i (x:aU)=>tW N K0 K1 m (rr s) (s.length:az) (i:az) z a x) (λi=>rr (s.take i)) (kr (rr s)) (λm i h=>by
   have hl:=hf.1;simp only[tW,z_,Lib.du,h,aQ,au,Lib.cQ,bj,gg,Lib.eD,FH h,iD,(hci i h).1,(hci i h).2,oZ,bB];rw[Lib.cC (by rw[er];omega) (by rw[er];omega),au,Lib.di h (by omega)];have:=od (λq=>[CV.l 3 (Lib.ri q)]) s i h;unfold rr;rw[<-this]) (λm=>by
   simp only[tW,z_,Lib.du,bm,bh,aA,g8];exact h1) m 1 hp (by omega)
  simp only[l3,r3,aF (show(0:az)<(s.length:az)by omega),au,aM,gg,show decide ((0:az)<=0)=ai from rfl];have e:=hci 0 hp;have e0:=FH (l:=s) hp;simp only[show aZ 0=0 from rfl,e0,iD,e.1,e.2,au,oZ,gi];rw[show bJ (0+1)=((1:aE):az)from rfl];refine Eq.trans ?_ key;have:=od (λq=>[CV.l 3 (Lib.ri q)]) s 0 hp;unfold rr;rw[show(0+1)=1 from rfl]at this;rw[<-this];rfl
theorem ok(s:ay (ay az))(a:az)(hf:nh s):c (rr s) a=ai/\v (rr s) a=(rr s,a):=by refine out _ _ ?_;unfold vo b;rw[gg];exact run Lib.cW (λ_ _ _ _ y=>ah ([],y)) (λ_ _ _ _ vm Is=>ah (Is,vm)) s 0 a hf Lib.cW (cK (by have:=hf.1;omega)) (λx=>ah (x,a)) (λ_=>rfl) rfl
end iO

namespace e7
open Lib (rr)
def Ly(n:az):aW:=decide (0<=n/\n<=15)
def rE(q:ay az):aW:=decide (q.length=16)&&q.all Ly
def jU(s:ay (ay az))(a:az):aW:=decide (s.length=3)&&(decide (0<=a/\a<=63)&&s.all rE)
theorem eM(n a b:az):kg.v n a b=decide (a<=n/\n<=b):=by
 unfold kg.v;by_cases h1:a<=n
 ·rw[aF (show n≥a from h1),au];by_cases h2:n<=b<;>simp[h1,h2]
 ·rw[aK (show¬n≥a from h1),aA];simp[h1]
theorem ok(s:ay (ay az))(a:az)(hf:iO.nh s):c (rr s) a=ai/\v (rr s) a=jU s a:=by
 refine out _ _ ?_;unfold vo b jU;rw[gg];by_cases h3:¬s.length=3
 ·rw[show((s.length:az) !=3)=ai by simp;omega,aK h3];rfl
 have h3:s.length=3:=Decidable.not_not.1 h3;rw[show((s.length:az) !=3)=ak by simp;omega,aF h3,aA,eM];cases h4:decide (0<=a/\a<=63)with
 |false=>rfl
 |true=>
  rw[aY,aA,bj,bj];have inner:∀i (h:i<s.length) (K0 K1:aW->az->az->aU->az->aC aW) (kf kt:aC aW) (h0:∀j:az,K0 ak i j (rr s) a=kf) (h1:∀j:az,K1 ak i j (rr s) a=kt),l9 Lib.cW K0 K1 Lib.cW ak (i:az) 0 (rr s) a=bif(s[i]).all Ly then kt else kf:=λi h K0 K1 kf kt h0 h1=>
   ox (s[i]) Ly (λm (j:aE)=>l9 Lib.cW K0 K1 m ak (i:az) (j:az) (rr s) a) kf kt
    (λm j hj hp=>by have hl:=hf.2 _ (bC h);unfold Ly at hp;simp only[l9,r9,gg,Lib.du,h,aQ,Lib.cQ,aM,au,Lib.eD,FH h,iD,Lib.fU,hj,N7 hj,bZ,eM,hp,aY,aA,Lib.di hj (by omega:s[i].length<=9223372036854775807)])
    (λm j hj hp=>by unfold Ly at hp;simp only[l9,r9,gg,Lib.du,h,aQ,Lib.cQ,aM,au,Lib.eD,FH h,iD,Lib.fU,hj,N7 hj,bZ,eM,hp,bV,h0])
    (λm=>by simp only[l9,r9,gg,Lib.du,h,aQ,Lib.cQ,aM,au,Lib.eD,FH h,iD,Lib.fU,bm,bh,aA,h1]) Lib.cW (cK (by have:=hf.2 _ (bC h);omega))
  have key:=ox s rE (λm (i:aE)=>l4 Lib.cW (λ(DR:aW) (_:az) (_:aU) (_:az)=>ah DR) (λ(_:aW) (_:az) (_:aU) (_:az)=>ah ai) m ak (i:az) (rr s) a) (ah ak) (ah ai)
   (λm i h hp=>by unfold rE at hp;rw[aJ]at hp;have hl:=cg hp.1;simp only[l4,r4,gg,Lib.du,h,aQ,Lib.cQ,aM,au,Lib.eD,FH h,iD,Lib.fU,hl,show(((16:aE):az) !=16)=ak from rfl,aA];rw[inner i h _ _ _ _ (λ_=>rfl) (λ_=>rfl),hp.2,au,Lib.di h (by omega)])
   (λm i h hp=>by
    unfold rE at hp;by_cases hl:s[i].length=16
    ·rw[aF hl,bj]at hp;simp only[l4,r4,gg,Lib.du,h,aQ,Lib.cQ,aM,au,Lib.eD,FH h,iD,Lib.fU,hl,show(((16:aE):az) !=16)=ak from rfl,aA];rw[inner i h _ _ _ _ (λ_=>rfl) (λ_=>rfl),hp,aA]
    ·simp only[l4,r4,gg,Lib.du,h,aQ,Lib.cQ,aM,au,Lib.eD,FH h,iD,Lib.fU,show((s[i].length:az) !=16)=ai by simp;omega])
   (λm=>by simp only[l4,r4,gg,Lib.du,bm,bh,aA]) Lib.cW (cK (by omega))
  refine key.trans ?_;cases s.all rE<;>rfl
end e7

namespace jk
open Lib (rr rs)
open eT (has without gm kV)
def eh(k:aq):aW:=decide (1<=(k.size:az)/\(k.size:az)<=30)
def JF(l:ay aq)(i:aE):aW:=eh (l.getD i ⟨#[]⟩)&& !has (l.take i) (l.getD i ⟨#[]⟩)
def mO(l:ay aq):aW:=(cJ l.length).all (JF l)
def pj(w m:ay aq)(s:ay (ay az))(a:az):aW:=mO (w++m)&&(decide (w.length<=2)&&(decide (m.length<=4)&&e7.jU s a))
theorem iw(k:aq):Gu.v k=eh k:=e7.eM _ _ _
theorem wC(l:ay aq)(i:aE):eu (Lib.rs l) (aZ 0) i=Lib.rs (l.take i):=by unfold eu Lib.rs;rw[show aZ 0=0 from rfl,gd,Cm,List.map_take]
theorem ok(w m:ay aq)(s:ay (ay az))(a:az)(hw:w.length<=1048576)(hm:m.length<=1048576)(hf:iO.nh s):c (rs w) (rs m) (rr s) a=ai/\v (rs w) (rs m) (rr s) a=pj w m s a:=by
 refine out _ _ _ _ ?_;have h2:=e7.ok s a hf;unfold vo b;have r1:cB (bP (aN [Ck.s] 0)+bP (rs w)) 16=true:=Lib.cC (by simp[aN,dZ];omega) (by simp[aN,dZ];omega);have r2:cB (bP (aN [Ck.s] 0++rs w)+bP (rs m)) 16=true:=Lib.cC (by simp[aN,dZ];omega) (by simp[aN,dZ];omega);have e:aN [Ck.s] 0++rs w++rs m=rs (w++m):=by rw[show aN [Ck.s] 0++rs w=rs w from rfl];unfold Lib.rs;rw[c8]
 rw[r1,r2,au,au,e];have hl:(w++m).length<=2097152:=by rw[bW];omega
 have g9:∀i,i<(w++m).length->eT.c (rs ((w++m).take i)) ((w++m).getD i ⟨#[]⟩)=ai/\eT.v (rs ((w++m).take i)) ((w++m).getD i ⟨#[]⟩)=has ((w++m).take i) ((w++m).getD i ⟨#[]⟩):=λi hi=>eT.ok _ _ (by rw[er];omega);have hk:∀i (hi:i<(w++m).length),bQ (ar (rs (w++m)) i 0)=(w++m).getD i ⟨#[]⟩:=λi hi=>by rw[TS hi,show(w++m).getD i ⟨#[]⟩=(w++m)[i]by rw[cL,eF hi];rfl];rfl
 generalize hL:w++m=L at hl g9 hk
 have key:=jO (JF L) L.length (λn (i:aE)=>l3 Lib.cW (λ(y7:aW) (_:az) (_ _ _:aU) (_:az) (_:aU)=>ah y7) (λ(_:aW) (_:az) (Tc FV FW:aU) (DR:az) (_:aU)=>bif(decide ((↑(bP Tc):az)<=2))then(bif(decide ((↑(bP FV):az)<=4))then(bif(e7.c FW DR)then(ah (e7.v FW DR))else(aj))else(ah ak))else(ah ak)) n ak (i:az) (rs w) (rs m) (rr s) a (rs L)) (ah ak) (ah (decide (w.length<=2)&&(decide (m.length<=4)&&e7.jU s a)))
  (λn i hi hp=>by
   unfold JF at hp;rw[aJ,dz]at hp;have b1:iS 0 (i:az) (L.length:az)=true:=by simp[iS];omega
   simp only[l3,r3,dZ,Lib.du,hi,aQ,Lib.cQ,aM,au,Lib.eD,hk i hi,iw,hp.1,aY,aA,b1,wC,(g9 i hi).1,(g9 i hi).2,hp.2,Lib.di hi (by omega:L.length<=9223372036854775807)])
  (λn i hi hp=>by
   have b1:iS 0 (i:az) (L.length:az)=true:=by simp[iS];omega
   unfold JF at hp;cases h1:eh (L.getD i ⟨#[]⟩)with
   |false=>simp only[l3,r3,dZ,Lib.du,hi,aQ,Lib.cQ,aM,au,Lib.eD,hk i hi,iw,h1,bV]
   |true=>rw[h1,bj,lY]at hp;simp only[l3,r3,dZ,Lib.du,hi,aQ,Lib.cQ,aM,au,Lib.eD,hk i hi,iw,h1,aY,aA,b1,wC,(g9 i hi).1,(g9 i hi).2,hp])
  (λn=>by simp only[l3,r3,dZ,Lib.du,bm,bh,aA,h2.1,h2.2,au];rw[show decide ((w.length:az)<=2)=decide (w.length<=2)by rw[cf];omega,show decide ((m.length:az)<=4)=decide (m.length<=4)by rw[cf];omega];cases decide (w.length<=2)<;>cases decide (m.length<=4)<;>rfl) Lib.cW (cK (by omega))
 refine key.trans ?_;unfold pj mO;rw[hL];cases (cJ L.length).all (JF L)<;>rfl
end jk

namespace sd
open Lib (rr rs)
open eT (has)
theorem ok(w m:ay aq)(s:aU)(a:az)(k:aq)(hw:w.length<=1048576)(hm:m.length<=1048576):c (rs w) (rs m) s a k=ai/\v (rs w) (rs m) s a k=(has w k||has m k):=by have h1:=eT.ok w k (by omega);have h2:=eT.ok m k (by omega);exact out _ _ _ _ _ (by unfold vo b;rw[h1.1,h1.2,h2.1,h2.2,au,au];cases has w k<;>rfl)
end sd

namespace m9
open Lib (rr rs re el qo t_ ua ub En)
open eT (has)
open jk (pj)
def tU(e:En):aW:=iI.v e.k e.st e.li e.bo
def Gb(en:ay En)(w m:ay aq)(i:aE):aW:=
 tU (el en i)&&((decide (i=0)||Go.Op.bytesLess (aL (el en (i-1)).k) (aL (el en i).k))&&(has w (el en i).k||has m (el en i).k))
def K4(en:ay En)(w m:ay aq)(s:ay (ay az))(a:az):aW:=(cJ en.length).all (Gb en w m)&&(pj w m s a&&decide (w.length+m.length=en.length))
theorem ok(i0:az)(en:ay En)(w m:ay aq)(s:ay (ay az))(a:az)(r6 r7:aU)(i8:az)(he:en.length<=1048576)(hw:w.length<=1048576)(hm:m.length<=1048576)(hf:iO.nh s):
  c i0 (re en) (rs w) (rs m) (rr s) a r6 r7 i8=ai/\v i0 (re en) (rs w) (rs m) (rr s) a r6 r7 i8=K4 en w m s a:=by
 refine out _ _ _ _ _ _ _ _ _ ?_;have h1:=jk.ok w m s a hw hm hf;have h2:=λk=>sd.ok w m (rr s) a k hw hm;unfold vo b
 have key:=jO (Gb en w m) en.length (λn (i:aE)=>l2 Lib.cW (λ(yL:aW) (_ _:az) (_ _ _ _:aU) (_:az) (_ _:aU) (_:az)=>ah yL) (λ(_:aW) (_ _:az) (TV TW Iv TX:aU) (TY:az) (_ _:aU) (_:az)=>bif(jk.c TW Iv TX TY)then(bif(jk.v TW Iv TX TY)then(ah (decide ((↑(bP TV):az)=bJ ((↑(bP TW):az)+(↑(bP Iv):az)))))else(ah ak))else(aj)) n ak (i:az) i0 (re en) (rs w) (rs m) (rr s) a r6 r7 i8) (ah ak) (ah (pj w m s a&&decide (w.length+m.length=en.length)))
  (λn i hi hp=>by
   unfold Gb tU at hp;rw[aJ,aJ]at hp;obtain⟨p1,p2,p3⟩:=hp;by_cases hz:i=0
   ·subst hz;simp only[l2,r2,dO,Lib.du,hi,aQ,Lib.cQ,aM,au,Lib.eD,qo hi,t_ hi,ua hi,ub hi,bQ,bZ,p1,aY,aA,aK (show¬(((0:aE):az)>0)by omega),(h2 _).1,(h2 _).2,p3,Lib.di hi (by omega:en.length<=9223372036854775807)]
   ·rw[aK hz,nG]at p2;have jL:i-1<en.length:=by omega
    simp only[l2,r2,dO,Lib.du,hi,aQ,Lib.cQ,aM,au,Lib.eD,qo hi,t_ hi,ua hi,ub hi,bQ,bZ,p1,aY,aA,aF (show(i:az)>0 by omega),lu (show 0<i by omega) (by omega),jL,qo jL,p2,(h2 _).1,(h2 _).2,p3,Lib.di hi (by omega:en.length<=9223372036854775807)])
  (λn i hi hp=>by
   unfold Gb tU at hp;cases p1:iI.v (el en i).k (el en i).st (el en i).li (el en i).bo with
   |false=>simp only[l2,r2,dO,Lib.du,hi,aQ,Lib.cQ,aM,au,Lib.eD,qo hi,t_ hi,ua hi,ub hi,bQ,bZ,p1,bV]
   |true=>
    rw[p1,bj]at hp;by_cases hz:i=0
    ·subst hz;rw[aF rfl,zi,bj]at hp;simp only[l2,r2,dO,Lib.du,hi,aQ,Lib.cQ,aM,au,Lib.eD,qo hi,t_ hi,ua hi,ub hi,bQ,bZ,p1,aY,bV,aA,aK (show¬(((0:aE):az)>0)by omega),(h2 _).1,(h2 _).2,hp]
    ·rw[aK hz,nG]at hp;have jL:i-1<en.length:=by omega
     cases p2:b_ (aL (el en (i-1)).k) (aL (el en i).k)with
     |false=>simp only[l2,r2,dO,Lib.du,hi,aQ,Lib.cQ,aM,au,Lib.eD,qo hi,t_ hi,ua hi,ub hi,bQ,bZ,p1,aY,bV,aA,aF (show(i:az)>0 by omega),lu (show 0<i by omega) (by omega),jL,qo jL,p2]
     |true=>rw[p2,bj]at hp;simp only[l2,r2,dO,Lib.du,hi,aQ,Lib.cQ,aM,au,Lib.eD,qo hi,t_ hi,ua hi,ub hi,bQ,bZ,p1,aY,bV,aA,aF (show(i:az)>0 by omega),lu (show 0<i by omega) (by omega),jL,qo jL,p2,(h2 _).1,(h2 _).2,hp])
  (λn=>by simp only[l2,r2,dO,Lib.du,bm,bh,aA,h1.1,h1.2,au,dZ];rw[c5 (x:=(w.length:az)+(m.length:az)) (by omega) (by omega),show decide ((en.length:az)=(w.length:az)+(m.length:az))=decide (w.length+m.length=en.length)by rw[cf];omega];cases pj w m s a<;>rfl) Lib.cW (cK (by omega))
 refine key.trans ?_;unfold K4;cases (cJ en.length).all (Gb en w m)<;>rfl
end m9

namespace m_
open Lib (rf el H_ Gh Xm yK TT TU Fe)
open jk (eh)
def nt(now:az)(f:Fe):aW:=eh f.k&&(decide ((f.t.size:az)<=400)&&(decide (1<=f.sta/\f.sta<=3)&&(decide (0<=f.li/\f.li<=999999)&&decide (0<=f.st/\f.st<=now))))
def lT(f g:Fe):aW:=decide (f.sta=1)&&(decide (g.sta=1)&&decide (f.k=g.k))
def apart(fe:ay Fe)(i:aE):aW:=(cJ i).all λj=> !lT (el fe i) (el fe j)
theorem eM(n a b:az):kg.v n a b=decide (a<=n/\n<=b):=e7.eM n a b
theorem ok(i0:az)(r1 r2 r3 r4:aU)(i5:az)(fe:ay Fe)(r7:aU)(i8:az)(i:aE)(hi:i<fe.length)(hf:fe.length<=1048576):
  c i0 r1 r2 r3 r4 i5 (rf fe) r7 i8 (i:az)=ai/\v i0 r1 r2 r3 r4 i5 (rf fe) r7 i8 (i:az)=(nt i0 (el fe i)&&apart fe i):=by
 refine out _ _ _ _ _ _ _ _ _ _ ?_;unfold vo b
 have key:=jO (λj=> !lT (el fe i) (el fe j)) i (λn (j:aE)=>l5 Lib.cW (λ(_:az) (FW:aW) (_ _:az) (_ _ _ _:aU) (_:az) (_ _:aU) (_:az) (_ _:aq) (_ _ _:az)=>ah FW) (λ(_:az) (_:aW) (_ _:az) (_ _ _ _:aU) (_:az) (_ _:aU) (_:az) (_ _:aq) (_ _ _:az)=>ah ai) n (i:az) ak (j:az) i0 r1 r2 r3 r4 i5 (rf fe) r7 i8 (el fe i).k (el fe i).t (el fe i).sta (el fe i).li (el fe i).st) (ah ak) (ah ai)
  (λn j hj hp=>by
   have js:j<fe.length:=by omega
   rw[dz]at hp;unfold lT at hp;have e:decide ((el fe j).k=(el fe i).k)=decide ((el fe i).k=(el fe j).k):=by rw[cf];exact GY
   simp only[l5,r5,Lib.du,hj,aQ,Lib.cQ,aM,au,Lib.eD,dC,js,H_ js,yK js,bQ,bZ,Lib.fB,e,Lib.di hj (by omega:i<=9223372036854775807)];revert hp;cases decide ((el fe i).k=(el fe j).k)<;>cases decide ((el fe j).sta=1)<;>cases decide ((el fe i).sta=1)<;>intro hp<;>first|rfl|cases hp)
  (λn j hj hp=>by
   have js:j<fe.length:=by omega
   rw[lY]at hp;unfold lT at hp;rw[aJ,aJ]at hp;have e:decide ((el fe j).k=(el fe i).k)=decide ((el fe i).k=(el fe j).k):=by rw[cf];exact GY
   simp only[l5,r5,Lib.du,hj,aQ,Lib.cQ,aM,au,Lib.eD,dC,js,H_ js,yK js,bQ,bZ,Lib.fB,e,hp.1,hp.2.1,hp.2.2])
  (λn=>by simp only[l5,r5,Lib.du,bm,bh,aA]) Lib.cW (cK (by omega))
 simp only[dC,Lib.du,hi,aQ,Lib.cQ,aM,au,Lib.eD,H_ hi,Gh hi,Xm hi,TT hi,TU hi,bQ,bZ,eM,jk.iw];rw[show l5 Lib.cW _ _ Lib.cW (i:az) ak 0 i0 r1 r2 r3 r4 i5 (rf fe) r7 i8 (el fe i).k (el fe i).t (el fe i).sta (el fe i).li (el fe i).st=_ from key];unfold nt apart;rw[show decide (((el fe i).t.size:az)>400)= !decide (((el fe i).t.size:az)<=400)by rw[<-decide_not,cf];omega];cases eh (el fe i).k<;>cases decide (((el fe i).t.size:az)<=400)<;>cases decide (1<=(el fe i).sta/\(el fe i).sta<=3)<;>cases decide (0<=(el fe i).li/\(el fe i).li<=999999)<;>cases decide (0<=(el fe i).st/\(el fe i).st<=i0)<;>cases (cJ i).all (λj=> !lT (el fe i) (el fe j))<;>rfl
end m_

namespace mo
open Lib (rr rs re rf rc el En Fe Cl Px NM wc1 wc2 wc3 wc4 wc5 wc6)
open jk (eh)
open m9 (K4)
open m_ (nt apart eM)
def Ga(now:az)(nf:aE)(cl:ay Cl)(i:aE):aW:=
 decide (1<=(el cl i).id/\(el cl i).id<=9)&&((decide (i=0)||decide ((el cl (i-1)).id<(el cl i).id))&&(eh (el cl i).k&&(decide (1<=(el cl i).sta/\(el cl i).sta<=3)&&(decide (0<=(el cl i).fe/\(el cl i).fe<=(nf:az))&&(decide (((el cl i).got.size:az)<=400)&&(decide (0<=(el cl i).fr/\(el cl i).fr<=now)&&decide (0<=(el cl i).age)))))))
def iy(p:Px):aW:=
 decide (1<=p.now/\p.now<=1000000000)&&(K4 p.en p.w p.m p.s p.a&&(decide (p.fe.length<=20)&&(decide (p.cl.length<=6)&&(decide (0<=p.hits/\p.hits<=1000000000)&&((cJ p.fe.length).all (λi=>nt p.now (el p.fe i)&&apart p.fe i)&&(cJ p.cl.length).all (Ga p.now p.fe.length p.cl))))))
theorem step(N:aE)(g k0 k1:aW->az->az->aU->aU->aU->aU->az->aU->aU->az->aC R)(i0:az)(q1 q2 q3 q4:aU)(i5:az)(fe:ay Fe)(cl:ay Cl)(i8:az)(i:aE)(hi:i<cl.length)(hl:cl.length<=1048576):
  r9 N g k0 k1 ak (i:az) i0 q1 q2 q3 q4 i5 (rf fe) (rc cl) i8=bif Ga i0 fe.length cl i then g ak ((i+1:aE):az) i0 q1 q2 q3 q4 i5 (rf fe) (rc cl) i8 else k0 ak (i:az) i0 q1 q2 q3 q4 i5 (rf fe) (rc cl) i8:=by
 unfold Ga;have e1:decide (((el cl i).got.size:az)>400)= !decide (((el cl i).got.size:az)<=400):=by rw[<-decide_not,cf];omega
 have e2:decide ((el cl i).age<0)= !decide (0<=(el cl i).age):=by rw[<-decide_not,cf];omega
 by_cases hz:i=0
 ·subst hz;simp only[r9,eO,dC,Lib.du,hi,aQ,Lib.cQ,aM,au,Lib.eD,NM hi,wc1 hi,wc2 hi,wc3 hi,wc4 hi,wc5 hi,wc6 hi,bQ,bZ,eM,jk.iw,aK (show¬(((0:aE):az)>0)by omega),aA,e1,e2,Lib.di hi (by omega:cl.length<=9223372036854775807),zi,bj];cases decide (1<=(el cl 0).id/\(el cl 0).id<=9)<;>cases eh (el cl 0).k<;>cases decide (1<=(el cl 0).sta/\(el cl 0).sta<=3)<;>cases decide (0<=(el cl 0).fe/\(el cl 0).fe<=(fe.length:az))<;>cases decide (((el cl 0).got.size:az)<=400)<;>cases decide (0<=(el cl 0).fr/\(el cl 0).fr<=i0)<;>cases decide (0<=(el cl 0).age)<;>rfl
 ·have jL:i-1<cl.length:=by omega
  have e3:decide ((el cl (i-1)).id≥(el cl i).id)= !decide ((el cl (i-1)).id<(el cl i).id):=by rw[<-decide_not,cf];omega
  simp only[r9,eO,dC,Lib.du,hi,aQ,Lib.cQ,aM,au,Lib.eD,NM hi,wc1 hi,wc2 hi,wc3 hi,wc4 hi,wc5 hi,wc6 hi,bQ,bZ,eM,jk.iw,aF (show(i:az)>0 by omega),lu (show 0<i by omega) (by omega),jL,NM jL,aA,e1,e2,e3,Lib.di hi (by omega:cl.length<=9223372036854775807),aK hz,nG];cases decide (1<=(el cl i).id/\(el cl i).id<=9)<;>cases decide ((el cl (i-1)).id<(el cl i).id)<;>cases eh (el cl i).k<;>cases decide (1<=(el cl i).sta/\(el cl i).sta<=3)<;>cases decide (0<=(el cl i).fe/\(el cl i).fe<=(fe.length:az))<;>cases decide (((el cl i).got.size:az)<=400)<;>cases decide (0<=(el cl i).fr/\(el cl i).fr<=i0)<;>cases decide (0<=(el cl i).age)<;>rfl
theorem ok(p:Px)(hp:p.Fit 1048576):c p.now (re p.en) (rs p.w) (rs p.m) (rr p.s) p.a (rf p.fe) (rc p.cl) p.hits=ai/\v p.now (re p.en) (rs p.w) (rs p.m) (rr p.s) p.a (rf p.fe) (rc p.cl) p.hits=iy p:=by
 refine out _ _ _ _ _ _ _ _ _ ?_;have h1:=m9.ok p.now p.en p.w p.m p.s p.a (rf p.fe) (rc p.cl) p.hits hp.en hp.w hp.m ⟨hp.s.1,hp.s.2.1⟩;have Lk:=hp.fe;have nM:=hp.cl;unfold vo b;have h2:=λi hi=>m_.ok p.now (re p.en) (rs p.w) (rs p.m) (rr p.s) p.a p.fe (rc p.cl) p.hits i hi Lk
 have kc:=λ(n:aE) (hn:p.cl.length<n)=>jO (Ga p.now p.fe.length p.cl) p.cl.length (λn (i:aE)=>l9 Lib.cW (λ(Tg:aW) (_ _:az) (_ _ _ _:aU) (_:az) (_ _:aU) (_:az)=>ah Tg) (λ(_:aW) (_ _:az) (_ _ _ _:aU) (_:az) (_ _:aU) (_:az)=>ah ai) n ak (i:az) p.now (re p.en) (rs p.w) (rs p.m) (rr p.s) p.a (rf p.fe) (rc p.cl) p.hits) (ah ak) (ah ai)
  (λn i hi hq=>by simp only[l9];rw[step _ _ _ _ _ _ _ _ _ _ _ _ _ i hi nM,hq];rfl)
  (λn i hi hq=>by simp only[l9];rw[step _ _ _ _ _ _ _ _ _ _ _ _ _ i hi nM,hq];rfl)
  (λn=>by simp only[l9,r9,eO,Lib.du,bm,bh,aA]) n hn
 have kf:=jO (λi=>nt p.now (el p.fe i)&&apart p.fe i) p.fe.length (λn (i:aE)=>l4 Lib.cW (λ(yL:aW) (_ _:az) (_ _ _ _:aU) (_:az) (_ _:aU) (_:az)=>ah yL) (λ(Iu:aW) (_ y24:az) (TV TW Iv TX:aU) (TY:az) (TZ T0:aU) (Te:az)=>l9 Lib.cW (λ(Tg:aW) (_ _:az) (_ _ _ _:aU) (_:az) (_ _:aU) (_:az)=>ah Tg) (λ(_:aW) (_ _:az) (_ _ _ _:aU) (_:az) (_ _:aU) (_:az)=>ah ai) Lib.cW Iu 0 y24 TV TW Iv TX TY TZ T0 Te) n ak (i:az) p.now (re p.en) (rs p.w) (rs p.m) (rr p.s) p.a (rf p.fe) (rc p.cl) p.hits) (ah ak) (ah ((cJ p.cl.length).all (Ga p.now p.fe.length p.cl)))
  (λn i hi hq=>by simp only[l4,r4,dC,Lib.du,hi,aQ,au,(h2 i hi).1,(h2 i hi).2,hq,aY,aA,Lib.di hi (by omega:p.fe.length<=9223372036854775807)])
  (λn i hi hq=>by simp only[l4,r4,dC,Lib.du,hi,aQ,au,(h2 i hi).1,(h2 i hi).2,hq,bV])
  (λn=>by simp only[l4,r4,dC,Lib.du,bm,bh,aA];refine(kc Lib.cW (cK (by omega))).trans ?_;cases (cJ p.cl.length).all (Ga p.now p.fe.length p.cl)<;>rfl) Lib.cW (cK (by omega))
 rw[eM,eM,h1.1,h1.2,au,dC,eO];rw[show l4 Lib.cW _ _ Lib.cW ak 0 p.now (re p.en) (rs p.w) (rs p.m) (rr p.s) p.a (rf p.fe) (rc p.cl) p.hits=_ from kf];unfold iy;rw[show decide ((p.fe.length:az)>20)= !decide (p.fe.length<=20)by rw[<-decide_not,cf];omega,show decide ((p.cl.length:az)>6)= !decide (p.cl.length<=6)by rw[<-decide_not,cf];omega];cases decide (1<=p.now/\p.now<=1000000000)<;>cases K4 p.en p.w p.m p.s p.a<;>cases decide (p.fe.length<=20)<;>cases decide (p.cl.length<=6)<;>cases decide (0<=p.hits/\p.hits<=1000000000)<;>cases (cJ p.fe.length).all (λi=>nt p.now (el p.fe i)&&apart p.fe i)<;>cases (cJ p.cl.length).all (Ga p.now p.fe.length p.cl)<;>rfl
end mo

namespace fI
theorem n_:∀x:ay F_,b_ x x=ak
 |[]=>rfl
 |a::x=>by
  have h:¬a<a:=by rw[rT];omega
  simp[b_,n_ x,h]
theorem pX:∀x y z:ay F_,b_ x y=ai->b_ y z=ai->b_ x z=ai
 |_,[],_,h,_=>by cases ‹ay F_›<;>simp[b_]at h
 |_,_::_,[],_,h=>by simp[b_]at h
 |[],_::_,_::_,_,_=>by simp[b_]
 |a::x,b::y,c::z,h1,h2=>by
  simp only[b_,dB,aJ,bc,beq_iff_eq]at h1 h2⊢;simp only[rT]at h1 h2⊢;rcases h1 with h1|⟨rfl,h1⟩
  ·rcases h2 with h2|⟨rfl,h2⟩
   ·left;omega
   ·left;exact h1
  ·rcases h2 with h2|⟨rfl,h2⟩
   ·left;exact h2
   ·right;exact⟨rfl,pX x y z h1 h2⟩
theorem PX:∀x y:ay F_,b_ x y=ak->x≠y->b_ y x=ai
 |[],[],_,h=>cE rfl h
 |[],_::_,h,_=>by simp[b_]at h
 |_::_,[],_,_=>by simp[b_]
 |a::x,b::y,h,hn=>by
  simp only[b_,ij,Bool.and_eq_false_iff,gO,beq_eq_false_iff_ne]at h;simp only[b_,dB,aJ,bc,beq_iff_eq];obtain⟨h1,h2⟩:=h;by_cases he:a=b
  ·subst he;right;refine⟨rfl,PX x y ?_ (λe=>hn (by rw[e]))⟩
   rcases h2 with h2|h2
   ·exact cE rfl h2
   ·exact h2
  ·left;rw[rT]at h1⊢;have:a.toNat≠b.toNat:=λe=>he (UInt8.toNat_inj.1 e);omega
def key(y:ay CV):ay F_:=aL (bQ (y.getD 0 (.b ak)))
def lt(y z:ay CV):Prop:=b_ (key y) (key z)=ai
def cr(y:ay CV):ay CV:=[CV.s (bQ (y.getD 0 (.b ak))),CV.i ao (bZ (y.getD 1 (.b ak))),CV.i ao (bZ (y.getD 2 (.b ak))),CV.s (bQ (y.getD 3 (.b ak)))]
def nw(k:aq)(s l:az)(b:aq):ay CV:=[CV.s k,CV.i ao s,CV.i ao l,CV.s b]
def pl(k:aq)(y:ay CV):aW:=b_ (key y) (aL k)
def pg(k:aq)(y:ay CV):aW:= !(b_ (key y) (aL k)||List.beq (key y) (aL k))
def val(r:aU)(k:aq)(s l:az)(b:aq):aU:=(r.filter (pl k)).map cr++[nw k s l b]++(r.filter (pg k)).map cr
theorem ok(r:aU)(k:aq)(s l:az)(b0:aq)(hl:r.length<=1048576):c r k s l b0=ai/\v r k s l b0=val r k s l b0:=by
 refine out r k s l b0 ?_;unfold vo;have hw:∀i,i<r.length->bJ ((i:az)+1)=((i+1:aE):az):=λi h=>Lib.di h (by omega)
 have aqg:=λ(afm:aU) (ha:afm.length<=2000000)=>vT (pg k) cr r 2000000
  (λm (i:aE) (acc:aU)=>l9 Lib.cW (λ(_:aU) (_:az) (_:aq) (_ _:az) (_:aq) (Iv:aU)=>ah Iv) m r (i:az) k s l b0 acc) (λacc=>ah acc)
  (λm i acc h h2 hp=>by
   have mA:(!(b_ (aL (bQ (ar r i 0))) (aL k)||List.beq (aL (bQ (ar r i 0))) (aL k)))=true:=by rw[Lib.dF h];exact hp
   simp only[l9,r9,Lib.du,h,aQ,Lib.cQ,aM,au,Lib.eD,mA,hw i h,Lib.j8,bB,Lib.cC (n:=acc.length+1) (b:=48) (by omega) (by omega)];have e:[CV.s (bQ (ar r i 0)),CV.i ao (bZ (ar r i 1)),CV.i ao (bZ (ar r i (1+1))),CV.s (bQ (ar r i (1+1+1)))]=cr r[i]:=by rw[Lib.dF h,Lib.dF h,Lib.dF h,Lib.dF h];rfl
   rw[e])
  (λm i acc h h2 hp=>by
   have mA:(!(b_ (aL (bQ (ar r i 0))) (aL k)||List.beq (aL (bQ (ar r i 0))) (aL k)))=false:=by rw[Lib.dF h];exact hp
   simp only[l9,r9,Lib.du,h,aQ,Lib.cQ,aM,au,Lib.eD,mA,aA,hw i h])
  (λm acc=>by simp only[l9,r9,Lib.du,bm,bh,aA]) Lib.cW afm ha (cK (by omega))
 have gz:=vT (pl k) cr r 0
  (λm (i:aE) (acc:aU)=>l3 Lib.cW (λ(y7:aU) (_:az) (y9:aq) (Ml yL:az) (N9:aq) (Gi:aU)=>bif(cB (bP Gi+bP (ax (aN [Ck.s,Ck.i ao,Ck.i ao,Ck.s] 1) 0 [CV.s y9,CV.i ao Ml,CV.i ao yL,CV.s N9])) 48)then(l9 Lib.cW (λ(_:aU) (_:az) (_:aq) (_ _:az) (_:aq) (Iv:aU)=>ah Iv) Lib.cW y7 0 y9 Ml yL N9 (Gi++ax (aN [Ck.s,Ck.i ao,Ck.i ao,Ck.s] 1) 0 [CV.s y9,CV.i ao Ml,CV.i ao yL,CV.s N9]))else(aj)) m r (i:az) k s l b0 acc)
  (λacc=>bif(cB (bP acc+1) 48)then(l9 Lib.cW (λ(_:aU) (_:az) (_:aq) (_ _:az) (_:aq) (Iv:aU)=>ah Iv) Lib.cW r 0 k s l b0 (acc++[nw k s l b0]))else aj)
  (λm i acc h h2 hp=>by
   have mA:b_ (aL (bQ (ar r i 0))) (aL k)=true:=by rw[Lib.dF h];exact hp
   simp only[l3,r3,Lib.du,h,aQ,Lib.cQ,aM,au,Lib.eD,mA,hw i h,Lib.j8,bB,Lib.cC (n:=acc.length+1) (b:=48) (by omega) (by omega)];have e:[CV.s (bQ (ar r i 0)),CV.i ao (bZ (ar r i 1)),CV.i ao (bZ (ar r i (1+1))),CV.s (bQ (ar r i (1+1+1)))]=cr r[i]:=by rw[Lib.dF h,Lib.dF h,Lib.dF h,Lib.dF h];rfl
   rw[e])
  (λm i acc h h2 hp=>by
   have mA:b_ (aL (bQ (ar r i 0))) (aL k)=false:=by rw[Lib.dF h];exact hp
   simp only[l3,r3,Lib.du,h,aQ,Lib.cQ,aM,au,Lib.eD,mA,aA,hw i h])
  (λm acc=>by simp only[l3,r3,Lib.du,bm,bh,aA];rfl) Lib.cW [] (cu _) (cK (by omega))
 unfold b;refine gz.trans ?_;have hf:((r.filter (pl k)).map cr).length<=r.length:=by rw[bN];exact eH _ _
 rw[gi,Lib.cC (by omega) (by omega),au];exact aqg _ (by rw[bW,bB];omega)
def Or(r:aU):Prop:=r.Pairwise lt/\∀y∈r,cr y=y
theorem Fl{r:aU}(h:∀y∈r,cr y=y)(q:ay CV->aW):(r.filter q).map cr=r.filter q:=by have:=NS (l:=r.filter q) (f:=cr) (g:=λz=>z) (λy hy=>h y (dt.1 hy).1);rw[this];exact List.map_id _
theorem v9{r:aU}(h:Or r)(k:aq)(s l:az)(b:aq):Or (val r k s l b)/\(val r k s l b).length<=r.length+1:=by
 unfold val;rw[Fl h.2,Fl h.2];have hg:∀y,pg k y=ai->b_ (aL k) (key y)=true:=by intro y hy;unfold pg at hy;simp only[dz,ij]at hy;refine PX _ _ hy.1 (λe=> ?_);have:=hy.2;rw[e,Lib.pV]at this;cases this
 refine⟨⟨?_, ?_⟩, ?_⟩
 ·rw[ch,tL];refine⟨h.1.sublist jm, ?_, ?_⟩
  ·rw[tM,pQ];exact⟨λy hy=>hg y (dt.1 hy).2,h.1.sublist jm⟩
  ·intro y hy z hz;have h1:b_ (key y) (aL k)=true:=(dt.1 hy).2;rcases a_.1 hz with q|q
   ·rw[aX.1 q];exact h1
   ·exact pX _ _ _ h1 (hg z (dt.1 q).2)
 ·intro y hy;rcases a_.1 hy with q|q
  ·rcases a_.1 q with q|q
   ·exact h.2 y (dt.1 q).1
   ·rw[aX.1 q];rfl
  ·exact h.2 y (dt.1 q).1
 ·have hlen:∀r:aU,(r.filter (pl k)).length+(r.filter (pg k)).length<=r.length:=by
   intro r;induction r with
   |nil=>exact cu _
   |cons y r ih=>
    have hx:pl k y=ai->pg k y=false:=by intro h;unfold pl at h;unfold pg;rw[h];rfl
    cases h1:pl k y with
    |true=>rw[dn h1,cj (by rw[hx h1];simp)];simp only[cY];omega
    |false=>
     rw[cj (by simp[h1])];cases h2:pg k y with
     |true=>rw[dn h2];simp only[cY];omega
     |false=>rw[cj (by simp[h2])];simp only[cY];omega
  have:=hlen r;simp only[bW,bB];omega
end fI

namespace rO
def p(s:aU)(k:aq)(i:aE):aW:=db (aL (bQ (ar s i 0))) (aL k)
theorem ok(d:aU)(n:aq)(hl:d.length<=4294967296):c d n=ai/\v d n=Lib.fi (p d n) d.length 0:=by
 refine out d n ?_;unfold vo b;refine pG (p d n) d.length (λm (i:aE)=>l2 Lib.cW (λ(_:aU) (_:aq) (y7 _ _:az)=>ah y7) (λ(_:aU) (_:aq) (_ _ _:az)=>ah (-1)) m d n 0 (d.length:az) (i:az)) ah (λm i hi hp=> ?_) (λm i hi hp=> ?_) (λm=> ?_) Lib.cW (cK (by omega))
 ·unfold p at hp;simp only[l2,r2,Lib.du,Lib.cQ,Lib.eD,hi,aQ,aM,au,zr.v,hp]
 ·unfold p at hp;simp only[l2,r2,Lib.du,Lib.cQ,Lib.eD,hi,aQ,aM,au,zr.v,hp,aA,Lib.di hi (by omega:d.length<=9223372036854775807)]
 ·simp only[l2,r2,Lib.du,bm,bh,aA]
end rO

namespace ov
def cn(y:ay CV):aW:=match y with|[.s _, .i .i64 _, .i .i64 _, .s _]=>ai|_=>ak
def cr(y:ay CV):ay CV:=[CV.s (bQ (y.getD 0 (.b ak))),CV.i ao (bZ (y.getD 1 (.b ak))),CV.i ao (bZ (y.getD 2 (.b ak))),CV.s (bQ (y.getD 3 (.b ak)))]
theorem GS{y:ay CV}(h:cn y=ai):cr y=y:=by
 unfold cn at h;split at h
 ·rfl
 ·cases h
theorem u9{y:ay CV}(h:cn y=ai):y.length=4:=by rw[<-GS h];rfl
def keep(d:aq)(y:ay CV):aW:= !List.beq (aL (bQ (y.getD 0 (.b ak)))) (aL d)
theorem ng(d:aq){s:aU}{i:aE}(h:i<s.length):(s.take (i+1)).filter (keep d)=(s.take i).filter (keep d)++(bif keep d s[i]then [s[i]]else []):=by rw[dx h,jG];cases hk:keep d s[i]<;>simp[hk]
theorem run(N:aE)(s0:aU)(d:aq)(hc:s0.all cn=ai)(hn:s0.length<=9223372036854775807)(K:aq->az->az->aU->aC R)(kr:aU->aC R)
  (hK:∀(j:aE) x,x.length=s0.length->j<=s0.length->K d j s0.length x=kr (x.take j)) (m j i:aE) (x:aU)
  (hi:j<i/\i<=s0.length/\x.length=s0.length/\(∀y∈x,y.length=4)/\x.take j=(s0.take i).filter (keep d)/\x.drop i=s0.drop i) (hm:s0.length-i<m):
  l5 N K m d j i x=kr (s0.filter (keep d)):=by
 have hca:∀y∈s0,cn y=true:=bu.1 hc
 refine Lib.gn (λm (s:aE×aE×aU)=>l5 N K m d s.1 s.2.1 s.2.2) (λs=>s0.length-s.2.1)
  (λs=>s.1<s.2.1/\s.2.1<=s0.length/\s.2.2.length=s0.length/\(∀y∈s.2.2,y.length=4)/\s.2.2.take s.1=(s0.take s.2.1).filter (keep d)/\s.2.2.drop s.2.1=s0.drop s.2.1)
  (λ_=>kr (s0.filter (keep d))) (λm s hs=> ?_) m (j,i,x) hi hm
 obtain⟨j,i,x⟩:=s;obtain⟨h1,h2,h3,h4,h5,h6⟩:=hs;simp only at h1 h2 h3 h4 h5 h6⊢;by_cases g9:i<s0.length
 ·right;have Ca:i<x.length:=by omega
  have U0:j<x.length:=by omega
  have hx:x[i]=s0[i]:=by have e1:=Lib.iu Ca;have e2:=Lib.iu g9;rw[h6,e2]at e1;exact(ru e1).1.symm
  have hd:x.drop (i+1)=s0.drop (i+1):=by have e1:=Lib.iu Ca;have e2:=Lib.iu g9;rw[h6,e2]at e1;exact(ru e1).2.symm
  have hcn:=hca _ (bC g9);have hf:=ng d g9;cases hk:keep d s0[i]with
  |true=>
   refine⟨(j+1,i+1,x.set j s0[i]), ?_,by simp only;omega,trivial, ?_⟩
   ·rw[hk,au,<-h5]at hf;refine⟨by simp only;omega,by simp only;omega,by simpa using h3, ?_, ?_, ?_⟩
    ·intro y hy;rcases je hy with h|h
     ·exact h4 y h
     ·rw[h];exact u9 hcn
    ·rw[hf];rw[dx (by simpa using U0)];simp[KE]
    ·simp only;rw[KC (by omega)];exact hd
   ·have e:zr.v (bQ (ar x i 0)) (bZ (ar x i 1)) (bZ (ar x i (1+1))) (bQ (ar x i (1+1+1))) d=false:=by
     have:(!zr.v (bQ (ar x i 0)) (bZ (ar x i 1)) (bZ (ar x i (1+1))) (bQ (ar x i (1+1+1))) d)=true:=by rw[Lib.dF Ca,hx];exact hk
     simpa using this
    have es:dV x j 0 [CV.s (bQ (ar x i 0)),CV.i ao (bZ (ar x i 1)),CV.i ao (bZ (ar x i (1+1))),CV.s (bQ (ar x i (1+1+1)))]=x.set j s0[i]:=by
     have hl:=h4 _ (bC U0);rw[Lib.LQ U0,Lib.dF Ca,Lib.dF Ca,Lib.dF Ca,Lib.dF Ca,hx];have:jb x[j] 0 (cr s0[i])=s0[i]:=by rw[GS hcn];unfold jb;have:=u9 hcn;simp[hl,this,mq]
     unfold cr at this;rw[this]
    have b1:(j:az)<(x.length:az):=by omega
    simp only[l5,r5,Lib.du,Lib.cQ,Lib.eD,Ca,U0,aQ,bj,au,e,bV,es,Lib.di g9 hn,Lib.di (show j<s0.length by omega) hn]
  |false=>
   refine⟨(j,i+1,x), ?_,by simp only;omega,trivial, ?_⟩
   ·rw[hk,aA,dN,<-h5]at hf;exact⟨by simp only;omega,by simp only;omega,h3,h4,hf.symm,hd⟩
   ·have e:zr.v (bQ (ar x i 0)) (bZ (ar x i 1)) (bZ (ar x i (1+1))) (bQ (ar x i (1+1+1))) d=true:=by
     have:(!zr.v (bQ (ar x i 0)) (bZ (ar x i 1)) (bZ (ar x i (1+1))) (bQ (ar x i (1+1+1))) d)=false:=by rw[Lib.dF Ca,hx];exact hk
     simpa using this
    simp only[l5,r5,Lib.du,Lib.cQ,Lib.eD,Ca,aQ,bj,au,e,aY,aA,Lib.di g9 hn]
 ·left;have:i=s0.length:=by omega
  subst this;rw[g8]at h5;have e:=hK j x h3 (by omega);rw[h5]at e;have Ca:¬s0.length<x.length:=by omega
  simp only[l5,r5,Lib.du,Ca,bh,aA,e]
theorem ok(s0:aU)(oz:aq)(hc:s0.all cn=ai)(hn:s0.length<=4294967296):c s0 oz=ai/\v s0 oz=s0.filter (keep oz):=by
 refine out s0 oz ?_;have hv:=rO.ok s0 oz hn;unfold vo b;rw[hv.1,hv.2,au];rcases Lib.qN (rO.p s0 oz) s0.length 0 with ⟨h,oY⟩|⟨k,_,wM,hk,hkp,abU⟩
 ·rw[h];have:s0.filter (keep oz)=s0:=by rw[gK];intro y hy;obtain⟨i,hi,rfl⟩:=dy hy;have:=oY i (bz _) (by omega);unfold rO.p at this;rw[Lib.dF hi]at this;unfold keep;rw[this];rfl
  rw[this];rfl
 ·rw[hk];have N2:k<s0.length:=by omega
  have il:decide ((k:az)=iT 1)=false:=aK (by show¬(k:az)= -1;omega);rw[il,aA,Lib.di N2 (by omega)];have hca:∀y∈s0,cn y=true:=bu.1 hc;refine run _ s0 oz hc (by omega) _ ah (λj x hx hj=> ?_) _ k (k+1) s0 ⟨by omega,by omega,rfl,λy hy=>u9 (hca y hy), ?_,rfl⟩ (cK (by omega))
  ·have b1:iS (j:az) (s0.length:az) (s0.length:az)=true:=by simp[iS];omega
   have e:ny j x++aN [Ck.s,Ck.i ao,Ck.i ao,Ck.s] (s0.length-j)++Au s0.length x=ny j x++aN [Ck.s,Ck.i ao,Ck.i ao,Ck.s] (s0.length-j):=by rw[mq (by omega),dN]
   have hl:(ny j x).length=j:=by simp;omega
   simp only[hx,Lib.eD,b1,au,e];rw[Lib.AP (by simp[iS];omega)];unfold eu;rw[show aZ 0=0 from rfl,gd,Cm,B4 (by omega),gH (by omega)]
  ·rw[ng oz N2];have e1:keep oz s0[k]=false:=by unfold rO.p at hkp;rw[Lib.dF N2]at hkp;unfold keep;rw[hkp];rfl
   have e2:(s0.take k).filter (keep oz)=s0.take k:=by
    rw[gK];intro y hy;obtain⟨i,hi,rfl⟩:=dy hy;have hik:i<k:=by simp at hi;omega
    have:=abU i (bz _) hik;unfold rO.p at this;rw[Lib.dF (by omega)]at this;rw[pN];unfold keep;rw[this];rfl
   rw[e1,e2,aA,dN]
end ov

namespace gT
open Lib (re En)
def fS(x y:aq):aW:=b_ (aL x) (aL y)
def So(en:ay En):Prop:=en.Pairwise λx y=>fS x.k y.k=ai
def fK(en:ay En)(k:aq):ay En:=en.filter λx=> !decide (x.k=k)
def mD(en:ay En)(e:En):ay En:=en.filter (λx=>fS x.k e.k)++[e]++en.filter (λx=> !(fS x.k e.k||decide (x.k=e.k)))
theorem So.drop{en:ay En}(h:So en)(k:aq):So (fK en k):=List.Pairwise.filter _ h
theorem vM(en:ay En)(k:aq):(fK en k).length<=en.length:=eH ..
theorem drop_nil{en:ay En}(h:∀e∈en,1<=e.k.size):fK en ⟨#[]⟩=en:=by unfold fK;rw[gK];intro e he;have:=h e he;simp only[dz,gO];intro e2;rw[e2]at this;exact cE this (by decide)
theorem Bw{en:ay En}(h:So en):fI.Or (re en):=by
 constructor
 ·unfold Lib.re;rw[jV];exact h
 ·intro y hy;unfold Lib.re at hy;obtain⟨z,_,rfl⟩:=cO.1 hy;rfl
theorem sN(en:ay En)(e:En):fI.val (re en) e.k e.st e.li e.bo=re (mD en e):=by
 unfold fI.val mD Lib.re;rw[rR,rR,lH,lH,c8,c8];have e1:(fI.pl e.k∘En.row)=λx:En=>fS x.k e.k:=rfl;have e2:(fI.pg e.k∘En.row)=λx:En=> !(fS x.k e.k||decide (x.k=e.k)):=by funext x;show(!(b_ (aL x.k) (aL e.k)||List.beq (aL x.k) (aL e.k)))=_;rw[Lib.fB];rfl
 rw[e1,e2];rfl
theorem ET(en:ay En)(k:aq):(re en).filter (ov.keep k)=re (fK en k):=by unfold Lib.re fK;rw[rR];congr 1;apply pM;intro x _;show(!List.beq (aL x.k) (aL k))=_;rw[Lib.fB]
theorem P6(en:ay En):(re en).all ov.cn=true:=by rw[bu];intro y hy;unfold Lib.re at hy;obtain⟨z,_,rfl⟩:=cO.1 hy;rfl
theorem tw(en:ay En)(e:En)(h:So en):(mD en e).length<=en.length+1:=by have:=(fI.v9 (Bw h) e.k e.st e.li e.bo).2;rw[sN,dO,dO]at this;exact this
end gT

namespace ur
open Lib (Px Cl Fe En el)
open eT (has gm)
open jk (eh pj)
open m9 (tU Gb K4)
open m_ (nt lT apart)
open mo (Ga iy)
open gT (So fS)
def Ij(now:az)(nf:aE)(c:Cl):aW:=
 decide (1<=c.id/\c.id<=9)&&(eh c.k&&(decide (1<=c.sta/\c.sta<=3)&&(decide (0<=c.fe/\c.fe<=(nf:az))&&(decide ((c.got.size:az)<=400)&&(decide (0<=c.fr/\c.fr<=now)&&decide (0<=c.age))))))
structure fX (p:Px):Prop where
 now:1<=p.now/\p.now<=1000000000
 en:∀e∈p.en,tU e=ai
 so:So p.en
 ek:∀e∈p.en,e.k∈p.w\/e.k∈p.m
 pol:pj p.w p.m p.s p.a=ai
 len:p.w.length+p.m.length=p.en.length
 fl:p.fe.length<=20
 fe:∀f∈p.fe,nt p.now f=ai
 ap:p.fe.Pairwise λf g=>lT g f=ak
 cll:p.cl.length<=6
 cl:∀c∈p.cl,Ij p.now p.fe.length c=ai
 cs:p.cl.Pairwise λc d=>c.id<d.id
 hits:0<=p.hits/\p.hits<=1000000000
theorem RO{α:Type}(R:α->α->Prop)(tr:∀x y z,R x y->R y z->R x z)(l:ay α)(h:∀i (hi:i+1<l.length),R (l[i]) (l[i+1])):l.Pairwise R:=by
 rw[dj];have adj:∀d i (hi:i+d+1<l.length),R (l[i]) (l[i+d+1]):=by
  intro d;induction d with
  |zero=>intro i hi;exact h i hi
  |succ d ih=>intro i hi;exact tr _ _ _ (ih i (by omega)) (h (i+d+1) (by omega))
 intro i j hi hj M1;have:=adj (j-i-1) i (by omega);simp only[show i+(j-i-1)+1=j by omega]at this;exact this
theorem JH(x y z:aq)(a:fS x y=ai)(b:fS y z=ai):fS x z=true:=fI.pX _ _ _ a b
theorem ahP{p:Px}(h:iy p=ai):fX p:=by
 obtain⟨h1,h2,h3,h4,h5,h6,h7⟩:_/\_/\_/\_/\_/\_/\_:=by unfold iy at h;simpa only[aJ,bc,bu,oS]using h
 obtain⟨g1,g2,g3⟩:_/\_/\_:=by unfold K4 at h2;simpa only[aJ,bc,bu,oS]using h2
 have e1:∀i (hi:i<p.en.length),tU p.en[i]=ai/\(0<i->fS (el p.en (i-1)).k p.en[i].k=ai)/\(p.en[i].k∈p.w\/p.en[i].k∈p.m):=λi hi=>by have:=g1 i hi;unfold Gb at this;simp only[aJ,dB,bc,fQ hi,gm]at this;exact⟨this.1,λh0=>this.2.1.resolve_left (by omega),this.2.2⟩
 have c1:∀i (hi:i<p.cl.length),Ij p.now p.fe.length p.cl[i]=ai/\(0<i->(el p.cl (i-1)).id<p.cl[i].id):=λi hi=>by have:=h7 i hi;unfold Ga at this;unfold Ij;simp only[aJ,dB,bc,fQ hi]at this⊢;exact⟨⟨this.1,this.2.2⟩,λh0=>this.2.1.resolve_left (by omega)⟩
 have f1:∀i (hi:i<p.fe.length),nt p.now p.fe[i]=ai/\∀j (hj:j<i),lT p.fe[i] (p.fe[j]'(by omega))=false:=λi hi=>by
  have:=h6 i hi;unfold apart at this;simp only[bu,oS,fQ hi]at this;refine⟨this.1,λj hj=> ?_⟩
  have h:=this.2 j hj;rw[fQ (show j<p.fe.length by omega)]at h;simpa using h
 refine⟨h1,λe he=> ?_, ?_,λe he=> ?_,g2,g3,h3,λf hf=> ?_, ?_,h4,λc hc=> ?_, ?_,h5⟩
 ·obtain⟨i,hi,rfl⟩:=dy he;exact(e1 i hi).1
 ·refine RO (λx y:En=>fS x.k y.k=ai) (λx y z a b=>JH _ _ _ a b) p.en λi hi=> ?_;have:=(e1 (i+1) hi).2.1 (by omega);rw[NT,fQ (show i<p.en.length by omega)]at this;exact this
 ·obtain⟨i,hi,rfl⟩:=dy he;exact(e1 i hi).2.2
 ·obtain⟨i,hi,rfl⟩:=dy hf;exact(f1 i hi).1
 ·rw[dj];intro i j hi hj M1;exact(f1 j hj).2 i M1
 ·obtain⟨i,hi,rfl⟩:=dy hc;exact(c1 i hi).1
 ·refine RO (λc d:Cl=>c.id<d.id) (λx y z a b=>Int.lt_trans a b) p.cl λi hi=> ?_;have:=(c1 (i+1) hi).2 (by omega);rw[NT,fQ (show i<p.cl.length by omega)]at this;exact this
theorem agK{p:Px}(h:fX p):iy p=true:=by
 unfold iy K4;simp only[aJ,bc,bu,oS];refine⟨h.now,⟨λi hi=> ?_,h.pol,h.len⟩,h.fl,h.cll,h.hits,λi hi=>⟨?_, ?_⟩,λi hi=> ?_⟩
 ·unfold Gb;simp only[aJ,dB,bc,fQ hi,gm];refine⟨h.en _ (bC hi), ?_,h.ek _ (bC hi)⟩
  by_cases h0:i=0
  ·exact .inl h0
  ·right;rw[fQ (show i-1<p.en.length by omega)];exact dj.1 h.so (i-1) i (by omega) hi (by omega)
 ·rw[fQ hi];exact h.fe _ (bC hi)
 ·unfold apart;simp only[bu,oS];intro j hj;rw[fQ hi,fQ (show j<p.fe.length by omega),dj.1 h.ap j i (by omega) hi hj];rfl
 ·have hc:=h.cl _ (bC hi);unfold Ij at hc;unfold Ga;simp only[aJ,dB,bc,fQ hi]at hc⊢;refine⟨hc.1, ?_,hc.2⟩
  by_cases h0:i=0
  ·exact .inl h0
  ·right;rw[fQ (show i-1<p.cl.length by omega)];exact dj.1 h.cs (i-1) i (by omega) hi (by omega)
theorem jM{p:Px}:iy p=ai↔fX p:=⟨ahP,agK⟩
end ur

namespace bO
def I(q:aU)(a:az):Prop:=0<=a/\a<=(q.length:az)/\q.length<=1048576
theorem Gg(x:BitVec 64):0<=bJ ((dM (iY x (b9 64 255)):aE):az)/\bJ ((dM (iY x (b9 64 255)):aE):az)<=255:=by
 have h:dM (iY x (b9 64 255))<=255:=by have e:dM (iY x (b9 64 255))=x.toNat&&&255:=BitVec.toNat_and x (b9 64 255);rw[e];exact Nat.and_le_right
 rw[c5 (by omega) (by omega)];omega
theorem ok(q:aU)(a s:az)(hI:I q a):∃n a' s',c q a s=ai/\v q a s=(n,q,a',s')/\I q a'/\0<=n/\n<=255:=by
 obtain⟨h0,h1,h2⟩:=hI;by_cases h:a<(q.length:az)
 ·have hw:bJ (a+1)=a+1:=c5 (by omega) (by omega);have hvo:∃n s',vo q a s=ah (n,q,a+1,s')/\0<=n/\n<=255:=by unfold vo b;rw[aF h,aF h0,au,aM,au,hw];exact⟨_,_,rfl,Gg _⟩
  obtain⟨n,s',hv,hr⟩:=hvo;obtain⟨e1,e2⟩:=out q a s hv;exact⟨n,a+1,s',e1,e2,⟨by omega,by omega,h2⟩,hr⟩
 ·have hvo:∃n s',vo q a s=ah (n,q,a,s')/\0<=n/\n<=255:=by unfold vo b;rw[aK h,aA];exact⟨_,_,rfl,Gg _⟩
  obtain⟨n,s',hv,hr⟩:=hvo;obtain⟨e1,e2⟩:=out q a s hv;exact⟨n,a,s',e1,e2,⟨h0,h1,h2⟩,hr⟩
end bO

namespace fy
def el(r:aU)(i:aE):aW:=decide (1<=((bQ (ar r i 0)).size:az)/\((bQ (ar r i 0)).size:az)<=8)&&(!decide (((bQ (ar r i 1)).size:az)>20000)&&(decide (0<=bZ (ar r i 2)/\bZ (ar r i 2)<=((bQ (ar r i 1)).size:az))&&(i==0||Go.Op.bytesLess (aL (bQ (ar r (i-1) 0))) (aL (bQ (ar r i 0))))))
def val(r:aU):aW:=decide (r.length<=30)&&(cJ r.length).all (el r)
theorem mi(n a b:az):kg.v n a b=decide (a<=n/\n<=b):=by unfold kg.v;by_cases h:a<=n<;>by_cases h2:n<=b<;>simp[h,h2]
theorem BZ{i:aE}(h:0<i)(hn:i<=9223372036854775807):bJ ((i:az)-1)=((i-1:aE):az):=by rw[c5 (by omega) (by omega)];omega
theorem ok(r:aU)(hl:r.length<=4294967296):c r=ai/\v r=val r:=by
 refine out r ?_;unfold vo b val;by_cases h30:(r.length:az)>30
 ·rw[aF h30,au,aK (show¬r.length<=30 by omega)];rfl
 rw[aK h30,aA,aF (show r.length<=30 by omega),bj]
 have key:=jO (el r) r.length (λm (i:aE)=>l4 Lib.cW (λ(y3:aW) (_:az) (_:aU)=>ah y3) (λ(_:aW) (_:az) (_:aU)=>ah ai) m ak (i:az) r) (ah ak) (ah ai)
  (λm i hi hp=>by
   unfold el at hp;simp only[aJ]at hp;obtain⟨h1,h2,h3,h4⟩:=hp;have h3:decide (0<=bZ (ar r i (1+1))/\bZ (ar r i (1+1))<=((bQ (ar r i 1)).size:az))=true:=h3;have h2:decide (((bQ (ar r i 1)).size:az)>20000)=false:=by simpa using h2
   by_cases hz:0<i
   ·have e0:decide ((i:az)>0)=true:=aF (by omega);have mA:i-1<r.length:=by omega
    have h5:b_ (aL (bQ (ar r (i-1) 0))) (aL (bQ (ar r i 0)))=true:=by
     rcases dB _ _▸h4 with q|q
     ·have:i=0:=by simpa using q
      omega
     ·exact q
    simp only[l4,r4,Lib.du,hi,mA,aQ,Lib.cQ,aM,au,aA,Lib.eD,uS.v,mi,h1,h2,h3,h5,e0,BZ hz (by omega),aY,Lib.di hi (by omega:r.length<=9223372036854775807)]
   ·have e0:decide ((i:az)>0)=false:=aK (by omega);simp only[l4,r4,Lib.du,hi,aQ,Lib.cQ,aM,au,aA,Lib.eD,uS.v,mi,h1,h2,h3,e0,aY,Lib.di hi (by omega:r.length<=9223372036854775807)])
  (λm i hi hp=>by
   unfold el at hp;cases h1:decide (1<=((bQ (ar r i 0)).size:az)/\((bQ (ar r i 0)).size:az)<=8)with
   |false=>simp only[l4,r4,Lib.du,hi,aQ,Lib.cQ,aM,au,aA,Lib.eD,uS.v,mi,h1,bV]
   |true=>
   cases h2:decide (((bQ (ar r i 1)).size:az)>20000)with
   |true=>simp only[l4,r4,Lib.du,hi,aQ,Lib.cQ,aM,au,aA,Lib.eD,uS.v,mi,h1,h2,aY]
   |false=>
   cases h3:decide (0<=bZ (ar r i (1+1))/\bZ (ar r i (1+1))<=((bQ (ar r i 1)).size:az))with
   |false=>simp only[l4,r4,Lib.du,hi,aQ,Lib.cQ,aM,au,aA,Lib.eD,uS.v,mi,h1,h2,h3,aY,bV]
   |true=>
   rw[h1,h2,show decide (0<=bZ (ar r i 2)/\bZ (ar r i 2)<=((bQ (ar r i 1)).size:az))=ai from h3,bV,bj,bj,bj]at hp;rw[ij]at hp;obtain⟨h4,h5⟩:=hp;have hz:0<i:=by
    have:¬i=0:=by simpa using h4
    omega
   have e0:decide ((i:az)>0)=true:=aF (by omega);have mA:i-1<r.length:=by omega
   simp only[l4,r4,Lib.du,hi,mA,aQ,Lib.cQ,aM,au,aA,Lib.eD,uS.v,mi,h1,h2,h3,h5,e0,BZ hz (by omega),aY,bV])
  (λm=>by simp only[l4,r4,Lib.du,bm,bh,aA]) Lib.cW (cK (by omega))
 refine key.trans ?_;cases (cJ r.length).all (el r)<;>rfl
end fy

namespace po
def cn(y:ay CV):aW:=match y with|[.s _, .s _, .i .i64 _]=>ai|_=>ak
def cr(y:ay CV):ay CV:=[CV.s (bQ (y.getD 0 (.b ak))),CV.s (bQ (y.getD 1 (.b ak))),CV.i ao (bZ (y.getD 2 (.b ak)))]
def keep(d:aq)(y:ay CV):aW:= !List.beq (aL (bQ (y.getD 0 (.b ak)))) (aL d)
end po

namespace eE
open Lib (rd el Fi)
def SoD(l:ay Fi):Prop:=l.Pairwise λx y=>gT.fS x.n y.n=ai
def without(l:ay Fi)(n:aq):ay Fi:=l.filter λx=> !decide (x.n=n)
def put(l:ay Fi)(f:Fi):ay Fi:=l.filter (λx=>gT.fS x.n f.n)++[f]++l.filter (λx=> !(gT.fS x.n f.n||decide (x.n=f.n)))
def nt(f:Fi):aW:=decide (1<=(f.n.size:az)/\(f.n.size:az)<=8)&&(!decide ((f.t.size:az)>20000)&&decide (0<=f.kp/\f.kp<=(f.t.size:az)))
def vd(l:ay Fi):aW:=fy.val (rd l)
theorem irrefl(x:aq):gT.fS x x=false:=fI.n_ _
theorem kH{l:ay Fi}:vd l=ai↔l.length<=30/\(∀f∈l,nt f=ai)/\SoD l:=by
 unfold vd fy.val;rw[aJ,bc,bu,gq];have e:∀i (h:i<l.length),fy.el (rd l) i=(nt l[i]&&(i==0||gT.fS (l.getD (i-1) default).n l[i].n)):=λi h=>by
  unfold fy.el nt gT.fS;rw[J0 h,ZI h,show ar (rd l) i 2=CV.i ao l[i].kp from ZJ h,J0 (show i-1<l.length by omega)];have h5:l.getD (i-1) default=l[i-1]:=by simp[jH,show i-1<l.length by omega]
  rw[h5];simp only[bQ,bZ,mZ];rfl
 constructor
 ·rintro ⟨h1,h2⟩;have h3:∀i (h:i<l.length),nt l[i]=ai/\(i=0\/gT.fS (l.getD (i-1) default).n l[i].n=ai):=λi h=>by have:=h2 i (by simpa using h);rw[e i h,aJ,dB]at this;exact⟨this.1,this.2.imp (λq=>by simpa using q) id⟩
  refine⟨h1,λf hf=> ?_, ?_⟩
  ·obtain⟨i,hi,rfl⟩:=dy hf;exact(h3 i hi).1
  ·have adj:∀d i (hi:i+d+1<l.length),gT.fS l[i].n l[i+d+1].n=true:=by
    intro d;induction d with
    |zero=>
     intro i hi;rcases(h3 (i+1) (by omega)).2 with q|q
     ·omega
     ·simpa [jH,show i<l.length by omega]using q
    |succ d ih=>
     intro i hi;have a:=ih i (by omega);rcases(h3 (i+d+1+1) (by omega)).2 with q|q
     ·omega
     ·have q:gT.fS l[i+d+1].n l[i+d+1+1].n=true:=by simpa [jH,show i+d+1<l.length by omega]using q
      exact fI.pX _ _ _ a q
   unfold SoD;rw[dj];intro i j hi hj M1;have:=adj (j-i-1) i (by omega);simpa only[show i+(j-i-1)+1=j by omega]using this
 ·rintro ⟨h1,h2,h3⟩;refine⟨h1,λi hi=> ?_⟩
  have hi:i<l.length:=by simpa using hi
  rw[e i hi,h2 _ (bC hi),bj,dB];by_cases hz:i=0
  ·left;simpa using hz
  ·right;have:=dj.1 h3 (i-1) i (by omega) hi (by omega);simpa [jH,show i-1<l.length by omega]using this
theorem adJ(l:ay Fi)(n:aq):(without l n).length<=l.length:=eH ..
theorem tw{l:ay Fi}(f:Fi):(put l f).length<=l.length+1:=by
 unfold put;have:∀r:ay Fi,(r.filter λx=>gT.fS x.n f.n).length+(r.filter λx=> !(gT.fS x.n f.n||decide (x.n=f.n))).length<=r.length:=by
  intro r;induction r with
  |nil=>exact cu _
  |cons y r ih=>
   cases h1:gT.fS y.n f.n with
   |true=>rw[dn (by simpa using h1),cj (by simp[h1])];simp only[cY];omega
   |false=>
    rw[cj (by simp[h1])];by_cases h2:y.n=f.n
    ·rw[cj (by simp[h2])];simp only[cY];omega
    ·rw[dn (by simp[h1,h2])];simp only[cY];omega
 have:=this l;simp only[bW,bB];omega
theorem pk{l:ay Fi}{x f:Fi}:x∈put l f↔x=f\/(x∈l/\x.n≠f.n):=by
 unfold put;simp only[a_,dt,aX,dz,ij,gO];constructor
 ·rintro ((⟨h1,h2⟩|rfl)|⟨h1,h2⟩)
  ·refine .inr ⟨h1,λe2=> ?_⟩;rw[e2,irrefl]at h2;cases h2
  ·exact .inl rfl
  ·exact .inr ⟨h1,h2.2⟩
 ·rintro (rfl|⟨h1,h2⟩)
  ·exact .inl (.inr rfl)
  ·cases hl:gT.fS x.n f.n with
   |true=>exact .inl (.inl ⟨h1,rfl⟩)
   |false=>exact .inr ⟨h1,rfl,h2⟩
def Gd(l:ay Fi)(k:az)(n t o:aq):aC (ay Fi):=
 match l.find? λx=>decide (x.n=n)with
 |some f=>
  if k=1 then ah (put l ⟨f.n,f.t++t,f.kp⟩)
  else if k=2 then ah (put l ⟨f.n,f.t,f.t.size⟩)
  else if k=3 then(if f.kp≠f.t.size\/o=n then aj else ah (put (without l n) ⟨o,f.t,f.kp⟩))
  else ah (without l n)
 |none=>if k=1 then ah (put l ⟨n,t,0⟩)else aj
def la(k:az)(t o:aq):aW:=decide (1<=k/\k<=4)&&((decide (t=⟨#[]⟩)||decide (k=1))&&(decide (o=⟨#[]⟩)||decide (k=3)))
def act(l:ay Fi)(k:az)(n t o:aq):aC (ay Fi):=
 bif vd l&&la k t o then(match Gd l k n t o with|some d=>bif vd d then ah d else aj|none=>aj)else aj
structure Ac where
 k:az
 n:aq
 t:aq
 o:aq
 deriving DecidableEq
instance:Inhabited Ac:=⟨⟨0,⟨#[]⟩,⟨#[]⟩,⟨#[]⟩⟩⟩
def Ac.row(e:Ac):ay CV:=[CV.i ao e.k,CV.s e.n,CV.s e.t,CV.s e.o]
def ra(l:ay Ac):aU:=l.map Ac.row
theorem FC(l):(ra l).length=l.length:=by unfold ra;simp
theorem wa0{l:ay Ac}{i:aE}(h:i<l.length):ar (ra l) i 0=CV.i ao (el l i).k:=gP _ l i 0 h
theorem wa1{l:ay Ac}{i:aE}(h:i<l.length):ar (ra l) i 1=CV.s (el l i).n:=gP _ l i 1 h
theorem wa2{l:ay Ac}{i:aE}(h:i<l.length):ar (ra l) i (1+1)=CV.s (el l i).t:=gP _ l i 2 h
theorem wa3{l:ay Ac}{i:aE}(h:i<l.length):ar (ra l) i (1+1+1)=CV.s (el l i).o:=gP _ l i 3 h
def mw:ay Fi->aE->ay Ac->ay Fi×aE
 |l,i,[]=>(l,i)
 |l,i,a::r=>match act l a.k a.n a.t a.o with|some d=>mw d (i+1) r|none=>(l,i)
theorem KT{l d:ay Fi}{k:az}{n t o:aq}(h:act l k n t o=ah d):vd d=ai/\d.length<=30:=by
 unfold act at h;cases hb:vd l&&la k t o with
 |false=>rw[hb]at h;cases h
 |true=>
  rw[hb,au]at h;split at h
  ·rename_i e _;cases ho:vd e with
   |false=>rw[ho]at h;cases h
   |true=>rw[ho]at h;obtain rfl:=aD h;exact⟨ho,(kH.1 ho).1⟩
  ·cases h
end eE

namespace oX
theorem size(x:az):(v x).size=4:=by unfold v;rw[Lib.gX];simp only[cm,Lib.qP]
end oX

namespace jr
def rd(x:az):az:=bif decide (bL x 2=1)then(bI ed (↑(dM (lF (b9 32 (bI ed (cS x 2))) (b9 32 3558460437))):az))else(bI ed (cS x 2))
def mV:aE->az->az|0,x=>x|n+1,x=>mV n (rd x)
theorem in6(N:aE)(K:az->aq->az->az->aC R)(a:aq)(b:az):∀(d n i:aE) (x:az),d+i=8->d<n->l6 N K n x a b (i:az)=K (mV d x) a b 8:=by
 intro d;induction d with
 |zero=>
  intro n i x h1 h2;obtain⟨n,rfl⟩:∃m,n=m+1:=⟨n-1,by omega⟩
  have:i=8:=by omega
  subst this;rfl
 |succ d ih=>
  intro n i x h1 h2;obtain⟨n,rfl⟩:∃m,n=m+1:=⟨n-1,by omega⟩
  have jL:bJ ((i:az)+1)=((i+1:aE):az):=c5 (by omega) (by omega);rw[mV,<-ih n (i+1) (rd x) (by omega) (by omega)];simp only[l6,r6,aF (show(i:az)<8 by omega),au,jL,rd];cases decide (bL x 2=1)<;>rfl
def su(t:aq):aE->aE->az->az
 |0,_,s=>s
 |d+1,i,s=>su t d (i+1) (mV 8 (bI ed (↑(dM (lF (b9 32 s) (b9 32 (bI ed (↑(iL t i):az))))):az)))
theorem run(s:az)(t:aq)(ht:t.size<=4611686018427387904):vo s t=ah (su t t.size 0 s):=by
 unfold vo b;have key:∀(d n i:aE) (s:az),d+i=t.size->d<n->l2 Lib.cW (λ(yL:az) (_:aq) (_:az)=>ah yL) n s t (i:az)=ah (su t d i s):=by
  intro d;induction d with
  |zero=>
   intro n i s h1 h2;obtain⟨n,rfl⟩:∃m,n=m+1:=⟨n-1,by omega⟩
   simp only[l2,r2,Lib.du,aK (show¬i<t.size by omega),aA];rfl
  |succ d ih=>
   intro n i s h1 h2;obtain⟨n,rfl⟩:∃m,n=m+1:=⟨n-1,by omega⟩
   have jL:bJ ((i:az)+1)=((i+1:aE):az):=c5 (by omega) (by omega);simp only[l2,r2,Lib.du,aF (show i<t.size by omega),Lib.cQ,aM,au,Lib.eD];have e:=in6 (R:=az) Lib.cW (λy7 y8 y9 _=>l2 Lib.cW (λyL _ _=>ah yL) n y7 y8 (bJ (y9+1))) t (i:az) 8 Lib.cW 0 (bI ed (↑(dM (lF (b9 32 s) (b9 32 (bI ed (↑(iL t i):az))))):az)) rfl (by unfold Lib.cW;omega);refine e.trans ?_;rw[jL,ih n (i+1) _ (by omega) (by omega)];rfl
 exact key t.size Lib.cW 0 s (by omega) (cK (by omega))
theorem ok(s:az)(t:aq)(ht:t.size<=4611686018427387904):c s t=ai/\v s t=su t t.size 0 s:=out s t (run s t ht)
end jr

namespace uQ
theorem ok(t:aq)(ht:t.size<=4611686018427387904):c t=ai/\v t=jr.su t t.size 0 4294967295:=by have h:=jr.ok 4294967295 t ht;refine out t ?_;unfold vo b;rw[h.1,h.2];rfl
end uQ

namespace fT
def fr(t:aq):aq:=bytesOf (Lib.vb t.size)++oX.v (jr.su t t.size 0 4294967295)++t
def val(t:aq):aq×aW:=if 1<=t.size/\t.size<=9000 then(fr t,ai)else(⟨#[]⟩,ak)
theorem eM(n a b:az):kg.v n a b=decide (a<=n/\n<=b):=by unfold kg.v;by_cases h:a<=n<;>by_cases h2:n<=b<;>simp[h,h2]
theorem UP{t:aq}(h:t.size<=9000):(fr t).size<=t.size+68:=by unfold fr;have:=Lib.nr (x:=(t.size:az)) (by omega);rw[Lib.lx,Lib.lx,oX.size];omega
theorem ok(t:aq):c t=ai/\v t=val t:=by
 refine out t ?_;unfold vo b val;rw[eM];by_cases h:1<=t.size/\t.size<=9000
 ·have hs:=uQ.ok t (by omega);have hc:jT.c (t.size:az)=true:=aF (show(t.size:az)<=9223372036854775807 by omega);have z1:(jT.v (t.size:az)).size<=64:=Lib.nr (x:=(t.size:az)) (by omega);rw[aF (show(1:az)<=(t.size:az)/\(t.size:az)<=9000 by omega),bw h,hs.1,hs.2];simp(disch:=omega) only[aY,aA,au,hc,Lib.lx,oX.size,Lib.afw];rfl
 ·rw[aK (show¬((1:az)<=(t.size:az)/\(t.size:az)<=9000)by omega),bH h];rfl
end fT

namespace jC
theorem head{t:aq}{p:aE}{b:F_}{r:ay F_}(h:t.data.toList.drop p=b::r):p<t.size/\iL t p=b.toNat/\t.data.toList.drop (p+1)=r:=by
 have hl:=kX bP h;rw[eL,cY]at hl;have hs:t.data.toList.length=t.size:=rfl;have hp:p<t.data.toList.length:=by omega
 have hd:=dG hp;rw[hd]at h;injection h with h1 h2;refine⟨by omega, ?_,h2⟩
 unfold iL;have mA:p<t.data.size:=hp;rw[show t.data.getD p 0=t.data[p]by unfold Array.getD;rw[dif_pos mA];rfl];rw[<-h1];rfl
theorem AR(x:az)(r:aU):(bytesOf ([CV.i bg x]::r)).data.toList=aw x.toNat::(bytesOf r).data.toList:=rfl
theorem R7(t:aq)(a:aE)(rest:ay F_):∀(f j:aE) (n y:az),0<=y->0<=n->n+y*128^j<=1000000000->y<=1000000000->(j>0->0<y)->t.data.toList.drop (a+j)=(bytesOf (Lib.vb y)).data.toList++rest->(Lib.vb y).length<=f->
  Lib.rv t a f j n=(n+y*128^j,((a+j+(Lib.vb y).length:aE):az),ai)/\t.data.toList.drop (a+j+(Lib.vb y).length)=rest
 |0,j,n,y,h0,hn,hb,hy,hj,hd,hf=>by
  by_cases hc:y>127
  ·rw[Lib.vg hc]at hf;simp at hf
  ·rw[Lib.ml hc]at hf;simp at hf
 |f+1,j,n,y,h0,hn,hb,hy,hj,hd,hf=>by
  by_cases hc:y>127
  ·have e1:bL y 128=y%128:=sa (by omega);have e2:cS y 128=y/128:=gF (by omega);have e3:bJ (y%128+128)=y%128+128:=c5 (by omega) (by omega);have e4:bI bg (y%128+128)=y%128+128:=by show(y%128+128)%256=_;omega
   have e5:bJ (y/128)=y/128:=c5 (by omega) (by omega);have ev:Lib.vb y=[CV.i bg (y%128+128)]::Lib.vb (y/128):=by rw[Lib.vg hc,e1,e2,e3,e4,e5]
   rw[ev,AR,Ar]at hd;obtain⟨q1,q2,q3⟩:=head hd;have q4:(iL t (a+j):az)=y%128+128:=by rw[q2,KS];omega
   rw[ev,cY]at hf;have hP:y*128^j=y%128*128^j+y/128*128^(j+1):=by
    have hyd:y=y%128+128*(y/128):=by omega
    rw[tK];generalize (128:az)^j=P;conv=>lhs;rw[hyd]
    rw[Int.add_mul,Int.mul_comm P 128,<-Int.mul_assoc,Int.mul_comm (y/128) 128]
   have hpp:(0:az)<=y%128*128^j:=Int.mul_nonneg (by omega) (Int.le_of_lt (Int.pow_pos (by omega)));obtain⟨i1,i2⟩:=R7 t a rest f (j+1) (n+y%128*128^j) (y/128) (by omega) (by omega) (by omega) (by omega) (by omega) (by rw[show a+(j+1)=a+j+1 by omega];exact q3) (by omega);refine⟨?_, ?_⟩
   ·unfold Lib.rv;rw[bw q1,q4,bw (by omega),show(y%128+128)%128=y%128 by omega,i1,hP,ev,cY];refine Prod.ext ?_ (Prod.ext ?_ rfl)
    ·dsimp only;omega
    ·dsimp only;omega
   ·rw[ev,cY,show a+j+((Lib.vb (y/128)).length+1)=a+(j+1)+(Lib.vb (y/128)).length by omega];exact i2
  ·have e4:bI bg y=y:=by show y%256=_;omega
   have ev:Lib.vb y=[[CV.i bg y]]:=by rw[Lib.ml hc,e4]
   rw[ev,AR,Ar]at hd;obtain⟨q1,q2,q3⟩:=head hd;have q4:(iL t (a+j):az)=y:=by rw[q2,KS];omega
   refine⟨?_,by rw[ev];exact q3⟩
   unfold Lib.rv;rw[bw q1,q4,bH hc,show y%128=y by omega,bH (by omega),ev];rfl
theorem vb5{y:az}(h:y<=1000000000):(Lib.vb y).length<=5:=by
 have e:(128:az)^(4+1)=34359738368:=by decide
 exact Lib.Ag 4 y (by rw[e];omega)
theorem lR(t:aq)(p:aE)(y:az)(rest:ay F_)(h0:0<=y)(h1:y<=1000000000)(hd:t.data.toList.drop p=(bytesOf (Lib.vb y)).data.toList++rest):Lib.eB t p=(y,((p+(Lib.vb y).length:aE):az),ai)/\t.data.toList.drop (p+(Lib.vb y).length)=rest:=by
 have hl:=kX bP hd;have il:0<(Lib.vb y).length:=by
  by_cases hc:y>127
  ·rw[Lib.vg hc];simp
  ·rw[Lib.ml hc];simp
 have hb:(bytesOf (Lib.vb y)).data.toList.length=(Lib.vb y).length:=Lib.gX _;rw[eL,bW,hb]at hl;have hs:t.data.toList.length=t.size:=rfl;obtain⟨i1,i2⟩:=R7 t p rest 5 0 0 y h0 (by omega) (by simp;omega) h1 (by omega) (by simpa using hd) (vb5 h1);refine⟨?_,by simpa using i2⟩
 unfold Lib.eB;rw[bw (by omega),show((p:aE):az).toNat=p from rfl,i1];simp
theorem Je(t k:aq)(p:aE)(rest:ay F_)(hd:t.data.toList.drop p=k.data.toList++rest):t.extract p (p+k.size)=k:=by apply Lib.si;simp only[fW,g7,gQ];rw[hd,show p+k.size-p=k.data.toList.length by show p+k.size-p=k.size;omega,List.take_left]
theorem enc(k:aq)(s l:az)(b:aq)(h:iI.v k s l b=ai):v (jI.rU k s l b)=(k,s,l,b,ai):=by
 obtain⟨⟨k1,k2⟩,⟨s1,s2⟩,⟨l1,l2⟩,b1⟩:=iI.Gg h;generalize ht:jI.rU k s l b=t;have hT:t.data.toList=(bytesOf (Lib.vb k.size)).data.toList++(k.data.toList++((bytesOf (Lib.vb s)).data.toList++((bytesOf (Lib.vb l)).data.toList++b.data.toList))):=by rw[<-ht];unfold jI.rU;simp only[lN,uw,ch]
 have hs:t.data.toList.length=t.size:=rfl;have hk:k.data.toList.length=k.size:=rfl;obtain⟨a1,a2⟩:=lR t 0 (k.size:az) _ (by omega) (by omega) (by rw[gd];exact hT);rw[bT]at a1 a2;generalize (Lib.vb (k.size:az)).length=n1 at a1 a2;have aqi:=kX bP a2;simp only[eL,bW,hk,hs]at aqi;have ek:=Je t k n1 _ a2;have a3:t.data.toList.drop (n1+k.size)=(bytesOf (Lib.vb s)).data.toList++((bytesOf (Lib.vb l)).data.toList++b.data.toList):=by rw[<-uF,a2];exact List.drop_left' (by rw[hk])
 obtain⟨b1',b2⟩:=lR t (n1+k.size) s _ (by omega) (by omega) a3;obtain⟨c1,c2⟩:=lR t (n1+k.size+(Lib.vb s).length) l _ (by omega) (by omega) b2;have hr:Lib.iE t 0=(k,((n1+k.size:aE):az),ai):=by unfold Lib.iE;rw[show(0:az)=((0:aE):az)from rfl,a1];dsimp only;rw[bw (by omega)];rw[show((n1:aE):az).toNat=n1 from rfl,show((n1:az)+(k.size:az)).toNat=n1+k.size by omega,ek];rfl
 have eb:t.extract (n1+k.size+(Lib.vb s).length+(Lib.vb l).length) t.size=b:=by
  have Jx:=kX bP c2;rw[eL,hs]at Jx;have hbs:b.data.toList.length=b.size:=rfl;by_cases hz:b.size=0
  ·apply Lib.si;simp only[fW,g7,gQ];rw[c2];exact gH (by omega)
  ·apply Lib.si;simp only[fW,g7,gQ];rw[c2];exact gH (by omega)
 unfold v;rw[hr];dsimp only;rw[b1'];dsimp only;rw[c1];dsimp only;rw[show((n1+k.size+(Lib.vb s).length+(Lib.vb l).length:aE):az).toNat=n1+k.size+(Lib.vb s).length+(Lib.vb l).length from rfl,eb,bw h]
end jC

namespace vF
theorem in6(N:aE)(K:az->aq->az->az->aC R)(a:aq)(b:az):∀(d n i:aE) (x:az),d+i=8->d<n->l6 N K n x a b (i:az)=K (jr.mV d x) a b 8:=by
 intro d;induction d with
 |zero=>
  intro n i x h1 h2;obtain⟨n,rfl⟩:∃m,n=m+1:=⟨n-1,by omega⟩
  have:i=8:=by omega
  subst this;rfl
 |succ d ih=>
  intro n i x h1 h2;obtain⟨n,rfl⟩:∃m,n=m+1:=⟨n-1,by omega⟩
  have jL:bJ ((i:az)+1)=((i+1:aE):az):=c5 (by omega) (by omega);rw[jr.mV,<-ih n (i+1) (jr.rd x) (by omega) (by omega)];simp only[l6,r6,aF (show(i:az)<8 by omega),au,jL,jr.rd];cases decide (bL x 2=1)<;>rfl
theorem run(s:az)(t:aq)(ht:t.size<=4611686018427387904):vo s t=ah (jr.su t t.size 0 s):=by
 unfold vo b;have key:∀(d n i:aE) (s:az),d+i=t.size->d<n->l2 Lib.cW (λ(yL:az) (_:aq) (_:az)=>ah yL) n s t (i:az)=ah (jr.su t d i s):=by
  intro d;induction d with
  |zero=>
   intro n i s h1 h2;obtain⟨n,rfl⟩:∃m,n=m+1:=⟨n-1,by omega⟩
   simp only[l2,r2,Lib.du,aK (show¬i<t.size by omega),aA];rfl
  |succ d ih=>
   intro n i s h1 h2;obtain⟨n,rfl⟩:∃m,n=m+1:=⟨n-1,by omega⟩
   have jL:bJ ((i:az)+1)=((i+1:aE):az):=c5 (by omega) (by omega);simp only[l2,r2,Lib.du,aF (show i<t.size by omega),Lib.cQ,aM,au,Lib.eD];have e:=in6 (R:=az) Lib.cW (λy7 y8 y9 _=>l2 Lib.cW (λyL _ _=>ah yL) n y7 y8 (bJ (y9+1))) t (i:az) 8 Lib.cW 0 (bI ed (↑(dM (lF (b9 32 s) (b9 32 (bI ed (↑(iL t i):az))))):az)) rfl (by unfold Lib.cW;omega);refine e.trans ?_;rw[jL,ih n (i+1) _ (by omega) (by omega)];rfl
 exact key t.size Lib.cW 0 s (by omega) (cK (by omega))
theorem ok(s:az)(t:aq)(ht:t.size<=4611686018427387904):c s t=ai/\v s t=jr.su t t.size 0 s:=out s t (run s t ht)
end vF

namespace tQ
theorem ok(t:aq)(ht:t.size<=4611686018427387904):c t=ai/\v t=jr.su t t.size 0 4294967295:=by have h:=vF.ok 4294967295 t ht;refine out t ?_;unfold vo b;rw[h.1,h.2];rfl
end tQ

namespace EF
theorem ok(t:aq)(ht:t.size<=4611686018427387904):c t=ai/\v t=oX.v (jr.su t t.size 0 4294967295):=by have h:=tQ.ok t ht;refine out t ?_;unfold vo b;rw[h.1,h.2];rfl
end EF

namespace rM
theorem cut(a s s' b:aq):db (aL (a++s++b)) (aL (a++s'++b))=db (aL s) (aL s'):=by
 rw[Lib.fB,Lib.fB,cf];constructor
 ·intro h;have h2:=kX (λx:aq=>x.data.toList) h;simp only[lN,uw,ch]at h2;have h3:=List.append_cancel_right (List.append_cancel_left h2);exact Lib.si h3
 ·intro h;rw[h]
theorem lU(n a b:az):n7.v n a b=decide (a<=n/\n<=b):=fT.eM n a b
theorem both(t:aq)(ht:t.size<=20000):∀(d:aE) (ic:aE) (acc:aU) (n m:aE) (z:az),t.size-ic<=d->ic<=t.size->acc.length<=ic->d<n->d<m->
  ∃R:aU×az,U203.l3 Lib.cW (λ(_:aq) (y4:az) (y5:aU)=>ah (y5,y4)) n t (ic:az) acc=ah R/\l5 Lib.cW (λ(_:aq) (y5 _:az) (y7:aU)=>ah (y7,y5)) (λ(_:aq) (_ Ml:az) (yL:aU)=>ah (yL,Ml)) m t z (ic:az) acc=ah R/\R.1.length<=20000:=by
 intro d;induction d with
 |zero=>
  intro ic acc n m z h1 h2 h3 h4 h5;obtain⟨n,rfl⟩:∃n',n=n'+1:=⟨n-1,by omega⟩
  obtain⟨m,rfl⟩:∃m',m=m'+1:=⟨m-1,by omega⟩
  have jt:decide ((ic:az)<(t.size:az))=false:=aK (by omega);have hr:(Lib.eB t (ic:az)).2.2=false:=by
   cases h:Lib.eB t (ic:az)with
   |mk a r=>
    obtain⟨x,o⟩:=r;cases o with
    |false=>rfl
    |true=>have:=Lib.j_ h;omega
  have e1:∀a b,gv.v a b=Lib.eB a b:=λ_ _=>rfl;refine⟨(acc,(ic:az)), ?_, ?_,by dsimp only;omega⟩
  ·simp only[U203.l3,U203.r3,e1,hr,aF (show(t.size:az)<=20000 by omega),au,bV]
  ·simp only[l5,r5,jt,aA]
 |succ d ih=>
  intro ic acc n m z h1 h2 h3 h4 h5;obtain⟨n,rfl⟩:∃n',n=n'+1:=⟨n-1,by omega⟩
  obtain⟨m,rfl⟩:∃m',m=m'+1:=⟨m-1,by omega⟩
  have e1:∀a b,gv.v a b=Lib.eB a b:=λ_ _=>rfl;have e2:∀a b,fA.v a b=Lib.eB a b:=λ_ _=>rfl;have fH:decide ((t.size:az)<=20000)=true:=aF (by omega);cases hr:Lib.eB t (ic:az)with
  |mk N r=>
   obtain⟨nx,o⟩:=r;cases o with
   |false=>
    refine⟨(acc,(ic:az)), ?_, ?_,by dsimp only;omega⟩
    ·simp only[U203.l3,U203.r3,e1,hr,fH,au,bV]
    ·by_cases jt:(ic:az)<(t.size:az)
     ·simp only[l5,r5,e2,hr,aF jt,au,bV]
     ·simp only[l5,r5,aK jt,aA]
   |true=>
    obtain⟨q1,q2,q3,q4,q5,q6⟩:=Lib.j_ hr;have jt:decide ((ic:az)<(t.size:az))=true:=aF (by omega);have w1:bJ (N+4)=N+4:=c5 (by omega) (by omega);have w2:bJ ((t.size:az)-nx)=(t.size:az)-nx:=c5 (by omega) (by omega);have w3:bJ ((t.size:az)-nx-4)=(t.size:az)-nx-4:=c5 (by omega) (by omega);have w4:bJ (nx+4)=nx+4:=c5 (by omega) (by omega);have w5:bJ (nx+4+N)=nx+4+N:=c5 (by omega) (by omega);by_cases E5:N+4>(t.size:az)-nx
    ·have Dw:N>(t.size:az)-nx-4:=by omega
     refine⟨(acc,(ic:az)), ?_, ?_,by dsimp only;omega⟩
     ·cases Va:decide (1<=N/\N<=9000)with
      |false=>simp only[U203.l3,U203.r3,e1,hr,fH,lU,Va,au,aA,aY,bV]
      |true=>simp only[U203.l3,U203.r3,e1,hr,fH,lU,Va,w1,w2,aF E5,au,aA,aY]
     ·simp only[l5,r5,e2,hr,jt,w2,w3,aF Dw,au,aA,aY]
    ·have Dw:¬N>(t.size:az)-nx-4:=by omega
     have i1:iS (nx+4) (nx+4+N) (t.size:az)=true:=by simp[iS];omega
     have i2:iS nx (nx+4) (t.size:az)=true:=by simp[iS];omega
     have i3:iS (ic:az) (nx+4+N) (t.size:az)=true:=by simp[iS];omega
     have hts:(t.extract (nx+4).toNat (nx+4+N).toNat).size=N.toNat:=by rw[wG];omega
     generalize Yr:t.extract (nx+4).toNat (nx+4+N).toNat=tx at hts;have f1:=fT.ok tx;have f2:=EF.ok tx (by omega);by_cases Va:1<=N/\N<=9000
     ·have TM:fT.val tx=(fT.fr tx,ai):=by unfold fT.val;rw[bw (by omega)]
      have anW:((tx.size:aE):az)=N:=by omega
      have CD:fT.fr tx=t.extract ic nx.toNat++oX.v (jr.su tx tx.size 0 4294967295)++tx:=by unfold fT.fr;rw[anW,q6];rfl
      have hwh:t.extract ic (nx+4+N).toNat=t.extract ic nx.toNat++t.extract nx.toNat (nx+4).toNat++tx:=by rw[<-Yr,Lib.vQ t (by omega) (by omega),Lib.vQ t (by omega) (by omega)]
      have UY:db (aL (fT.fr tx)) (aL (t.extract ic (nx+4+N).toNat))=db (aL (oX.v (jr.su tx tx.size 0 4294967295))) (aL (t.extract nx.toNat (nx+4).toNat)):=by rw[CD,hwh];exact cut _ _ _ _
      have Hj:cB (acc.length+1) 16=true:=Lib.cC (by omega) (by omega);cases hs:db (aL (oX.v (jr.su tx tx.size 0 4294967295))) (aL (t.extract nx.toNat (nx+4).toNat))with
      |false=>
       rw[hs]at UY;refine⟨(acc,(ic:az)), ?_, ?_,by dsimp only;omega⟩
       ·simp only[U203.l3,U203.r3,e1,hr,fH,lU,aF Va,w1,w2,w4,w5,aK E5,i1,i2,Yr,f2.1,f2.2,hs,au,aA,aY,bV]
       ·simp only[l5,r5,e2,hr,jt,w2,w3,w4,w5,aK Dw,i1,i3,Yr,f1.1,f1.2,TM,dU,UY,au,aA,aY,bV]
      |true=>
       rw[hs]at UY;obtain⟨a2,ha2⟩:∃a2:aE,nx+4+N=(a2:az):=⟨(nx+4+N).toNat,by omega⟩
       obtain⟨R,g1,g2,g3⟩:=ih a2 (acc++[[CV.s tx]]) n m z (by omega) (by omega) (by rw[bW,bB];omega) (by omega) (by omega);refine⟨R, ?_, ?_,g3⟩
       ·simp only[U203.l3,U203.r3,e1,hr,fH,lU,aF Va,w1,w2,w4,w5,aK E5,i1,i2,Yr,f2.1,f2.2,hs,Lib.j8,bB,Hj,au,aA,aY];rw[ha2];exact g1
       ·simp only[l5,r5,e2,hr,jt,w2,w3,w4,w5,aK Dw,i1,i3,Yr,f1.1,f1.2,TM,dU,UY,Lib.j8,bB,Hj,au,aA,aY];rw[ha2];exact g2
     ·have TM:fT.val tx=(⟨#[]⟩,ak):=by unfold fT.val;rw[bH (by omega)]
      refine⟨(acc,(ic:az)), ?_, ?_,by dsimp only;omega⟩
      ·simp only[U203.l3,U203.r3,e1,hr,fH,lU,aK Va,au,aA,aY,bV]
      ·simp only[l5,r5,e2,hr,jt,w2,w3,w4,w5,aK Dw,i1,Yr,f1.1,f1.2,TM,au,aA,aY,bV]
theorem same(t:aq):∃R:aU×az,(c t=ai/\v t=R)/\(U203.c t=ai/\U203.v t=R)/\R.1.length<=20000:=by
 by_cases ht:t.size<=20000
 ·obtain⟨R,g1,g2,g3⟩:=both t ht t.size 0 [] Lib.cW Lib.cW 0 (by omega) (bz _) (cu _) (cK (by omega)) (cK (by omega));refine⟨R,out t ?_,U203.out t ?_,g3⟩
  ·unfold vo b;rw[aK (show¬(t.size:az)>20000 by omega),aA];exact g2
  ·unfold U203.vo U203.b;exact g1
 ·refine⟨([],0),out t ?_,U203.out t ?_,bz _⟩
  ·unfold vo b;rw[aF (show(t.size:az)>20000 by omega)];rfl
  ·unfold U203.vo U203.b;have hb:Lib.cW=18446744073709551615+1:=rfl;have:∀n,U203.l3 Lib.cW (λ(_:aq) (y4:az) (y5:aU)=>ah (y5,y4)) (n+1) t 0 (aN [Ck.s] 0)=ah ([],0):=by intro n;simp only[U203.l3,U203.r3,aK (show¬(t.size:az)<=20000 by omega),aA];rfl
   exact this 18446744073709551615
end rM

namespace T2
def fs:ay aq->aq
 |[]=>⟨#[]⟩|x::r=>fT.fr x++fs r
theorem toL(a b:aq):(a++b).data.toList=a.data.toList++b.data.toList:=by simp[lN]
theorem EZ(x:aq):(fT.fr x).data.toList=(bytesOf (Lib.vb x.size)).data.toList++((oX.v (jr.su x x.size 0 4294967295)).data.toList++x.data.toList):=by unfold fT.fr;rw[toL,toL,ch]
theorem Iq(x:aq):x.data.toList.length=x.size:=dm
def Stop(z:aq):Prop:=z=⟨#[]⟩\/∃(x:aq) (w:ay F_),x.size<=9000/\(fT.fr x).data.toList=z.data.toList++w/\w≠[]
theorem oc(n:az):(oX.v n).size=4:=rfl
theorem vbl(n:az):(bytesOf (Lib.vb n)).data.toList.length=(Lib.vb n).length:=by rw[Iq,Lib.gX]
theorem stop{t z:aq}{p:aE}(hz:Stop z)(hp:p<=t.size)(hd:t.data.toList.drop p=z.data.toList){N nx:az}(h:Lib.eB t p=(N,nx,ai)):N+4>(t.size:az)-nx:=by
 obtain⟨q1,q2,q3,q4,q5,q6⟩:=Lib.j_ h;have hl:t.size-p=z.size:=by have:=kX bP hd;rw[eL,Iq,Iq]at this;exact this
 rcases hz with rfl|⟨x,w,hx,hF,hw⟩
 ·have:(⟨#[]⟩:aq).size=0:=rfl;omega
 ·-- the file's next bytes are the number's
  have e1:(t.extract p nx.toNat).data.toList=z.data.toList.take (nx.toNat-p):=by rw[<-hd];simp[fW,g7,List.extract]
  rw[dU]at q6;have JD:nx.toNat-p<=z.data.toList.length:=by rw[Iq];omega
  have e2:(fT.fr x).data.toList.drop 0=(bytesOf (Lib.vb N)).data.toList++(z.data.toList.drop (nx.toNat-p)++w):=by rw[gd,hF,q6,e1,<-ch,List.take_append_drop]
  have e3:(fT.fr x).data.toList.drop 0=(bytesOf (Lib.vb x.size)).data.toList++((oX.v (jr.su x x.size 0 4294967295)).data.toList++x.data.toList):=by rw[gd,EZ]
  have r1:=(jC.lR _ 0 N _ q4 q5 e2).1;have r2:=(jC.lR _ 0 (x.size:az) _ (by omega) (by omega) e3).1;rw[r1]at r2;obtain⟨hN,hq⟩:=bS r2;have hlen:(Lib.vb N).length=nx.toNat-p:=by have:=kX bP (kX (λy:aq=>y.data.toList) q6);simp only[vbl,e1,er]at this;omega
  have hFl:=kX bP hF;rw[EZ,bW,bW,bW,vbl,Iq,Iq,Iq,oc]at hFl;have hw1:1<=w.length:=by cases w with|nil=>exact cE rfl hw|cons=>simp
  subst hN;omega
theorem go(t:aq)(ht:t.size<=20000)(z:aq)(hz:Stop z):∀(es:ay aq),(∀x∈es,1<=x.size/\x.size<=9000)->∀(p n:aE) (acc:aU),p<=t.size->acc.length<=p->t.data.toList.drop p=(fs es++z).data.toList->t.size-p<n->
  U203.l3 Lib.cW (λ(_:aq) (y4:az) (y5:aU)=>ah (y5,y4)) n t (p:az) acc=ah (acc++Lib.rs es,((p+(fs es).size:aE):az)):=by
 have e0:∀a b,gv.v a b=Lib.eB a b:=λ_ _=>rfl;have fH:decide ((t.size:az)<=20000)=true:=aF (by omega);intro es;induction es with
 |nil=>
  intro hes p n acc hp ha hd hn;obtain⟨n,rfl⟩:∃n',n=n'+1:=⟨n-1,by omega⟩
  have hd:t.data.toList.drop p=z.data.toList:=by rw[hd];unfold fs;rw[toL];rfl
  have e1:acc++Lib.rs []=acc:=dN _;have e2:((p+(fs []).size:aE):az)=(p:az):=rfl;rw[e1,e2];cases hr:Lib.eB t (p:az)with
  |mk N r=>
   obtain⟨nx,o⟩:=r;cases o with
   |false=>simp only[U203.l3,U203.r3,e0,hr,fH,au,bV]
   |true=>
    have hs:=stop hz hp hd hr;obtain⟨q1,q2,q3,q4,q5,q6⟩:=Lib.j_ hr;have w1:bJ (N+4)=N+4:=c5 (by omega) (by omega);have w2:bJ ((t.size:az)-nx)=(t.size:az)-nx:=c5 (by omega) (by omega);cases Va:decide (1<=N/\N<=9000)with
    |false=>simp only[U203.l3,U203.r3,e0,hr,fH,rM.lU,Va,au,aA,aY,bV]
    |true=>simp only[U203.l3,U203.r3,e0,hr,fH,rM.lU,Va,w1,w2,aF hs,au,aA,aY]
 |cons x es ih=>
  intro hes p n acc hp ha hd hn;obtain⟨n,rfl⟩:∃n',n=n'+1:=⟨n-1,by omega⟩
  have hx:=hes x (by simp);have hd1:t.data.toList.drop p=(bytesOf (Lib.vb x.size)).data.toList++((oX.v (jr.su x x.size 0 4294967295)).data.toList++(x.data.toList++(fs es++z).data.toList)):=by rw[hd,show fs (x::es)=fT.fr x++fs es from rfl,toL,toL,EZ,toL];simp only[ch]
  obtain⟨hr,hd2⟩:=jC.lR t p (x.size:az) _ (by omega) (by omega) hd1;have N1:(fT.fr x).size=(Lib.vb x.size).length+4+x.size:=by rw[<-Iq,EZ,bW,bW,vbl,Iq,Iq,oc];omega
  have hlen:=kX bP hd;rw[eL,Iq,Iq]at hlen;have oY:(fs (x::es)++z).size=(fT.fr x).size+(fs es).size+z.size:=by rw[show fs (x::es)=fT.fr x++fs es from rfl,dv,dv]
  rw[oY,N1]at hlen;generalize hm:(Lib.vb (x.size:az)).length=m at*
  have x4:t.extract (p+m) (p+m+4)=oX.v (jr.su x x.size 0 4294967295):=by have:=jC.Je t _ (p+m) _ hd2;rwa[oc]at this
  have hd3:t.data.toList.drop (p+m+4)=x.data.toList++(fs es++z).data.toList:=by rw[<-uF,hd2,zJ (by rw[Iq,oc];omega),Gn (by rw[Iq,oc];omega),gi]
  have x5:t.extract (p+m+4) (p+m+4+x.size)=x:=jC.Je t x (p+m+4) _ hd3;have hd4:t.data.toList.drop (p+m+4+x.size)=(fs es++z).data.toList:=by rw[<-uF,hd3,zJ (by rw[Iq];omega),Gn (by rw[Iq];omega),gi]
  have i:=ih (λy hy=>hes y (by simp[hy])) (p+m+4+x.size) n (acc++[[CV.s x]]) (by omega) (by simp;omega) hd4 (by omega);have w1:bJ ((x.size:az)+4)=(x.size:az)+4:=c5 (by omega) (by omega);have w2:bJ ((t.size:az)-((p+m:aE):az))=(t.size:az)-((p+m:aE):az):=c5 (by omega) (by omega);have w4:bJ (((p+m:aE):az)+4)=((p+m+4:aE):az):=by rw[c5 (by omega) (by omega)];omega
  have w5:bJ (((p+m+4:aE):az)+(x.size:az))=((p+m+4+x.size:aE):az):=by rw[c5 (by omega) (by omega)];omega
  have b1:¬(x.size:az)+4>(t.size:az)-((p+m:aE):az):=by omega
  have i1:iS ((p+m+4:aE):az) ((p+m+4+x.size:aE):az) (t.size:az)=true:=by simp[iS];omega
  have i2:iS ((p+m:aE):az) ((p+m+4:aE):az) (t.size:az)=true:=by simp[iS];omega
  have f2:=EF.ok x (by omega);have Hj:cB (acc.length+1) 16=true:=Lib.cC (by omega) (by omega);simp only[U203.l3,U203.r3,e0,hr,fH,rM.lU,aF (show 1<=(x.size:az)/\(x.size:az)<=9000 by omega),w1,w2,w4,w5,aK b1,i1,i2,dU,x4,x5,f2.1,f2.2,Lib.pV,Lib.j8,bB,Hj,au,aA,aY];rw[i];have e3:acc++[[CV.s x]]++Lib.rs es=acc++Lib.rs (x::es):=by unfold Lib.rs;simp
  have e4:p+m+4+x.size+(fs es).size=p+(fs (x::es)).size:=by
   have:(fs (x::es)).size=(fT.fr x).size+(fs es).size:=by rw[show fs (x::es)=fT.fr x++fs es from rfl,dv]
   omega
  rw[e3,e4]
theorem ok(es:ay aq)(hes:∀x∈es,1<=x.size/\x.size<=9000)(z:aq)(hz:Stop z)(ht:(fs es++z).size<=20000):
  (U203.c (fs es++z)=ai/\U203.v (fs es++z)=(Lib.rs es,((fs es).size:az)))/\(rM.c (fs es++z)=ai/\rM.v (fs es++z)=(Lib.rs es,((fs es).size:az))):=by
 have h1:=U203.out (fs es++z) (x:=(Lib.rs es,((fs es).size:az))) (by unfold U203.vo U203.b;have:=go (fs es++z) ht z hz es hes 0 Lib.cW [] (bz _) (bz _) (by rw[gd]) (cK (by omega));rw[bT,gi]at this;exact this);obtain⟨R,s1,s2,_⟩:=rM.same (fs es++z);refine⟨h1,s1.1, ?_⟩
 rw[s1.2,<-s2.2,h1.2]
end T2

namespace iA
theorem wA{k b:aq}{s l:az}(h:iI.v k s l b=ai):(jI.rU k s l b).size<=1000:=by have hr:=iI.Gg h;have z1:(bytesOf (Lib.vb (k.size:az))).size<=64:=Lib.nr (x:=(k.size:az)) (by omega);have z2:(bytesOf (Lib.vb s)).size<=64:=Lib.nr (x:=s) (by omega);have z3:(bytesOf (Lib.vb l)).size<=64:=Lib.nr (x:=l) (by omega);unfold jI.rU;simp only[Lib.lx];omega
theorem FR{k b:aq}{s l:az}(h:iI.v k s l b=ai):1<=(jI.rU k s l b).size:=by have hr:=iI.Gg h;unfold jI.rU;simp only[Lib.lx];omega
def val(k:aq)(s l:az)(b:aq):aq×aW:=if iI.v k s l b=ai then(fT.fr (jI.rU k s l b),ai)else(⟨#[]⟩,ak)
end iA

namespace jS
def p(d:aU)(n:aq)(i:aE):aW:=db (aL (bQ (ar d i 0))) (aL n)
theorem ok(d:aU)(n:aq)(hl:d.length<=4294967296):c d n=ai/\v d n=Lib.fi (p d n) d.length 0:=by
 refine out d n ?_;unfold vo b;refine pG (p d n) d.length (λm (i:aE)=>l2 Lib.cW (λ(_:aq) (y5 _:az) (_:aU)=>ah y5) (λ(_:aq) (_ _:az) (_:aU)=>ah (-1)) m n 0 (i:az) d) ah (λm i hi hp=> ?_) (λm i hi hp=> ?_) (λm=> ?_) Lib.cW (cK (by omega))
 ·unfold p at hp;simp only[l2,r2,Lib.du,Lib.cQ,Lib.eD,hi,aQ,aM,au,hp]
 ·unfold p at hp;simp only[l2,r2,Lib.du,Lib.cQ,Lib.eD,hi,aQ,aM,au,hp,aA,Lib.di hi (by omega:d.length<=9223372036854775807)]
 ·simp only[l2,r2,Lib.du,bm,bh,aA]
end jS

namespace mJ
def val(d:aU)(n:aq):aq×aW:=if Lib.fi (jS.p d n) d.length 0<0 then(⟨#[]⟩,ak)else(bQ (ar d (Lib.fi (jS.p d n) d.length 0).toNat 1),ai)
theorem Gg(d:aU)(n:aq)(h:¬Lib.fi (jS.p d n) d.length 0<0):0<=Lib.fi (jS.p d n) d.length 0/\Lib.fi (jS.p d n) d.length 0<(d.length:az):=by
 rcases Lib.qN (jS.p d n) d.length 0 with ⟨h1,_⟩|⟨k,h1,h2,h3,_,_⟩
 ·rw[h1]at h;omega
 ·rw[h3];omega
theorem ok(d:aU)(n:aq)(hl:d.length<=4294967296):c d n=ai/\v d n=val d n:=by
 refine out d n ?_;have h:=jS.ok d n hl;unfold vo b val;rw[h.1,h.2,au];by_cases hn:Lib.fi (jS.p d n) d.length 0<0
 ·rw[aF hn,bw hn];rfl
 ·have hr:=Gg d n hn;rw[aK hn,bH hn,aA,aF hr.1,aF hr.2];rfl
end mJ

namespace zu
theorem ok(r:aU)(hl:r.length<=4294967296):c r=ai/\v r=fy.val r:=by
 refine out r ?_;unfold vo b fy.val;have g9:∀a b c,n7.v a b c=kg.v a b c:=λ_ _ _=>rfl
 have key:=jO (fy.el r) r.length (λm (i:aE)=>l2 Lib.cW (λ(y5:aW) (_:aU) (_ _:az) (_:aU)=>ah y5) (λ(_:aW) (_:aU) (_ _:az) (Xq:aU)=>ah (decide ((Xq.length:az)<=30))) m ak r (r.length:az) (i:az) r) (ah ak) (ah (decide ((r.length:az)<=30)))
  (λm i hi hp=>by
   unfold fy.el at hp;simp only[aJ]at hp;obtain⟨h1,h2,h3,h4⟩:=hp;have h3:decide (0<=bZ (ar r i (1+1))/\bZ (ar r i (1+1))<=((bQ (ar r i 1)).size:az))=true:=h3;have h2:decide (((bQ (ar r i 1)).size:az)>20000)=false:=by simpa using h2
   by_cases hz:0<i
   ·have e0:decide ((i:az)>0)=true:=aF (by omega);have mA:i-1<r.length:=by omega
    have h5:b_ (aL (bQ (ar r (i-1) 0))) (aL (bQ (ar r i 0)))=true:=by
     rcases dB _ _▸h4 with q|q
     ·have:i=0:=by simpa using q
      omega
     ·exact q
    simp only[l2,r2,Lib.du,hi,mA,aQ,Lib.cQ,aM,au,aA,Lib.eD,g9,fy.mi,h1,h2,h3,h5,e0,fy.BZ hz (by omega),aY,Lib.di hi (by omega:r.length<=9223372036854775807)]
   ·have e0:decide ((i:az)>0)=false:=aK (by omega);simp only[l2,r2,Lib.du,hi,aQ,Lib.cQ,aM,au,aA,Lib.eD,g9,fy.mi,h1,h2,h3,e0,aY,Lib.di hi (by omega:r.length<=9223372036854775807)])
  (λm i hi hp=>by
   unfold fy.el at hp;cases h1:decide (1<=((bQ (ar r i 0)).size:az)/\((bQ (ar r i 0)).size:az)<=8)with
   |false=>simp only[l2,r2,Lib.du,hi,aQ,Lib.cQ,aM,au,aA,Lib.eD,g9,fy.mi,h1,bV]
   |true=>
   cases h2:decide (((bQ (ar r i 1)).size:az)>20000)with
   |true=>simp only[l2,r2,Lib.du,hi,aQ,Lib.cQ,aM,au,aA,Lib.eD,g9,fy.mi,h1,h2,aY]
   |false=>
   cases h3:decide (0<=bZ (ar r i (1+1))/\bZ (ar r i (1+1))<=((bQ (ar r i 1)).size:az))with
   |false=>simp only[l2,r2,Lib.du,hi,aQ,Lib.cQ,aM,au,aA,Lib.eD,g9,fy.mi,h1,h2,h3,aY,bV]
   |true=>
   rw[h1,h2,show decide (0<=bZ (ar r i 2)/\bZ (ar r i 2)<=((bQ (ar r i 1)).size:az))=ai from h3,bV,bj,bj,bj]at hp;rw[ij]at hp;obtain⟨h4,h5⟩:=hp;have hz:0<i:=by
    have:¬i=0:=by simpa using h4
    omega
   have e0:decide ((i:az)>0)=true:=aF (by omega);have mA:i-1<r.length:=by omega
   simp only[l2,r2,Lib.du,hi,mA,aQ,Lib.cQ,aM,au,aA,Lib.eD,g9,fy.mi,h1,h2,h3,h5,e0,fy.BZ hz (by omega),aY,bV])
  (λm=>by simp only[l2,r2,Lib.du,bm,bh,aA]) Lib.cW (cK (by omega))
 refine key.trans ?_;rw[show decide ((r.length:az)<=30)=decide (r.length<=30)from by rw[cf];omega];cases (cJ r.length).all (fy.el r)<;>cases decide (r.length<=30)<;>rfl
end zu

namespace kh
open Lib (rd el Fi)
open eE (without put SoD vd act Gd kH)
def res(o:aC (ay Fi)):aU×aW:=match o with|some d=>(rd d,ai)|none=>([],ak)
theorem find(l:ay Fi)(n:aq):(Lib.fi (jS.p (rd l) n) l.length 0= -1/\l.find? (λx=>decide (x.n=n))=aj)\/∃i,i<l.length/\Lib.fi (jS.p (rd l) n) l.length 0=(i:az)/\l.find? (λx=>decide (x.n=n))=ah (el l i):=by
 have hq:∀i (hi:i<l.length),jS.p (rd l) n i=decide (l[i].n=n):=λi hi=>by unfold jS.p;rw[J0 hi];exact Lib.fB
 rcases Lib.qN (jS.p (rd l) n) l.length 0 with ⟨e,ha⟩|⟨k,_,hk,e,hp,hb⟩
 ·refine .inl ⟨e,Uh.2 λx hx=> ?_⟩;obtain⟨i,hi,rfl⟩:=dy hx;rw[<-hq i hi,ha i (by omega) (by omega)];simp
 ·have ui:k<l.length:=by omega
  refine .inr ⟨k,ui,e, ?_⟩;rw[zl];exact⟨by rw[fQ ui,<-hq k ui];exact hp,k,ui,(fQ ui).symm,λj hj=>by rw[<-hq j (by omega),hb j (by omega) hj];rfl⟩
theorem okc(d:ay Fi)(h:d.length<=1000000):zu.c (rd d)=ai/\zu.v (rd d)=vd d:=zu.ok (rd d) (by rw[gq];omega)
end kh

namespace vB
theorem ok(l:aU)(hl:l.length<=4294967296):c l=ai/\v l=l:=by refine out l ?_;unfold vo b;rw[show bP (aN [Ck.s,Ck.i ao,Ck.i ao,Ck.s] 0)+l.length=l.length by simp[aN],Lib.cC (by omega) (by omega)];rfl
end vB

namespace B7
theorem ok(l:aU)(k:aq)(hc:l.all ov.cn=ai)(hl:l.length<=4294967296):c l k=ai/\v l k=l.filter (ov.keep k):=by have h1:=vB.ok l hl;have h2:=ov.ok l k hc hl;exact out l k (by unfold vo b;rw[h1.1,h1.2,h2.1,h2.2,au,au])
end B7

namespace tP
theorem BV(p q:ay CV->aW):∀r:aU,(∀y∈r,q y= !p y)->r.Pairwise (λy z=>p z=ai->p y=ai)->r.takeWhile p=r.filter p/\r.dropWhile p=r.filter q
 |[],_,_=>⟨rfl,rfl⟩
 |y::r,hq,h=>by
  rw[pQ]at h;have hy:=hq y (by simp);cases hp:p y with
  |true=>rw[hp]at hy;obtain⟨i1,i2⟩:=BV p q r (λz hz=>hq z (by simp[hz])) h.2;rw[pA hp,dn hp,List.dropWhile_cons_of_pos hp,cj (by rw[hy];simp),i1,i2];exact⟨rfl,rfl⟩
  |false=>
   rw[hp]at hy;have hn:¬p y=true:=by rw[hp];simp
   have ha:∀z∈r,p z=false:=λz hz=>by
    cases CJ:p z with
    |false=>rfl
    |true=>exact cE (h.1 z hz CJ) hn
   rw[pz hn,cj hn,List.dropWhile_cons_of_neg hn,dn (by rw[hy];rfl)];refine⟨?_, ?_⟩
   ·symm;rw[List.filter_eq_nil_iff];intro z hz;rw[ha z hz];simp
   ·congr 1;symm;rw[gK];intro z hz;rw[hq z (by simp[hz]),ha z hz];rfl
theorem abC{r:aU}(h:∀y∈r,fI.cr y=y):r.all ov.cn=true:=by rw[bu];intro y hy;rw[<-h y hy];rfl
theorem ok(r:aU)(k:aq)(s l:az)(b0:aq)(hO:fI.Or r)(hl:r.length<=1048576):c r k s l b0=ai/\v r k s l b0=fI.val r k s l b0:=by
 refine out r k s l b0 ?_;have hd:=B7.ok r k (abC hO.2) (by omega);unfold vo b;rw[hd.1,au,hd.2];have N1:(r.filter (ov.keep k)).length<=r.length:=eH _ _;have hke:∀y,ov.keep k y= !List.beq (fI.key y) (aL k):=λ_=>rfl;have htw:=BV (fI.pl k) (fI.pg k) (r.filter (ov.keep k)) (λy hy=>by
  have h2:=(dt.1 hy).2;rw[hke]at h2;have h3:db (fI.key y) (aL k)=false:=by simpa using h2
  unfold fI.pg fI.pl;rw[h3,Bool.or_false]) ((hO.1.sublist jm).imp (λ{y z} hyz hz=>fI.pX _ _ _ hyz hz))
 have e1:(r.filter (ov.keep k)).filter (fI.pl k)=r.filter (fI.pl k):=by
  rw[Mx];apply pM;intro y _;cases h:fI.pl k y with
  |false=>rfl
  |true=>
   rw[hke,bj];cases h2:db (fI.key y) (aL k)with
   |false=>rfl
   |true=>exfalso;have h3:=Lib.beq_iff.1 h2;unfold fI.pl at h;rw[h3,fI.n_]at h;cases h
 have e2:(r.filter (ov.keep k)).filter (fI.pg k)=r.filter (fI.pg k):=by rw[Mx];apply pM;intro y _;rw[hke];unfold fI.pg;cases db (fI.key y) (aL k)<;>cases b_ (fI.key y) (aL k)<;>rfl
 generalize r.filter (ov.keep k)=o at N1 htw e1 e2
 have:=wz (fI.pl k) o (λm (i:aE)=>l3 Lib.cW (λ(y6:az) (y7:aq) (y8 y9:az) (Ml:aq) (yL:aU)=>bif(decide (0<=y6)&&decide (y6<=(↑(bP yL):az))&&cB (bP yL+bP (ax (aN [Ck.s,Ck.i ao,Ck.i ao,Ck.s] 1) 0 [CV.s y7,CV.i ao y8,CV.i ao y9,CV.s Ml])) 48)then(ah (Pu.yr yL (aZ y6) (ax (aN [Ck.s,Ck.i ao,Ck.i ao,Ck.s] 1) 0 [CV.s y7,CV.i ao y8,CV.i ao y9,CV.s Ml])))else(aj)) m (i:az) k s l b0 o)
  (λa=>bif decide ((a:az)<=(o.length:az))then ah (Pu.yr o a [fI.nw k s l b0])else aj)
  (λm i h hp=>by
   have mA:b_ (aL (bQ (ar o i 0))) (aL k)=true:=by rw[Lib.dF h];exact hp
   simp only[l3,r3,Lib.du,h,aQ,Lib.cQ,aM,au,Lib.eD,mA,Lib.di h (by omega:o.length<=9223372036854775807)])
  (λm i h hp=>by
   have mA:b_ (aL (bQ (ar o i 0))) (aL k)=false:=by rw[Lib.dF h];exact hp
   simp only[l3,r3,Lib.du,h,aQ,Lib.cQ,aM,bj,o0,au,aA,Lib.eD,mA,Lib.j8,bB,Lib.cC (n:=o.length+1) (b:=48) (by omega) (by omega)];rfl)
  (λm=>by simp only[l3,r3,Lib.du,bm,bh,aQ,Lib.cQ,aM,bj,o0,au,aA,Lib.eD,Lib.j8,bB,Lib.cC (n:=o.length+1) (b:=48) (by omega) (by omega)];rfl) Lib.cW (cK (by omega))
 refine this.trans ?_;have hle:=H6 (fI.pl k) o;rw[aF (by omega),au];unfold Pu.yr fI.val;rw[Ad,zR,htw.1,htw.2,e1,e2,fI.Fl hO.2,fI.Fl hO.2]
end tP

namespace vH
theorem ok(d:aU)(n:aq)(hl:d.length<=4294967296):c d n=ai/\v d n=Lib.fi (jS.p d n) d.length 0:=by
 refine out d n ?_;unfold vo b;refine pG (jS.p d n) d.length (λm (i:aE)=>l2 Lib.cW (λ(_:aU) (_:aq) (y7 _ _:az)=>ah y7) (λ(_:aU) (_:aq) (_ _ _:az)=>ah (-1)) m d n 0 (d.length:az) (i:az)) ah (λm i hi hp=> ?_) (λm i hi hp=> ?_) (λm=> ?_) Lib.cW (cK (by omega))
 ·unfold jS.p at hp;simp only[l2,r2,Lib.du,Lib.cQ,Lib.eD,hi,aQ,aM,au,PK.v,hp]
 ·unfold jS.p at hp;simp only[l2,r2,Lib.du,Lib.cQ,Lib.eD,hi,aQ,aM,au,PK.v,hp,aA,Lib.di hi (by omega:d.length<=9223372036854775807)]
 ·simp only[l2,r2,Lib.du,bm,bh,aA]
end vH

namespace AE
theorem ok(d:aU)(n:aq)(hl:d.length<=4294967296):c d n=ai/\v d n=Lib.fi (jS.p d n) d.length 0:=by have h:=vH.ok d n hl;exact out d n (by unfold vo b;rw[h.1,h.2,au])
end AE

namespace AD
theorem ok(d:aU)(n:aq)(hl:d.length<=4294967296):c d n=ai/\v d n=mJ.val d n:=by
 refine out d n ?_;have h:=AE.ok d n hl;unfold vo b mJ.val;rw[h.1,h.2,au];by_cases hn:Lib.fi (jS.p d n) d.length 0<0
 ·rw[aF hn,bw hn];rfl
 ·have hr:=mJ.Gg d n hn;rw[aK hn,bH hn,aA,aF hr.1,aF hr.2];rfl
end AD

namespace rI
def nm:aq:={data:= #[aw 107,aw 101,aw 112,aw 116]}
theorem both(rec:aU)(hr:rec.length<=20000):∀(d i:aE) (o:aU) (n m:aE),rec.length-i<=d->i<=rec.length->fI.Or o->o.length<=i->d<n->d<m->
  ∃L:aU,U118.l7 Lib.cW (λ(_ _:az) (y6:aU) (_:aU)=>ah y6) n (rec.length:az) (i:az) o rec=ah L/\l7 Lib.cW (λ(_:az) (y4 _:aU)=>ah y4) m (i:az) o rec=ah L/\fI.Or L/\L.length<=20000:=by
 have e1:∀t,xX.v t=jC.v t:=λ_=>rfl;intro d;induction d with
 |zero=>
  intro i o n m h1 h2 hO h3 h4 h5;obtain⟨n,rfl⟩:∃n',n=n'+1:=⟨n-1,by omega⟩
  obtain⟨m,rfl⟩:∃m',m=m'+1:=⟨m-1,by omega⟩
  have jt:decide ((i:az)<(rec.length:az))=false:=aK (by omega);exact⟨o,by simp only[U118.l7,U118.r7,jt,aA],by simp only[l7,r7,jt,aA],hO,by omega⟩
 |succ d ih=>
  intro i o n m h1 h2 hO h3 h4 h5;obtain⟨n,rfl⟩:∃n',n=n'+1:=⟨n-1,by omega⟩
  obtain⟨m,rfl⟩:∃m',m=m'+1:=⟨m-1,by omega⟩
  by_cases hi:i<rec.length
  ·have hw:bJ ((i:az)+1)=((i+1:aE):az):=c5 (by omega) (by omega);cases b7:(jC.v (bQ (ar rec i 0))).2.2.2.2 with
   |false=>
    obtain⟨L,g1,g2,g3,g4⟩:=ih (i+1) o n m (by omega) hi hO (by omega) (by omega) (by omega);refine⟨L, ?_, ?_,g3,g4⟩
    ·simp only[U118.l7,U118.r7,Lib.du,hi,aQ,Lib.cQ,aM,au,Lib.eD,e1,b7,aA,hw];exact g1
    ·simp only[l7,r7,Lib.du,hi,aQ,Lib.cQ,aM,au,Lib.eD,b7,aA,hw];exact g2
   |true=>
    have p1:=fI.ok o (jC.v (bQ (ar rec i 0))).1 (jC.v (bQ (ar rec i 0))).2.1 (jC.v (bQ (ar rec i 0))).2.2.1 (jC.v (bQ (ar rec i 0))).2.2.2.1 (by omega);have p2:=tP.ok o (jC.v (bQ (ar rec i 0))).1 (jC.v (bQ (ar rec i 0))).2.1 (jC.v (bQ (ar rec i 0))).2.2.1 (jC.v (bQ (ar rec i 0))).2.2.2.1 hO (by omega);have p3:=fI.v9 hO (jC.v (bQ (ar rec i 0))).1 (jC.v (bQ (ar rec i 0))).2.1 (jC.v (bQ (ar rec i 0))).2.2.1 (jC.v (bQ (ar rec i 0))).2.2.2.1;obtain⟨L,g1,g2,g3,g4⟩:=ih (i+1) _ n m (by omega) hi p3.1 (by omega) (by omega) (by omega);refine⟨L, ?_, ?_,g3,g4⟩
    ·simp only[U118.l7,U118.r7,Lib.du,hi,aQ,Lib.cQ,aM,au,Lib.eD,e1,b7,p2.1,p2.2,hw];exact g1
    ·simp only[l7,r7,Lib.du,hi,aQ,Lib.cQ,aM,au,Lib.eD,b7,p1.1,p1.2,hw];exact g2
  ·have jt:decide ((i:az)<(rec.length:az))=false:=aK (by omega);exact⟨o,by simp only[U118.l7,U118.r7,jt,aA],by simp only[l7,r7,jt,aA],hO,by omega⟩
theorem same(d:aU)(hd:d.length<=1048576):∃L:aU,(c d=ai/\v d=L)/\(U118.c d=ai/\U118.v d=L)/\(∀y∈L,y.length=4)/\L.length<=20000:=by
 have k1:=fy.ok d (by omega);have k2:=zu.ok d (by omega);cases hv:fy.val d with
 |false=>
  refine⟨[],out d ?_,U118.out d ?_,λy hy=>(by cases hy),bz _⟩
  ·unfold vo b;rw[k1.1,k1.2,hv];rfl
  ·unfold U118.vo U118.b;rw[k2.1,k2.2,hv];rfl
 |true=>
  have k3:=mJ.ok d nm (by omega);have k4:=AD.ok d nm (by omega);obtain⟨R,u1,u2,u3⟩:=rM.same (mJ.val d nm).1;obtain⟨L,g1,g2,g3,g4⟩:=both R.1 u3 R.1.length 0 [] Lib.cW Lib.cW (by omega) (bz _) ⟨gM,λy hy=>(by cases hy)⟩ (bz _) (cK (by omega)) (cK (by omega));refine⟨L,out d ?_,U118.out d ?_,λy hy=>(by rw[<-g3.2 y hy];rfl),g4⟩
  ·unfold nm at k3 u1;unfold vo b;rw[k1.1,k1.2,hv,au,aY,aA,k3.1,au,k3.2,u1.1,au,u1.2];exact g2
  ·unfold nm at k4 u2;unfold U118.vo U118.b;rw[k2.1,k2.2,hv,au,aY,aA,k4.1,au,k4.2,u2.1,au,u2.2];exact g1
end rI

namespace jy
def kept:aq:={data:= #[aw 107,aw 101,aw 112,aw 116]}
def mw(f:aq):aU:=[[CV.i ao 1,CV.s kept,CV.s f,CV.s {data:= #[]}],[CV.i ao 2,CV.s kept,CV.s {data:= #[]},CV.s {data:= #[]}]]
def val(k:aq)(s l:az)(b:aq):aU×aW:=if iI.v k s l b=ai then(mw (fT.fr (jI.rU k s l b)),ai)else([],ak)
end jy

namespace kM
open Lib (rd re rs el Fi En)
open eE (vd kH act mw Gd put without ra Ac nt)
open gT (So mD fS)
open T2 (fs Stop)
abbrev qm:aq:={data:= #[aw 107,aw 101,aw 112,aw 116]}
def rU(e:En):aq:=jI.rU e.k e.st e.li e.bo
def Dk(e:En):aW:=iI.v e.k e.st e.li e.bo
def Jq(e:En):aq:=fT.fr (rU e)
def tx(es:ay En):aq:=fs (es.map rU)
def kp(es:ay En):ay En:=es.foldl mD []
theorem abO(a b:ay aq):fs (a++b)=fs a++fs b:=by
 induction a with
 |nil=>exact oQ.symm
 |cons x a ih=>rw[Ar];show fT.fr x++fs (a++b)=fT.fr x++fs a++fs b;rw[ih,B1]
theorem Xj(es:ay En)(e:En):tx (es++[e])=tx es++Jq e:=by unfold tx;rw[c8,abO];show fs (es.map rU)++(fT.fr (rU e)++⟨#[]⟩)=_;rw[show(⟨#[]⟩:aq)=F2 from rfl,pK];rfl
theorem Xk{e:En}(h:Dk e=ai):1<=(rU e).size/\(rU e).size<=1000:=⟨iA.FR h,iA.wA h⟩
theorem yF{en:ay En}(h:So en)(e:En):So (mD en e):=by have:=(fI.v9 (gT.Bw h) e.k e.st e.li e.bo).1.1;rw[gT.sN]at this;unfold Lib.re at this;rw[jV]at this;exact this
theorem pk{en:ay En}{x e:En}:x∈mD en e↔x=e\/(x∈en/\x.k≠e.k):=by
 unfold mD;simp only[a_,dt,aX,dz,ij,gO];constructor
 ·rintro ((⟨h1,h2⟩|rfl)|⟨h1,h2⟩)
  ·refine .inr ⟨h1,λe2=> ?_⟩;rw[e2]at h2;unfold fS at h2;rw[fI.n_]at h2;cases h2
  ·exact .inl rfl
  ·exact .inr ⟨h1,h2.2⟩
 ·rintro (rfl|⟨h1,h2⟩)
  ·exact .inl (.inr rfl)
  ·cases hl:fS x.k e.k with
   |true=>exact .inl (.inl ⟨h1,rfl⟩)
   |false=>exact .inr ⟨h1,rfl,h2⟩
theorem acz{es:ay En}{x:En}(h:x∈kp es):x∈es:=by
 have:∀(es o:ay En),x∈es.foldl mD o->x∈o\/x∈es:=by
  intro es;induction es with
  |nil=>intro o h;exact .inl h
  |cons e es ih=>
   intro o h;rcases ih _ h with h|h
   ·rcases pk.1 h with rfl|h
    ·exact .inr (by simp)
    ·exact .inl h.1
   ·exact .inr (by simp[h])
 rcases this es [] h with h|h
 ·cases h
 ·exact h
theorem Q0(es:ay En):(kp es).length<=es.length:=by
 have:∀(es o:ay En),So o->(es.foldl mD o).length<=o.length+es.length:=by
  intro es;induction es with
  |nil=>intro o h;exact cu _
  |cons e es ih=>intro o h;have:=ih _ (yF h e);have:=gT.tw o e h;simp only[Ci,cY];omega
 have:=this es [] gM;rw[jo,bT]at this;exact this
theorem fileAt(d:ay Fi)(n:aq):mJ.val (rd d) n=match d.find? (λx=>decide (x.n=n))with|some f=>(f.t,ai)|none=>(⟨#[]⟩,ak):=by
 unfold mJ.val;rw[gq];rcases kh.find d n with ⟨e1,e2⟩|⟨i,hi,e1,e2⟩
 ·rw[e1,e2];rfl
 ·rw[e1,e2,bH (by omega),dU,wd1 hi];rfl
theorem aqV(es:ay En)(he:∀e∈es,Dk e=ai)(hl:es.length<=20000):∀(d i n:aE) (o:ay En),es.length-i<=d->i<=es.length->So o->o.length<=i->d<n->
  U118.l7 Lib.cW (λ(_ _:az) (y6:aU) (_:aU)=>ah y6) n (es.length:az) (i:az) (re o) (rs (es.map rU))=ah (re ((es.drop i).foldl mD o)):=by
 have e1:∀t,xX.v t=jC.v t:=λ_=>rfl;intro d;induction d with
 |zero=>
  intro i n o h1 h2 hO h3 h5;obtain⟨n,rfl⟩:∃n',n=n'+1:=⟨n-1,by omega⟩
  have:i=es.length:=by omega
  subst this;simp only[U118.l7,U118.r7,Lib.du,bm,bh,aA,dh,Ui]
 |succ d ih=>
  intro i n o h1 h2 hO h3 h5;obtain⟨n,rfl⟩:∃n',n=n'+1:=⟨n-1,by omega⟩
  by_cases hi:i<es.length
  ·have CE:i<(es.map rU).length:=by simpa using hi
   have hk:=he _ (bC hi);have hr:jC.v (rU es[i])=(es[i].k,es[i].st,es[i].li,es[i].bo,ai):=jC.enc _ _ _ _ hk;have hp:=tP.ok (re o) es[i].k es[i].st es[i].li es[i].bo (gT.Bw hO) (by rw[dO];omega);rw[gT.sN o es[i]]at hp;have hg:(es.map rU)[i]=rU es[i]:=by simp
   simp only[U118.l7,U118.r7,Lib.du,hi,dZ,bN,aQ,Lib.cQ,aM,au,Lib.eD,TS CE,hg,bQ,e1,hr,hp.1,hp.2,Lib.di hi (by omega:es.length<=9223372036854775807)];rw[dG hi,Ci];exact ih (i+1) n _ (by omega) hi (yF hO _) (by have:=gT.tw o es[i] hO;omega) (by omega)
  ·have:i=es.length:=by omega
   subst this;simp only[U118.l7,U118.r7,Lib.du,bm,bh,aA,dh,Ui]
theorem fk(d:ay Fi)(es:ay En)(z:aq)(hd:vd d=ai)(hf:(mJ.val (rd d) qm).1=tx es++z)(he:∀e∈es,Dk e=ai)(hz:Stop z):
  (U118.c (rd d)=ai/\U118.v (rd d)=re (kp es))/\(rI.c (rd d)=ai/\rI.v (rd d)=re (kp es)):=by
 obtain⟨q1,q2,q3⟩:=kH.1 hd;have hs:(tx es++z).size<=20000:=by
  rw[<-hf,fileAt];cases h:d.find? (λx=>decide (x.n=qm))with
  |none=>exact bz _
  |some f=>have:=q2 f (F8 h);unfold nt at this;simp only[aJ,bc,dz,gO]at this;show f.t.size<=20000;omega
 have hl:es.length<=20000:=by
  have:∀es:ay En,es.length<=(tx es).size:=by
   intro es;induction es with
   |nil=>exact cu _
   |cons e es ih=>
    have:(tx (e::es)).size=(Jq e).size+(tx es).size:=dv;have h2:4<=(Jq e).size:=by unfold Jq fT.fr;rw[dv,dv,T2.oc];omega
    rw[this,cY];omega
  have h2:=this es;rw[dv]at hs;omega
 have u:=T2.ok (es.map rU) (λx hx=>by obtain⟨e,h,rfl⟩:=cO.1 hx;have:=Xk (he e h);omega) z hz hs;have k2:=kh.okc d (by omega);have k4:=AD.ok (rd d) qm (by rw[gq];omega);have h1:=U118.out (rd d) (x:=re (kp es)) (by unfold U118.vo U118.b;rw[k2.1,k2.2,hd,au,aY,aA,k4.1,au,k4.2,hf];have hu:=u.1;rw[show fs (es.map rU)=tx es from rfl]at hu;rw[hu.1,au,hu.2];dsimp only;rw[dZ,bN];have:=aqV es he hl es.length 0 Lib.cW [] (by omega) (bz _) gM (bz _) (cK (by omega));rw[gd]at this;exact this);obtain⟨L,s1,s2,_⟩:=rI.same (rd d) (by rw[gq];omega);refine⟨h1,s1.1, ?_⟩
 rw[s1.2,<-s2.2,h1.2]
def base:aC aq->ay Fi
 |none=>[]|some t=>[⟨qm,t,t.size⟩]
def bt:aC aq->aq|none=>⟨#[]⟩|some t=>t
def yZ(f:aq):ay Ac:=[⟨1,qm,f,⟨#[]⟩⟩,⟨2,qm,⟨#[]⟩,⟨#[]⟩⟩]
theorem ok1(f:Fi):vd [f]=nt f:=by
 cases h:nt f with
 |true=>exact kH.2 ⟨by simp,λg hg=>by rw[aX.1 hg];exact h,by unfold eE.SoD;simp⟩
 |false=>
  cases h2:vd [f]with
  |false=>rfl
  |true=>have:=(kH.1 h2).2.1 f (by simp);rw[h]at this;cases this
theorem abN(t:aq)(k:az)(h1:t.size<=20000)(h2:0<=k/\k<=(t.size:az)):nt ⟨qm,t,k⟩=true:=by unfold nt;have:((qm.size:aE):az)=4:=rfl;rw[this,aF (by omega),aF h2,aK (by dsimp only;omega)];rfl
theorem s8{o:aC aq}(h:(bt o).size<=20000):vd (base o)=true:=by
 cases o with
 |none=>exact kH.2 ⟨bz _,⟨λf hf=>(by cases hf),gM⟩⟩
 |some t=>exact(ok1 _).trans (abN t _ h ⟨by omega,by omega⟩)
theorem we{g f:Fi}(h:g.n=f.n):put [g] f=[f]:=by unfold put;rw[cj (by rw[h,eE.irrefl];simp),cj (by simp[h])];rfl
theorem abk{o:aC aq}{f:aq}(h:(bt o).size+f.size<=20000):act (base o) 1 qm f ⟨#[]⟩=ah [⟨qm,bt o++f,(bt o).size⟩]:=by
 unfold act;rw[s8 (by omega),show eE.la 1 f ⟨#[]⟩=ai from by unfold eE.la;simp,aM,au];have hs:(bt o++f).size<=20000:=by rw[dv];omega
 have hn:Gd (base o) 1 qm f ⟨#[]⟩=ah [⟨qm,bt o++f,(bt o).size⟩]:=by
  cases o with
  |none=>unfold Gd;show(if(1:az)=1 then ah (put [] ⟨qm,f,0⟩)else aj)=_;rw[bw rfl];show ah [(⟨qm,f,0⟩:Fi)]=ah [⟨qm,(⟨#[]⟩:aq)++f,((⟨#[]⟩:aq).size:az)⟩];rw[show(⟨#[]⟩:aq)++f=f from oQ];rfl
  |some t=>unfold Gd;rw[show(base (ah t)).find? (λx=>decide (x.n=qm))=ah ⟨qm,t,t.size⟩from by unfold base;simp];dsimp only;rw[bw rfl];exact kX ah (we rfl)
 rw[hn];dsimp only;rw[ok1,abN _ _ hs ⟨by omega,by rw[dv];omega⟩];rfl
theorem Vt{t:aq}{k:az}(h:t.size<=20000)(hk:0<=k/\k<=(t.size:az)):act [⟨qm,t,k⟩] 2 qm ⟨#[]⟩ ⟨#[]⟩=ah (base (ah t)):=by
 unfold act;rw[ok1,abN _ _ h hk,show eE.la 2 ⟨#[]⟩ ⟨#[]⟩=ai from by unfold eE.la;simp,aM,au];have hn:Gd [⟨qm,t,k⟩] 2 qm ⟨#[]⟩ ⟨#[]⟩=ah (base (ah t)):=by unfold Gd;rw[show([⟨qm,t,k⟩]:ay Fi).find? (λx=>decide (x.n=qm))=ah ⟨qm,t,k⟩from by simp];dsimp only;rw[bH (by omega),bw rfl];exact kX ah (we rfl)
 rw[hn];dsimp only;rw[s8 (o:=ah t) h];rfl
theorem QW{o:aC aq}{f:aq}(h:(bt o).size+f.size<=20000):mw (base o) 0 (yZ f)=(base (ah (bt o++f)),2):=by have hs:(bt o++f).size=(bt o).size+f.size:=dv;unfold yZ mw;dsimp only;rw[abk h];dsimp only;unfold mw;dsimp only;rw[Vt (by omega) ⟨by omega,by omega⟩];rfl
theorem MF(o:aC aq):(mJ.val (rd (base o)) qm).1=bt o:=by
 rw[fileAt];cases o with
 |none=>rfl
 |some t=>rw[show(base (ah t)).find? (λx=>decide (x.n=qm))=ah ⟨qm,t,t.size⟩from by unfold base;simp];rfl
def kd(es:ay En):ay Fi:=base (match es with|[]=>aj|_=>ah (tx es))
theorem aqf(es:ay En):∃o,kd es=base o/\bt o=tx es:=by
 cases es with
 |nil=>exact⟨aj,rfl,rfl⟩
 |cons e es=>exact⟨ah (tx (e::es)),rfl,rfl⟩
end kM

namespace uv
open Lib (Px Cl Fe En el)
def ec(f:aE)(st:az)(t:aq)(c:Cl):Cl:=bif decide (c.fe=(f:az)+1)&&decide (c.sta=1)then{c with sta:=st,got:=t}else c
def nK(cl:ay Cl)(f:aE)(st:az)(t:aq):ay Cl:=cl.map (ec f st t)
theorem kF{α:Type}(l:ay α)(g:α->α):l.mapIdx (λ_ c=>g c)=l.map g:=by apply kS<;>simp
end uv

namespace iF
open Lib (Px Cl Fe En el)
open mo (iy)
open uv (nK)
def tY(p:Px)(f:az):aW:=iy p&&(decide (0<=f/\f<=(p.fe.length:az)-1)&&decide ((el p.fe f.toNat).sta=1))
def told(p:Px)(f:aE)(g:Fe)(st:az):Px:={p with fe:=p.fe.set f g,cl:=nK p.cl f st g.t}
theorem jh{p:Px}{f:az}(h:tY p f=ai):∃n:aE,f=(n:az)/\n<p.fe.length/\iy p=ai/\(el p.fe n).sta=1:=by unfold tY at h;simp only[aJ,bc]at h;obtain⟨h1,h2,h3⟩:=h;exact⟨f.toNat,by omega,by omega,h1,h3⟩
theorem nq{p:Px}{n f:aE}{g:Fe}{st:az}(h:p.Fit n):(told p f g st).Fit n:=by
 refine⟨h.en,h.w,h.m,h.s, ?_, ?_⟩
 ·show(p.fe.set f g).length<=n;rw[cm];exact h.fe
 ·show(nK p.cl f st g.t).length<=n;unfold uv.nK;rw[bN];exact h.cl
def yS(p:Px)(f:az):Px×aW:=bif tY p f then(told p f.toNat {el p.fe f.toNat with sta:=3} 3,ai)else(p,ak)
def zd(p:Px)(f:az)(t:aq):Px×aW:=
 bif tY p f&&(decide (1<=t.size/\t.size<=40)&&decide ((el p.fe f.toNat).t.size+t.size<=400))then(told p f.toNat {el p.fe f.toNat with t:=(el p.fe f.toNat).t++t} 1,ai)else(p,ak)
theorem jK{l:ay Fe}{n:aE}{g:Fe}(h:n<l.length):el (l.set n g) n=g:=by rw[fQ (by rw[cm];exact h),jX]
theorem wx(l:ay Fe)(n j:aE)(ys:ay CV)(g:Fe)(h:n<l.length)(hs:jb (Fe.row (el l n)) j ys=Fe.row g):dV (Lib.rf l) n j ys=Lib.rf (l.set n g):=by rw[fQ h]at hs;exact jD Fe.row l n j ys g h hs
theorem Ya{p:Px}(h:iy p=ai)(i:aE)(hi:i<p.fe.length):m_.nt p.now (el p.fe i)=true:=by unfold mo.iy at h;simp only[aJ,bc]at h;obtain⟨_,_,_,_,_,h6,_⟩:=h;rw[bu]at h6;have:=h6 i (by simpa using hi);rw[aJ]at this;exact this.1
end iF

namespace fY
theorem aiS(x:az):0<=bI ed x/\bI ed x<4294967296:=by have e:bI ed x=x%4294967296:=rfl;rw[e];omega
theorem adl(x:az):0<=jr.rd x/\jr.rd x<4294967296:=by unfold jr.rd;cases decide (bL x 2=1)<;>exact aiS _
theorem LO:∀(n:aE) (x:az),0<=x/\x<4294967296->0<=jr.mV n x/\jr.mV n x<4294967296
 |0,_,h=>h
 |n+1,x,_=>LO n _ (adl x)
theorem SY(t:aq):∀(d i:aE) (s:az),0<=s/\s<4294967296->0<=jr.su t d i s/\jr.su t d i s<4294967296
 |0,_,_,h=>h
 |d+1,i,s,h=>SY t d (i+1) _ (LO 8 _ (aiS _))
def keyed(i:aE)(key:aq):aq:=key++bytesOf [[CV.i bg (i:az)]]
def sm(i:aE)(key:aq):az:=jr.su (keyed i key) (keyed i key).size 0 4294967295
def pl(i:aE)(key:aq):aE:=(bL (sm i key) 16).toNat
theorem Ka(i:aE)(key:aq):0<=sm i key/\sm i key<4294967296:=SY _ _ _ _ (by omega)
theorem pl_int(i:aE)(key:aq):bL (sm i key) 16=(pl i key:az):=by have:=Ka i key;have h:0<=bL (sm i key) 16:=Uf _ this.1;unfold pl;omega
theorem BG(i:aE)(key:aq):pl i key<16:=by have:=Ka i key;have h:=Int.tmod_lt_of_pos (sm i key) (show(0:az)<16 by omega);have h2:0<=bL (sm i key) 16:=Uf _ this.1;unfold pl;omega
theorem BR(i:aE)(key:aq):(keyed i key).size=key.size+1:=by unfold keyed;rw[dv,BQ]
theorem ok(i:aE)(key:aq)(hi:i<3)(hk:key.size<=140737488355328):c (i:az) key=ai/\v (i:az) key=(pl i key:az):=by
 refine out _ _ ?_;unfold vo b;have e:(key++bytesOf (ax (aN [Ck.i bg] 1) 0 [CV.i bg (bI bg (i:az))]))=keyed i key:=by
  unfold keyed;match i,hi with
  |0,_=>rfl
  |1,_=>rfl
  |2,_=>rfl
 have hs:=BR i key;have h:=uQ.ok (keyed i key) (by omega);have e2:gj key+gj (bytesOf (ax (aN [Ck.i bg] 1) 0 [CV.i bg (bI bg (i:az))]))=key.size+1:=by rw[oZ,BQ]
 rw[e2,e,aF (by omega),au,h.1,h.2,au];have hp:=pl_int i key;have hl:=BG i key;unfold sm at hp;rw[hp,c5 (by omega) (by omega)]
end fY

namespace mr
open Lib (rr)
theorem run(N:aE)(K0:az->aU->az->az->az->aC R)(K1:az->aU->az->az->az->aU->aC R)(s:ay (ay az))(z y a:az)(hf:iO.nh s)(m:aE)(hm:s.length+1<m)(kr:aU->aC R)
  (h0:s=[]->K0 0 (rr s) z y a=kr []) (h1:K1 s.length (rr s) z y a (rr s)=kr (rr s)):l3 N K0 K1 m 0 (rr s) z y a=kr (rr s):=by
 obtain⟨m,rfl⟩:∃m',m=m'+1:=⟨m-1,by omega⟩
 have hz:∀q:aU,aN [Ck.i ao] 0++q=q:=λq=>rfl;have hci:∀i (h:i<s.length),cB (bP (aN [Ck.i ao] 0)+bP (Lib.ri s[i])) 8=true:=λi h=>by have:=hf.2 _ (bC h);exact Lib.cC (by rw[Lib.fU];simp[aN];omega) (by rw[Lib.fU];simp[aN];omega)
 by_cases hs:s=[]
 ·subst hs;simp only[l3,r3,gg,jo,Tp,Int.lt_irrefl,bh,aA];exact h0 rfl
 ·have hp:0<s.length:=KD.2 hs;have key:=me (R:=R) s.length (λm i (x:aU)=>tW N K0 K1 m (i:az) (rr s) z y a x) (λi=>rr (s.take i)) (kr (rr s)) (λm i h=>by
   have hl:=hf.1;simp only[tW,z_,gg,Lib.du,h,aQ,au,Lib.cQ,bj,Lib.eD,FH h,iD,hci i h,hz,oZ,bB];rw[Lib.cC (by rw[er];omega) (by rw[er];omega),au,Lib.di h (by omega)];have:=od (λq=>[CV.l 3 (Lib.ri q)]) s i h;unfold rr;rw[<-this]) (λm=>by
   simp only[tW,z_,gg,Lib.du,bm,bh,aA,g8];exact h1) m 1 hp (by omega)
  have e:=hci 0 hp;have e0:=FH (l:=s) hp;simp only[l3,r3,aF (show(0:az)<(s.length:az)by omega),au,aM,gg,show decide ((0:az)<=0)=ai from rfl,show aZ 0=0 from rfl,e0,iD,e,hz,au,oZ,gi];rw[show bJ (0+1)=((1:aE):az)from rfl];refine Eq.trans ?_ key;have:=od (λq=>[CV.l 3 (Lib.ri q)]) s 0 hp;unfold rr;rw[show(0+1)=1 from rfl]at this;rw[<-this];rfl
theorem ok(s:ay (ay az))(a:az)(hf:iO.nh s):c (rr s) a=ai/\v (rr s) a=(rr s,a):=by refine out _ _ ?_;unfold vo b;exact run Lib.cW (λ_ _ _ _ y=>ah ([],y)) (λ_ _ _ _ vm Is=>ah (Is,vm)) s a 0 a hf Lib.cW (cK (by have:=hf.1;omega)) (λx=>ah (x,a)) (λ_=>rfl) rfl
end mr

namespace fg
open Lib (rr ri)
def bq(p:aE)(q:ay az):ay az:=q.set p (bif decide (q.getD p 0<15)then q.getD p 0+1 else q.getD p 0)
def Cw(s:ay (ay az))(key:aq):ay (ay az):=s.mapIdx λi q=>bq (fY.pl i key) q
def half(s:ay (ay az)):ay (ay az):=s.map λq=>q.map λn=>cS n 2
def val(s:ay (ay az))(a:az)(key:aq):ay (ay az)×az:=
 bif e7.jU s a then(bif decide (a+1=64)then(half (Cw s key),0)else(Cw s key,a+1))else(s,a)
def fR(q:ay az):ay CV:=[CV.l 3 (ri q)]
theorem HW(q:ay az)(p:aE)(x:az)(h:p<q.length):dV (ri q) p 0 [CV.i ao x]=ri (q.set p x):=jD (λn=>[CV.i ao n]) q p 0 _ x h rfl
theorem FJ(L:ay (ay az))(i:aE)(q:ay az)(h:i<L.length):dV (L.map fR) i 0 [CV.l 3 (ri q)]=(L.set i q).map fR:=jD fR L i 0 _ q h rfl
theorem AU(L:ay (ay az))(i:aE)(h:i<L.length):ar (L.map fR) i 0=CV.l 3 (ri L[i]):=eZ fR L i 0 h
theorem tu{s:ay (ay az)}{a:az}(h:e7.jU s a=ai):s.length=3/\(0<=a/\a<=63)/\∀q∈s,q.length=16/\∀n∈q,0<=n/\n<=15:=by
 unfold e7.jU at h;rw[aJ,aJ]at h;refine⟨cg h.1,cg h.2.1,λq hq=> ?_⟩
 have:=bu.1 h.2.2 q hq;unfold e7.rE at this;rw[aJ]at this;refine⟨cg this.1,λn hn=> ?_⟩
 have:=bu.1 this.2 n hn;unfold e7.Ly at this;exact cg this
theorem nW{q:ay az}{p:aE}(h:p<q.length):q.getD p 0=q[p]:=by simp[jH,h]
theorem ado(K:aq->az->az->az->aU->aC R)(s:ay (ay az))(key:aq)(y a:az)(hs:s.length=3)(hq:∀q∈s,q.length=16/\∀n∈q,0<=n/\n<=15)(hk:key.size<=140737488355328):
  l5 Lib.cW K Lib.cW key 0 y a (rr s)=K key 3 y a (rr (Cw s key)):=by
 refine(nZ fR s (λi q=>bq (fY.pl i key) q) (λm (i:aE) x=>l5 Lib.cW K m key (i:az) y a x) (λx=>K key 3 y a x) (λm i L h h2 hL uX=> ?_) (λm L hL=> ?_) Lib.cW (cK (by omega)))
 ·have hp:=fY.ok i key (by omega) hk;have rP:=fY.BG i key;obtain⟨Il,hn⟩:=hq _ (bC h);have e0:ar (L.map fR) i 0=CV.l 3 (ri s[i]):=by rw[AU L i h2,uX]
  have hb:fY.pl i key<s[i].length:=by omega
  have hx:=hn _ (bC hb);simp only[l5,r5,bN,Lib.du,h2,aQ,au,hp.1,hp.2,Lib.cQ,aM,Lib.eD,e0,iD,Lib.fU,Il,rP,N7 hb,bZ];unfold bq;rw[nW hb];cases hd:decide (s[i][fY.pl i key]<15)with
  |true=>have:=cg hd;rw[au,au,c5 (x:=s[i][fY.pl i key]+1) (by omega) (by omega),HW _ _ _ hb,FJ _ _ _ h2,Lib.di h2 (by omega)]
  |false=>rw[aA,aA,Lib.di h2 (by omega),eR,<-uX,eR]
 ·simp only[l5,r5,bN,Lib.du,hL,bm,bh,aA,hs];rfl
theorem sj{s:ay (ay az)}{key:aq}(hs:s.length=3)(hq:∀q∈s,q.length=16/\∀n∈q,0<=n/\n<=15):(Cw s key).length=3/\∀q∈Cw s key,q.length=16/\∀n∈q,0<=n/\n<=15:=by
 unfold Cw;refine⟨by simp[hs],λq hm=> ?_⟩
 obtain⟨i,hi,rfl⟩:=List.mem_mapIdx.1 hm;obtain⟨Il,hn⟩:=hq _ (bC hi);unfold bq;have hb:fY.pl i key<s[i].length:=by have:=fY.BG i key;omega
 refine⟨by rw[cm];exact Il,λn h=> ?_⟩
 rcases je h with h|h
 ·exact hn n h
 ·rw[nW hb]at h;have hx:=hn _ (bC hb);rw[h];cases hd:decide (s[i][fY.pl i key]<15)with
  |true=>have:=cg hd;rw[au];omega
  |false=>rw[aA];exact hx
theorem ah5(K:az->az->az->az->aU->aC R)(L:ay (ay az))(i:aE)(h:i<L.length)(y a:az)(hl:L.length<=1048576)(hq:L[i].length=16)(hn:∀n∈L[i],0<=n/\n<=15):
  l17 Lib.cW K Lib.cW (i:az) 0 y a (L.map fR)=K i 16 y a ((L.set i (L[i].map λn=>cS n 2)).map fR):=by
 have Yl:L[i].mapIdx (λ_ n=>cS n 2)=L[i].map λn=>cS n 2:=by apply kS<;>simp
 have key:=me (L[i].length) (λm (k:aE) x=>l17 Lib.cW K m (i:az) (k:az) y a x) (λk=>(L.set i (nE L[i] (λ_ n=>cS n 2) k)).map fR) (K i 16 y a ((L.set i (L[i].map λn=>cS n 2)).map fR)) (λm k hk=> ?_) (λm=> ?_) Lib.cW 0 (bz _) (cK (by omega))
 ·rw[BW,eR]at key;exact key
 ·have hu:=qi L[i] (λ_ n=>cS n 2) k (by omega);generalize hU:nE L[i] (λ_ n=>cS n 2) k=U at hu;have hku:k<U.length:=by omega
  have fG:U[k]=L[i][k]:=by subst hU;exact wB _ _ _ hk _
  have ack:U.set k (cS L[i][k] 2)=nE L[i] (λ_ n=>cS n 2) (k+1):=by subst hU;exact sR L[i] (λ_ n=>cS n 2) k hk
  have h2:i<(L.set i U).length:=by simpa using h
  have e0:ar ((L.set i U).map fR) i 0=CV.l 3 (ri U):=by rw[AU _ _ h2,jX]
  have hx:=hn _ (bC hk);have ht:0<=cS L[i][k] 2:=Ue hx.1 (by omega);have Fa:cS L[i][k] 2<=15:=yQ (Tq _ hx.1) hx.2;simp only[l17,r17,bN,cm,Lib.du,h,hku,aQ,au,Lib.cQ,aM,Lib.eD,e0,iD,Lib.fU,N7 hku,bZ,fG];rw[c5 (x:=cS L[i][k] 2) (by omega) (by omega),HW _ _ _ hku,FJ _ _ _ h2,ack,oU,Lib.di hk (by omega)]
 ·have e0:ar ((L.set i (nE L[i] (λ_ n=>cS n 2) L[i].length)).map fR) i 0=CV.l 3 (ri (L[i].map λn=>cS n 2)):=by rw[AU _ _ (by simpa using h),jX,qh,Yl]
  simp only[l17,r17,bN,cm,Lib.du,h,aQ,au,Lib.cQ,aM,Lib.eD,e0,iD,Lib.fU,bm,bh,aA];rw[qh,Yl,hq];rfl
theorem ah3(K:az->az->az->aU->aC R)(s:ay (ay az))(y a:az)(hs:s.length=3)(hq:∀q∈s,q.length=16/\∀n∈q,0<=n/\n<=15):
  l14 Lib.cW K Lib.cW 0 y a (rr s)=K 3 y a (rr (half s)):=by
 have Yl:s.mapIdx (λ_ q=>q.map λn=>cS n 2)=half s:=by unfold half;apply kS<;>simp
 rw[<-Yl];refine(nZ fR s (λ_ q=>q.map λn=>cS n 2) (λm (i:aE) x=>l14 Lib.cW K m (i:az) y a x) (λx=>K 3 y a x) (λm i L h h2 hL uX=> ?_) (λm L hL=> ?_) Lib.cW (cK (by omega)))
 ·obtain⟨Il,hn⟩:=hq _ (bC h);simp only[l14,r14,bN,Lib.du,h2,aQ,au];rw[ah5 _ L i h2 y a (by omega) (by rw[uX];exact Il) (by rw[uX];exact hn),Lib.di h2 (by omega),uX]
 ·simp only[l14,r14,bN,Lib.du,hL,bm,bh,aA,hs];rfl
theorem ok(s:ay (ay az))(a:az)(key:aq)(hf:iO.nh s)(hk:key.size<=140737488355328):c (rr s) a key=ai/\v (rr s) a key=(rr (val s a key).1,(val s a key).2):=by
 refine out _ _ _ ?_;have h1:=mr.ok s a hf;have h2:=e7.ok s a hf;unfold vo b val;rw[h1.1,h1.2,h2.1,h2.2,au,au];cases b7:e7.jU s a with
 |false=>rfl
 |true=>
  obtain⟨hs,ha,hq⟩:=tu b7;obtain⟨b1,b2⟩:=sj (key:=key) hs hq;rw[aY,aA,au,ado _ s key _ _ hs hq hk,c5 (x:=a+1) (by omega) (by omega)];cases hd:decide (a+1=64)with
  |false=>rfl
  |true=>rw[au,au,ah3 _ _ _ _ b1 b2]
end fg

namespace lV
open Lib (rr ri)
def gs(key:aq):aE->ay (ay az)->az->az
 |_,[],x=>x
 |i,q::r,x=>gs key (i+1) r (bif decide (q.getD (fY.pl i key) 0<x)then q.getD (fY.pl i key) 0 else x)
def val(s:ay (ay az))(a:az)(key:aq):az:=bif e7.jU s a then gs key 0 s 15 else 0
theorem E3(key:aq)(s:ay (ay az))(i:aE)(h:i<s.length)(x:az):gs key i (s.drop i) x=gs key (i+1) (s.drop (i+1)) (bif decide (s[i].getD (fY.pl i key) 0<x)then s[i].getD (fY.pl i key) 0 else x):=by rw[dG h];rfl
theorem ok(s:ay (ay az))(a:az)(key:aq)(hf:iO.nh s)(hk:key.size<=140737488355328):c (rr s) a key=ai/\v (rr s) a key=val s a key:=by
 refine out _ _ _ ?_;have h2:=e7.ok s a hf;unfold vo b val;rw[h2.1,h2.2,au];cases b7:e7.jU s a with
 |false=>rfl
 |true=>
  obtain⟨hs,ha,hq⟩:=fg.tu b7;rw[aY,aA,au];have:=Lib.gn (λm (t:aE×az)=>l5 Lib.cW (λ(_:aq) (y6 _:az) (_:aU) (_:az)=>ah y6) m key t.2 (t.1:az) (rr s) a) (λt=>s.length-t.1) (λt=>t.1<=s.length) (λt=>ah (gs key t.1 (s.drop t.1) t.2)) (λm t ht=>by
   obtain⟨i,x⟩:=t;dsimp only at ht⊢;by_cases h:i<s.length
   ·right;have hp:=fY.ok i key (by omega) hk;have rP:=fY.BG i key;obtain⟨Il,hn⟩:=hq _ (bC h);have hb:fY.pl i key<s[i].length:=by omega
    refine⟨(i+1,bif decide (s[i].getD (fY.pl i key) 0<x)then s[i].getD (fY.pl i key) 0 else x),by dsimp only;omega,by dsimp only;omega,by rw[<-E3 key s i h x], ?_⟩
    simp only[l5,r5,gg,Lib.du,h,aQ,au,hp.1,hp.2,Lib.cQ,aM,Lib.eD,FH h,iD,Lib.fU,Il,rP,N7 hb,bZ,Lib.di h (by omega:s.length<=9223372036854775807)];rw[fg.nW hb];cases decide (s[i][fY.pl i key]<x)<;>rfl
   ·left;have:i=s.length:=by omega
    subst this;simp only[l5,r5,gg,Lib.du,bm,bh,aA,dh,gs]) Lib.cW (0,15) (bz _) (cK (by dsimp only;omega))
  simpa using this
end lV

namespace fw
open Lib (rr rs)
theorem ok(w m:ay aq)(s:ay (ay az))(a:az)(hw:w.length<=1048576)(hm:m.length<=1048576)(hf:iO.nh s):c (rs w) (rs m) (rr s) a=ai/\v (rs w) (rs m) (rr s) a=(rs w,rs m,rr s,a):=by have h3:=mr.ok s a hf;have r1:cB (bP (aN [Ck.s] 0)+bP (rs w)) 16=true:=Lib.cC (by simp[aN,dZ];omega) (by simp[aN,dZ];omega);have r2:cB (bP (aN [Ck.s] 0)+bP (rs m)) 16=true:=Lib.cC (by simp[aN,dZ];omega) (by simp[aN,dZ];omega);exact out _ _ _ _ (by unfold vo b;rw[r1,r2,h3.1,h3.2,au,au,au];rfl)
end fw

namespace ot
theorem ok(l:ay aq)(k:aq)(hl:l.length<=1048576):c (Lib.rs l) k=ai/\v (Lib.rs l) k=Lib.rs (eT.without l k):=by
 refine out _ _ ?_;unfold vo b;have key:=me l.length (λm (i:aE) (x:aU)=>l3 Lib.cW (λ(_:aU) (_:aq) (_:az) (y7:aU)=>ah y7) m (Lib.rs l) k (i:az) x) (λi=>Lib.rs (eT.without (l.take i) k)) (ah (Lib.rs (eT.without l k))) (λm i h=>by
  have hlen:=eT.gY (l:=l.take i) (k:=k);rw[er]at hlen;simp only[l3,r3,dZ,Lib.du,h,aQ,Lib.cQ,aM,au,Lib.eD,TS h,bQ,Lib.fB,oZ,bB,Lib.di h (by omega:l.length<=9223372036854775807)];rw[Lib.cC (by omega) (by omega),au];have e:eT.without (l.take (i+1)) k=eT.without (l.take i) k++(bif !decide (l[i]=k)then [l[i]]else []):=by unfold eT.without;rw[dx h,jG];cases hd:decide (l[i]=k)<;>simp[hd]
  rw[e];cases hd:decide (l[i]=k)with
  |true=>rw[aY,aA,aA,dN]
  |false=>rw[bV,au,au];unfold Lib.rs;rw[c8];rfl) (λm=>by
  simp only[l3,r3,dZ,Lib.du,bm,bh,aA,g8]) Lib.cW 0 (bz _) (cK (by omega))
 exact key
end ot

namespace jd
open Lib (rr rs)
open eT (has without gm kV vh gY oM)
open jk (eh JF mO pj iw)
def val(w m:ay aq)(s:ay (ay az))(a:az)(key:aq):ay aq×ay aq×ay (ay az)×az×aq:=
 bif pj w m s a&&eh key then
  bif has w key then(without w key++[key],m,(fg.val s a key).1,(fg.val s a key).2,⟨#[]⟩)
  else bif has m key then(w,without m key++[key],(fg.val s a key).1,(fg.val s a key).2,⟨#[]⟩)
  else bif decide ((w++[key]).length<=2)then(w++[key],m,(fg.val s a key).1,(fg.val s a key).2,⟨#[]⟩)
  else bif decide (m.length<4)then((w++[key]).tail,m++[(w++[key]).getD 0 ⟨#[]⟩],(fg.val s a key).1,(fg.val s a key).2,⟨#[]⟩)
  else bif decide (lV.val (fg.val s a key).1 (fg.val s a key).2 ((w++[key]).getD 0 ⟨#[]⟩)>lV.val (fg.val s a key).1 (fg.val s a key).2 (m.getD 0 ⟨#[]⟩))then
   ((w++[key]).tail,m.tail++[(w++[key]).getD 0 ⟨#[]⟩],(fg.val s a key).1,(fg.val s a key).2,m.getD 0 ⟨#[]⟩)
  else((w++[key]).tail,m,(fg.val s a key).1,(fg.val s a key).2,(w++[key]).getD 0 ⟨#[]⟩)
 else(w,m,s,a,⟨#[]⟩)
theorem BS(l:ay aq)(k:aq):rs l++[[CV.s k]]=rs (l++[k]):=by unfold Lib.rs;rw[c8];rfl
theorem zer(l:ay aq):aN [Ck.s] 0++rs l=rs l:=rfl
theorem Qq(l:ay aq):bQ (ar (rs l) (aZ 0) 0)=l.getD 0 ⟨#[]⟩:=by cases l<;>rfl
theorem S4(l:ay aq):eu (rs l) (aZ 1) (aZ (l.length:az))=rs l.tail:=by unfold eu Lib.rs;rw[show aZ 1=1 from rfl,Lib.eD,List.drop_one,<-List.map_tail,gH (by simp)]
theorem mP{l:ay aq}(h:mO l=ai){k:aq}(hk:k∈l):eh k=true:=by
 unfold mO at h;rw[bu]at h;obtain⟨i,hi,rfl⟩:=dy hk;have:=h i (by simpa using hi);unfold JF at this;rw[aJ]at this;have e:l.getD i ⟨#[]⟩=l[i]:=by simp[jH,hi]
 rw[e]at this;exact this.1
theorem u6{l:ay aq}:mO l=ai↔(∀k∈l,eh k=ai)/\l.Nodup:=by
 constructor
 ·intro h;refine⟨λk hk=>mP h hk, ?_⟩
  rw[oT,dj];intro i j hi hj M1 he;unfold mO at h;rw[bu]at h;have h2:=h j (by simpa using hj);unfold JF at h2;have e:l.getD j ⟨#[]⟩=l[j]:=by simp[jH,hj]
  rw[e,aJ,dz,kV]at h2;refine h2.2 ?_;rw[<-he];have:(l.take j)[i]'(by rw[er];omega)=l[i]:=pN ..;rw[<-this];exact bC _
 ·intro h;unfold mO;rw[bu];intro j hj;have hj:j<l.length:=by simpa using hj
  unfold JF;have e:l.getD j ⟨#[]⟩=l[j]:=by simp[jH,hj]
  rw[e,aJ,dz,kV];refine⟨h.1 _ (bC hj),λhm=> ?_⟩
  obtain⟨i,hi,he⟩:=dy hm;rw[er]at hi;rw[pN]at he;have h2:=h.2;rw[oT,dj]at h2;exact h2 i j (by omega) hj (by omega) he
theorem j6{k:aq}(h:eh k=ai):1<=k.size/\k.size<=30:=by unfold eh at h;have:=cg h;omega
theorem J9{s:ay (ay az)}{a:az}{key:aq}(h:iO.nh s):iO.nh (fg.val s a key).1:=by
 unfold fg.val;cases b7:e7.jU s a with
 |false=>exact h
 |true=>
  obtain⟨hs,_,hq⟩:=fg.tu b7;obtain⟨b1,b2⟩:=fg.sj (key:=key) hs hq;rw[au];cases decide (a+1=64)with
  |false=>exact⟨by rw[aA];dsimp only;omega,λq h=>by have:=(b2 q h).1;omega⟩
  |true=>
   rw[au];dsimp only;unfold fg.half;refine⟨by rw[bN];omega,λq h=> ?_⟩
   obtain⟨q',hq',rfl⟩:=cO.1 h;rw[bN];have:=(b2 q' hq').1;omega
theorem sC{l:ay aq}(h:0<l.length):l.getD 0 ⟨#[]⟩∈l:=by
 cases l with
 |nil=>simp at h
 |cons x r=>exact dA ..
theorem BC{w m:ay aq}{s:ay (ay az)}{a:az}(h:pj w m s a=ai):mO (w++m)=ai/\w.length<=2/\m.length<=4/\e7.jU s a=true:=by unfold pj at h;simp only[aJ,bc]at h;exact⟨h.1,h.2.1,h.2.2.1,h.2.2.2⟩
theorem ok(w m:ay aq)(s:ay (ay az))(a:az)(key:aq)(hw:w.length<=1048576)(hm:m.length<=1048576)(hf:iO.nh s)(hk:key.size<=140737488355328):
  c (rs w) (rs m) (rr s) a key=ai/\v (rs w) (rs m) (rr s) a key=(rs (val w m s a key).1,rs (val w m s a key).2.1,rr (val w m s a key).2.2.1,(val w m s a key).2.2.2.1,(val w m s a key).2.2.2.2):=by
 refine out _ _ _ _ _ ?_;have h1:=fw.ok w m s a hw hm hf;have h2:=jk.ok w m s a hw hm hf;have h3:=fg.ok s a key hf hk;have h4:=eT.ok w key (by omega);have h5:=eT.ok m key (by omega);have h6:=ot.ok w key hw;have h7:=ot.ok m key hm;have sf:=J9 (a:=a) (key:=key) hf;unfold vo b;simp only[Lib.lt,h1.1,h1.2,h2.1,h2.2,au];unfold val;cases hp:pj w m s a with
 |false=>rfl
 |true=>
  obtain⟨p1,p2,p3,p4⟩:=BC hp;rw[iw,bj];cases wM:eh key with
  |false=>rfl
  |true=>
   have zE:=j6 wM;have l6:=gY (l:=w) (k:=key);have l7:=gY (l:=m) (k:=key);simp only[aY,aA,au,h3.1,h3.2,h4.1,h4.2,h5.1,h5.2,h6.1,h6.2,h7.1,h7.2,BS,zer,dZ,oZ,bB];rw[Lib.cC (n:=(without w key).length+1) (by omega) (by omega),Lib.cC (n:=(without m key).length+1) (by omega) (by omega),Lib.cC (n:=w.length+1) (by omega) (by omega)];simp only[au];cases hA:has w key with
   |true=>rfl
   |false=>
    cases hB:has m key with
    |true=>rfl
    |false=>
     simp only[aA];rw[show decide (((w++[key]).length:az)<=2)=decide ((w++[key]).length<=2)by rw[cf];omega];cases hC:decide ((w++[key]).length<=2)with
     |true=>rfl
     |false=>
      have hlw:(w++[key]).length=3:=by have:=nX hC;rw[bW,bB]at this⊢;omega
      have hfm:(w++[key]).getD 0 ⟨#[]⟩∈w++[key]:=sC (by omega);have Jw:((w++[key]).getD 0 ⟨#[]⟩).size<=30:=by
       rcases a_.1 hfm with h|h
       ·exact(j6 (mP p1 (bU _ h))).2
       ·rw[aX]at h;rw[h];exact zE.2
      have g1:=lV.ok (fg.val s a key).1 (fg.val s a key).2 ((w++[key]).getD 0 ⟨#[]⟩) sf (by omega);have i1:iS 1 ((w++[key]).length:az) ((w++[key]).length:az)=true:=by rw[hlw];rfl
      have ht:(w++[key]).tail.length=2:=by rw[zm];omega
      have rz:cB (bP (aN [Ck.s] 0)+(w++[key]).tail.length) 16=true:=Lib.cC (by rw[ht];decide) (by rw[ht];decide);simp only[aA,aF (show(0:az)<((w++[key]).length:az)by omega),i1,au,Qq,S4,rz,zer,BS,dZ,Lib.cC (n:=m.length+1) (b:=16) (by omega) (by omega),g1.1,g1.2];rw[show decide ((m.length:az)<4)=decide (m.length<4)by rw[cf];omega];cases hD:decide (m.length<4)with
      |true=>rfl
      |false=>
       have hm4:m.length=4:=by have:=nX hD;omega
       have Ym:m.getD 0 ⟨#[]⟩∈m:=sC (by omega);have hms:=(j6 (mP p1 (bK _ Ym))).2;have g2:=lV.ok (fg.val s a key).1 (fg.val s a key).2 (m.getD 0 ⟨#[]⟩) sf (by omega);have i2:iS 1 (m.length:az) (m.length:az)=true:=by simp[iS];omega
       have Fa:m.tail.length=3:=by rw[zm];omega
       have rz2:cB (bP (aN [Ck.s] 0)+m.tail.length) 16=true:=Lib.cC (by rw[Fa];decide) (by rw[Fa];decide);simp only[aA,aF (show(0:az)<(m.length:az)by omega),i2,au,rz2,BS,Lib.cC (n:=m.tail.length+1) (b:=16) (by omega) (by omega),g2.1,g2.2];cases decide (lV.val (fg.val s a key).1 (fg.val s a key).2 ((w++[key]).getD 0 ⟨#[]⟩)>lV.val (fg.val s a key).1 (fg.val s a key).2 (m.getD 0 ⟨#[]⟩))<;>rfl
def lens(s:ay (ay az)):ay aE:=s.map bP
theorem DD(s:ay (ay az))(key:aq):lens (fg.Cw s key)=lens s:=by
 unfold lens fg.Cw;apply kS
 ·simp
 ·intro i h1 h2;simp[fg.bq]
theorem Ng(s:ay (ay az)):lens (fg.half s)=lens s:=by unfold lens fg.half;rw[lH];apply NS;intro q _;simp
theorem Vv(s:ay (ay az))(a:az)(key:aq):lens (fg.val s a key).1=lens s:=by
 unfold fg.val;cases e7.jU s a with
 |false=>rfl
 |true=>
  cases decide (a+1=64)with
  |false=>exact DD s key
  |true=>exact(Ng _).trans (DD s key)
theorem Kh(w m:ay aq)(s:ay (ay az))(a:az)(key:aq):(val w m s a key).1.length<=w.length+1/\(val w m s a key).2.1.length<=m.length+1/\lens (val w m s a key).2.2.1=lens s:=by
 have hw:=gY (l:=w) (k:=key);have hm:=gY (l:=m) (k:=key);have hs:=Vv s a key;unfold val;cases pj w m s a&&eh key with
 |false=>exact⟨by rw[aA];exact jc _,by rw[aA];exact jc _,rfl⟩
 |true=>
  rw[au];cases has w key with
  |true=>refine⟨?_, ?_,hs⟩<;>(simp only[au];simp;try omega)
  |false=>
   cases has m key with
   |true=>refine⟨?_, ?_,hs⟩<;>(simp only[au,aA];simp;try omega)
   |false=>
    cases decide ((w++[key]).length<=2)with
    |true=>refine⟨?_, ?_,hs⟩<;>(simp only[au,aA];simp;try omega)
    |false=>
     cases decide (m.length<4)with
     |true=>refine⟨?_, ?_,hs⟩<;>(simp only[au,aA];simp;try omega)
     |false=>
      cases decide (lV.val (fg.val s a key).1 (fg.val s a key).2 ((w++[key]).getD 0 ⟨#[]⟩)>lV.val (fg.val s a key).1 (fg.val s a key).2 (m.getD 0 ⟨#[]⟩))with
      |true=>refine⟨?_, ?_,hs⟩<;>(simp only[au,aA];simp;try omega)
      |false=>refine⟨?_, ?_,hs⟩<;>(simp only[au,aA];simp;try omega)
end jd

namespace lz
open Lib (rr rs re rf rc Px En el)
open eT (has)
open gT (fS So fK mD vM drop_nil Bw sN ET P6 tw)
def Cd(p:Px)(e:En):Px:=
 {p with
  w:=(jd.val p.w p.m p.s p.a e.k).1
  m:=(jd.val p.w p.m p.s p.a e.k).2.1
  s:=(jd.val p.w p.m p.s p.a e.k).2.2.1
  a:=(jd.val p.w p.m p.s p.a e.k).2.2.2.1
  en:=bif has (jd.val p.w p.m p.s p.a e.k).1 e.k||has (jd.val p.w p.m p.s p.a e.k).2.1 e.k then mD (fK p.en (jd.val p.w p.m p.s p.a e.k).2.2.2.2) e else fK p.en (jd.val p.w p.m p.s p.a e.k).2.2.2.2}
theorem ah9{en:ay En}{w m:ay aq}(h:(cJ en.length).all (m9.Gb en w m)=ai):So en/\∀e∈en,1<=e.k.size:=by
 rw[bu]at h;have h1:∀i (hi:i<en.length),m9.Gb en w m i=true:=λi hi=>h i (by simpa using hi);constructor
 ·have adj:∀d i (hi:i+d+1<en.length),fS (el en i).k (el en (i+d+1)).k=true:=by
   intro d;induction d with
   |zero=>
    intro i hi;have:=h1 (i+1) (by omega);unfold m9.Gb at this;rw[aJ,aJ,dB]at this;rcases this.2.1 with h|h
    ·have:=cg h;omega
    ·exact h
   |succ d ih=>
    intro i hi;have a:=ih i (by omega);have:=h1 (i+d+1+1) (by omega);unfold m9.Gb at this;rw[aJ,aJ,dB]at this;rcases this.2.1 with h|h
    ·have:=cg h;omega
    ·exact fI.pX _ _ _ a h
  unfold So;rw[dj];intro i j hi hj M1;have:=adj (j-i-1) i (by omega);rw[show i+(j-i-1)+1=j by omega,fQ hi,fQ hj]at this;exact this
 ·intro e he;obtain⟨i,hi,rfl⟩:=dy he;have:=h1 i hi;unfold m9.Gb m9.tU at this;rw[aJ,fQ hi]at this;exact(iI.Gg this.1).1.1
theorem Fy{p:Px}(h:mo.iy p=ai):So p.en/\(∀e∈p.en,1<=e.k.size)/\p.en.length<=6/\p.w.length<=2/\p.m.length<=4/\p.fe.length<=20/\p.cl.length<=6/\(1<=p.now/\p.now<=1000000000)/\(0<=p.hits/\p.hits<=1000000000)/\jk.pj p.w p.m p.s p.a=ai/\(∀i,i<p.fe.length->m_.nt p.now (el p.fe i)=ai):=by
 unfold mo.iy at h;simp only[aJ,bc]at h;obtain⟨h1,h2,h3,h4,h5,h6,h7⟩:=h;unfold m9.K4 at h2;simp only[aJ,bc]at h2;obtain⟨g1,g2,g3⟩:=h2;obtain⟨s1,s2⟩:=ah9 g1;obtain⟨_,q2,q3,_⟩:=jd.BC g2;refine⟨s1,s2,by omega,q2,q3,h3,h4,h1,h5,g2,λi hi=> ?_⟩
 rw[bu]at h6;have:=h6 i (by simpa using hi);rw[aJ]at this;exact this.1
theorem mR{p:Px}(h:mo.iy p=ai):p.Fit 48:=by
 obtain⟨_,_,a1,a2,a3,a4,a5,_,_,hp,_⟩:=Fy h;obtain⟨_,_,_,hs⟩:=jd.BC hp;unfold e7.jU at hs;simp only[aJ,bc,bu]at hs;obtain⟨s1,_,s3⟩:=hs;have s4:∀q∈p.s,q.length=16:=λq hq=>by have:=s3 q hq;unfold e7.rE at this;rw[aJ,bc]at this;exact this.1
 refine⟨by omega,by omega,by omega,⟨by omega,λq hq=>by rw[s4 q hq];omega, ?_⟩,by omega,by omega⟩
 have:p.s.map bP=uI 3 16:=by
  rw[List.eq_replicate_iff];refine⟨by rw[bN,s1],λx hx=> ?_⟩
  obtain⟨q,hq,rfl⟩:=cO.1 hx;exact s4 q hq
 rw[this];decide
end lz

namespace rV
open Lib (Px Cl Fe En el)
open iF (tY told)
def nA(f:Fe):En:=⟨f.k,f.st,f.li,f.t⟩
def cls(p:Px)(f:az)(life:az):Px×aW:=
 bif tY p f&&decide (0<=life/\life<=999999)then
  (bif decide (life>0)then lz.Cd (told p f.toNat {el p.fe f.toNat with sta:=2,li:=life,st:=p.now} 2) (nA {el p.fe f.toNat with sta:=2,li:=life,st:=p.now})
   else told p f.toNat {el p.fe f.toNat with sta:=2,li:=life,st:=p.now} 2,ai)
 else(p,ak)
theorem GQ{p:Px}{f life:az}:(cls p f life).1.now=p.now/\(cls p f life).1.hits=p.hits:=by
 unfold cls;cases tY p f&&decide (0<=life/\life<=999999)with
 |false=>exact⟨rfl,rfl⟩
 |true=>cases decide (life>0)<;>exact⟨rfl,rfl⟩
end rV

namespace dP
open Lib (Px Cl Fe En el rc rf re)
open eT (has without)
open jk (eh)
open mo (iy)
open gT (So fK)
def vV(e:En)(now:az):aW:=Ih.v e.k e.st e.li e.bo now
def jn(l:ay Cl)(c:Cl):ay Cl:=l.filter (λx=>decide (x.id<c.id))++[c]++l.filter (λx=>decide (x.id>c.id))
def lh(l:ay Cl)(id:az):aW:=l.any λx=>decide (x.id=id)
def Ik(l:ay En)(key:aq):aC En:=l.find? λe=>decide (e.k=key)
def Gf(key:aq)(f:Fe):aW:=decide (f.k=key)&&decide (f.sta=1)
def Nn(l:ay Fe)(key:aq):aC aE:=l.findIdx? (Gf key)
def tX(key:aq):Fe:=⟨key,⟨#[]⟩,1,0,0⟩
def put(p:Px)(id:az)(key:aq)(h:aW)(fe:ay Fe)(i:aE):Px:=
 {p with en:=bif h then fK p.en key else p.en,w:=bif h then without p.w key else p.w,m:=bif h then without p.m key else p.m,s:=(fg.val p.s p.a key).1,a:=(fg.val p.s p.a key).2,fe:=fe,cl:=jn p.cl ⟨id,key,(i:az)+1,0,1,(el fe i).t,0⟩}
def qR(p:Px)(id:az)(key:aq)(h:aW):Px×az:=
 match Nn p.fe key with
 |some i=>(put p id key h p.fe i,0)
 |none=>bif decide (p.fe.length<20)then(put p id key h (p.fe++[tX key]) p.fe.length,0)else(p,2)
def hit(p:Px)(id:az)(key:aq)(e:En):Px:=
 {p with w:=(jd.val p.w p.m p.s p.a key).1,m:=(jd.val p.w p.m p.s p.a key).2.1,s:=(jd.val p.w p.m p.s p.a key).2.2.1,a:=(jd.val p.w p.m p.s p.a key).2.2.2.1,cl:=jn p.cl ⟨id,key,0,e.st,2,e.bo,p.now-e.st⟩,hits:=bif decide (p.hits<1000000000)then p.hits+1 else p.hits}
def ask(p:Px)(id:az)(key:aq):Px×az:=
 bif iy p&&(decide (1<=id/\id<=9)&&(eh key&&(!lh p.cl id&&decide (p.cl.length<6))))then
  match Ik p.en key with
  |some e=>bif vV e p.now then(hit p id key e,0)else qR p id key ai
  |none=>qR p id key ak
 else(p,1)
theorem Jk{α:Type}(l:ay α)(q:α->aW)(p:aE->aW)(h:∀i (hi:i<l.length),p i=q l[i]):decide (Lib.fi p l.length 0≥0)=l.any q:=by
 rcases Lib.qN p l.length 0 with ⟨e,ha⟩|⟨k,_,hk,e,hp,_⟩
 ·rw[e,aK (by omega)];symm;rw[XZ];intro x hx;obtain⟨i,hi,rfl⟩:=dy hx;rw[<-h i hi,ha i (by omega) (by omega)];simp
 ·rw[e,aF (by omega)];symm;rw[List.any_eq_true];exact⟨_,bC (by omega:k<l.length),by rw[<-h k (by omega)];exact hp⟩
theorem zU{α:Type}[Inhabited α](l:ay α)(q:α->aW)(p:aE->aW)(h:∀i (hi:i<l.length),p i=q l[i]):
  (Lib.fi p l.length 0= -1/\l.find? q=aj/\l.findIdx? q=aj)\/∃i,i<l.length/\Lib.fi p l.length 0=(i:az)/\l.find? q=ah (el l i)/\l.findIdx? q=ah i:=by
 rcases Lib.qN p l.length 0 with ⟨e,ha⟩|⟨k,_,hk,e,hp,hb⟩
 ·have hn:∀x∈l,q x=false:=λx hx=>by obtain⟨i,hi,rfl⟩:=dy hx;rw[<-h i hi,ha i (by omega) (by omega)]
  refine .inl ⟨e,Uh.2 λx hx=>by rw[hn x hx];simp,C4.2 hn⟩
 ·have ui:k<l.length:=by omega
  have f:l.findIdx? q=ah k:=wI.2 ⟨ui,by rw[<-h k ui];exact hp,λj hj=>by rw[<-h j (by omega),hb j (by omega) hj];simp⟩;refine .inr ⟨k,ui,e, ?_,f⟩;rw[zl];exact⟨by rw[fQ ui,<-h k ui];exact hp,k,ui,(fQ ui).symm,λj hj=>by rw[<-h j (by omega),hb j (by omega) hj];rfl⟩
def lid(id:az)(y:ay CV):aW:=decide (bZ (y.getD 0 (.b ak))<id)
theorem QU{l:ay Cl}{c:Cl}(cs:l.Pairwise λa b=>a.id<b.id)(hn:lh l c.id=ak):
  (rc l).take ((rc l).takeWhile (lid c.id)).length++[Cl.row c]++(rc l).drop ((rc l).takeWhile (lid c.id)).length=rc (jn l c):=by
 rw[Ad,zR];have il:∀y∈l,y.id≠c.id:=λy hy e=>by unfold lh at hn;rw[XZ]at hn;exact hn y hy (aF e)
 obtain⟨t1,t2⟩:=Lib.BV (λx:Cl=>decide (x.id<c.id)) (λx=>decide (x.id>c.id)) l (λy hy=>by
  have:=il y hy;by_cases h:y.id<c.id
  ·rw[aF h,aK (by omega)];rfl
  ·rw[aK h,aF (by omega)];rfl) (cs.imp λ{a b} hab h=>aF (by have:=cg h;omega))
 unfold Lib.rc;rw[List.takeWhile_map,List.dropWhile_map];have e:lid c.id∘Cl.row=λx:Cl=>decide (x.id<c.id):=rfl;rw[e,t1,t2];unfold jn;rw[c8,c8];rfl
end dP

namespace nu
open Lib (rd el Fi)
open eE (vd kH)
def kN(left:aU)(i:aE)(f:Fi):az:=bif decide (i<left.length)then kW ai f.kp (kW ak (bZ (ar left i 0)) (f.t.size:az))else f.kp
def aft(left:aU)(i:aE)(f:Fi):Fi:=⟨f.n,f.t.extract 0 (kN left i f).toNat,kN left i f⟩
def agC(d:ay Fi)(left:aU):aC (ay Fi):=bif vd d then ah (d.mapIdx (aft left))else aj
theorem acw(left:aU)(i:aE){f:Fi}(h:0<=f.kp/\f.kp<=(f.t.size:az)):f.kp<=kN left i f/\kN left i f<=(f.t.size:az):=by
 unfold kN kW;cases decide (i<left.length)with
 |false=>rw[aA];omega
 |true=>simp only[au,aA];split<;>split<;>omega
end nu

namespace mv
def eo(l:aU)(i:aE):aW:=iI.v (bQ (ar l i 0)) (bZ (ar l i 1)) (bZ (ar l i 2)) (bQ (ar l i 3))
def tx(l:aU)(i:aE):aq:=jI.rU (bQ (ar l i 0)) (bZ (ar l i 1)) (bZ (ar l i 2)) (bQ (ar l i 3))
def fs(l:aU):aE->aE->aq->aC aq
 |0,_,acc=>ah acc
 |d+1,i,acc=>if eo l i=ai then fs l d (i+1) (acc++fT.fr (tx l i))else aj
theorem E1(l:aU)(d i:aE)(acc:aq):fs l (d+1) i acc=if eo l i=ai then fs l d (i+1) (acc++fT.fr (tx l i))else none:=rfl
def fin(o:aC aq)(kf:aC R)(kt:aq->aC R):aC R:=match o with|some x=>kt x|none=>kf
theorem Ux(l:aU)(hl:l.length<=1048576)(F:aE->aE->aq->aC R)(kf:aC R)(kt:aq->aC R)
  (hT:∀m i acc,i<l.length->acc.size<=2000*i->(fT.fr (tx l i)).size<=2000->eo l i=ai->F (m+1) i acc=F m (i+1) (acc++fT.fr (tx l i)))
  (hF:∀m i acc,i<l.length->eo l i=ak->F (m+1) i acc=kf) (hE:∀m acc,F (m+1) l.length acc=kt acc):F Lib.cW 0 ⟨#[]⟩=fin (fs l l.length 0 ⟨#[]⟩) kf kt:=by
 have:=Lib.gn (λn (z:aE×aq)=>F n z.1 z.2) (λz=>l.length-z.1) (λz=>z.1<=l.length/\z.2.size<=2000*z.1) (λz=>fin (fs l (l.length-z.1) z.1 z.2) kf kt) (λm z hz=>by
  obtain⟨i,acc⟩:=z;obtain⟨h1,h2⟩:=hz;dsimp only at h1 h2⊢;by_cases h:i<l.length
  ·have e:l.length-i=(l.length-(i+1))+1:=by omega
   cases ho:eo l i with
   |true=>
    right;have hs:=iA.wA ho;have hf:(fT.fr (tx l i)).size<=2000:=by have:=fT.UP (t:=tx l i) (by unfold tx;omega);unfold tx at this⊢;omega
    exact⟨(i+1,acc++fT.fr (tx l i)),⟨h,by dsimp only;rw[Lib.lx];omega⟩,by dsimp only;omega,by dsimp only;rw[e,E1,bw ho],hT m i acc h h2 hf ho⟩
   |false=>left;rw[hF m i acc h ho,e,E1,bH (by simp[ho])];rfl
  ·left;have:i=l.length:=by omega
   subst this;rw[hE,Nat.sub_self];rfl) Lib.cW (0,⟨#[]⟩) ⟨bz _,bz _⟩ (cK (by dsimp only;omega))
 simpa using this
def nm:aq:={data:= #[aw 110,aw 101,aw 119]}
def mw(has:aW)(x:aq):aU:=(if has=ai then [[CV.i ao 4,CV.s nm,CV.s {data:= #[]},CV.s {data:= #[]}]]else [])++[[CV.i ao 1,CV.s nm,CV.s x,CV.s {data:= #[]}],[CV.i ao 2,CV.s nm,CV.s {data:= #[]},CV.s {data:= #[]}],[CV.i ao 3,CV.s nm,CV.s {data:= #[]},CV.s {data:= #[aw 107,aw 101,aw 112,aw 116]}]]
def val(d l:aU):aU×aW:=bif fy.val d then(match fs l l.length 0 ⟨#[]⟩with|some x=>(mw (mJ.val d nm).2 x,ai)|none=>([],ak))else([],ak)
theorem ok(d l:aU)(hd:d.length<=1048576)(hl:l.length<=1048576):c d l=ai/\v d l=val d l:=by
 refine out d l ?_;have k1:=fy.ok d (by omega);have k2:=mJ.ok d {data:= #[aw 110,aw 101,aw 119]} (by omega);have e2:mJ.val d {data:= #[aw 110,aw 101,aw 119]}=mJ.val d nm:=rfl;unfold vo b val;rw[k1.1,k1.2,au];cases fy.val d with
 |false=>rfl
 |true=>
  rw[aY,aA,au,k2.1,au,k2.2,e2];have tr:∀(K0:aU->aW->aq->az->aU->aU->aC (aU×aW)) (K1:aU->aW->aq->az->aU->aC (aU×aW)) (base:aU) (kt:aq->aC (aU×aW)) (h0:∀x i,K0 l ak x i [] base=ah ([],ak)) (h1:∀x i,K1 l ak x i base=kt x),l9 Lib.cW K0 K1 Lib.cW l ak ⟨#[]⟩ 0 base=fin (fs l l.length 0 ⟨#[]⟩) (ah ([],ak)) kt:=by
   intro K0 K1 base kt h0 h1;refine Ux l hl (λm i acc=>l9 Lib.cW K0 K1 m l ak acc (i:az) base) _ kt (λm i acc hi ha hf ho=> ?_) (λm i acc hi ho=> ?_) (λm acc=> ?_)
   ·have jL:bJ ((i:az)+1)=((i+1:aE):az):=c5 (by omega) (by omega);have t1:jI.v (bQ (ar l i 0)) (bZ (ar l i 1)) (bZ (ar l i (1+1))) (bQ (ar l i (1+1+1)))=(tx l i,ai):=by unfold jI.v;exact bw ho
    have f1:=fT.ok (tx l i);have f2:fT.val (tx l i)=(fT.fr (tx l i),ai):=by unfold fT.val;have q1:=iA.FR ho;have q2:=iA.wA ho;rw[bw ⟨q1,c6 q2 (by omega)⟩]
    simp only[l9,r9,Lib.du,Lib.cQ,Lib.eD,hi,aQ,aM,au,aA,t1,f1.1,f1.2,f2,aY,aF (show acc.size+(fT.fr (tx l i)).size<=4611686018427387904 by omega),jL]
   ·have t1:jI.v (bQ (ar l i 0)) (bZ (ar l i 1)) (bZ (ar l i (1+1))) (bQ (ar l i (1+1+1)))=(⟨#[]⟩,ak):=by unfold jI.v;rw[bH (by intro h;have h':eo l i=true:=h;rw[ho]at h';cases h')]
    have f1:=fT.ok ⟨#[]⟩;simp only[l9,r9,Lib.du,Lib.cQ,Lib.eD,hi,aQ,aM,au,t1,f1.1,bV];exact h0 acc i
   ·simp only[l9,r9,Lib.du,bm,bh,aA];exact h1 acc _
  cases hh:(mJ.val d nm).2 with
  |true=>rw[au];refine(tr _ _ _ (λx=>ah (mw ai x,ai)) (λ_ _=>rfl) (λ_ _=>rfl)).trans ?_;cases fs l l.length 0 ⟨#[]⟩<;>rfl
  |false=>rw[aA];refine(tr _ _ _ (λx=>ah (mw ak x,ai)) (λ_ _=>rfl) (λ_ _=>rfl)).trans ?_;cases fs l l.length 0 ⟨#[]⟩<;>rfl
end mv

namespace vn
open Lib (re rd el En Fi)
open kM (kd kp Dk tx Jq base bt qm aqf)
open eE (mw act vd nt put without Gd ra Ac)
open gT (So mD fS)
open nu (agC aft kN acw)
abbrev qn:aq:={data:= #[aw 110,aw 101,aw 119]}
def yR(x:aq):ay Ac:=[⟨1,qn,x,⟨#[]⟩⟩,⟨2,qn,⟨#[]⟩,⟨#[]⟩⟩,⟨3,qn,⟨#[]⟩,qm⟩]
theorem less:fS qm qn=true:=by unfold fS;rw[jQ,jQ];rfl
theorem anb(t:aq)(k:az)(h1:t.size<=20000)(h2:0<=k/\k<=(t.size:az)):nt ⟨qn,t,k⟩=true:=by unfold nt;have:((qn.size:aE):az)=3:=rfl;rw[this,aF (by omega),aF h2,aK (by dsimp only;omega)];rfl
theorem FQ{o:aC aq}{x:aq}{k:az}(h:(bt o).size<=20000)(hx:x.size<=20000)(hk:0<=k/\k<=(x.size:az)):vd (base o++[⟨qn,x,k⟩])=true:=by
 refine eE.kH.2 ⟨?_,λf hf=> ?_, ?_⟩
 ·cases o<;>simp[base]
 ·rcases a_.1 hf with hf|hf
  ·exact(eE.kH.1 (kM.s8 h)).2.1 f hf
  ·rw[aX.1 hf];exact anb x k hx hk
 ·cases o with
  |none=>exact F9 ..
  |some t=>exact pQ.2 ⟨λy hy=>by rw[aX.1 hy];exact less,F9 ..⟩
theorem nKN:qm≠qn:=by decide
theorem Qc(o:aC aq)(x:aq)(k:az):(base o++[(⟨qn,x,k⟩:Fi)]).find? (λy=>decide (y.n=qn))=ah ⟨qn,x,k⟩:=by
 cases o with
 |none=>rfl
 |some t=>rw[show base (ah t)++[(⟨qn,x,k⟩:Fi)]=[⟨qm,t,t.size⟩,⟨qn,x,k⟩]from rfl,IE (by simp[nKN]),List.find?_cons_of_pos (by simp)]
theorem agI(o:aC aq):(base o).find? (λy=>decide (y.n=qn))=none:=by
 cases o with
 |none=>rfl
 |some t=>rw[show base (ah t)=[⟨qm,t,t.size⟩]from rfl,IE (by simp[nKN]),List.find?_nil]
theorem ahY(o:aC aq)(x:aq)(k:az):put (base o) ⟨qn,x,k⟩=base o++[⟨qn,x,k⟩]:=by
 cases o with
 |none=>rfl
 |some t=>unfold put;rw[show base (ah t)=[⟨qm,t,t.size⟩]from rfl,dn (by simpa using less),cj (by simp[less])];rfl
theorem adg(o:aC aq)(x y:aq)(k m:az):put (base o++[⟨qn,y,m⟩]) ⟨qn,x,k⟩=base o++[⟨qn,x,k⟩]:=by
 cases o with
 |none=>exact kM.we rfl
 |some t=>unfold put;rw[show base (ah t)++[(⟨qn,y,m⟩:Fi)]=[⟨qm,t,t.size⟩,⟨qn,y,m⟩]from rfl,dn (by simpa using less),cj (by rw[eE.irrefl];simp),cj (by simp[less]),cj (by simp)];rfl
theorem mov(o:aC aq)(x:aq)(k:az):put (without (base o++[⟨qn,x,k⟩]) qn) ⟨qm,x,k⟩=[⟨qm,x,k⟩]:=by
 have:without (base o++[⟨qn,x,k⟩]) qn=base o:=by
  unfold without;rw[jG,cj (by simp),List.filter_nil,dN,gK];intro f hf;cases o with
  |none=>cases hf
  |some t=>rw[aX.1 hf];simp[nKN]
 rw[this];cases o with
 |none=>rfl
 |some t=>exact kM.we rfl
theorem a1{o:aC aq}{x:aq}(h:(bt o).size<=20000)(hx:x.size<=20000):act (base o) 1 qn x ⟨#[]⟩=ah (base o++[⟨qn,x,0⟩]):=by
 unfold act;rw[kM.s8 h,show eE.la 1 x ⟨#[]⟩=ai from by unfold eE.la;simp,aM,au];have hn:Gd (base o) 1 qn x ⟨#[]⟩=ah (base o++[⟨qn,x,0⟩]):=by unfold Gd;rw[agI];dsimp only;rw[bw rfl,ahY]
 rw[hn];dsimp only;rw[FQ h hx ⟨by omega,by omega⟩];rfl
theorem a2{o:aC aq}{x:aq}(h:(bt o).size<=20000)(hx:x.size<=20000):act (base o++[⟨qn,x,0⟩]) 2 qn ⟨#[]⟩ ⟨#[]⟩=ah (base o++[⟨qn,x,x.size⟩]):=by
 unfold act;rw[FQ h hx ⟨by omega,by omega⟩,show eE.la 2 ⟨#[]⟩ ⟨#[]⟩=ai from by unfold eE.la;simp,aM,au];have hn:Gd (base o++[⟨qn,x,0⟩]) 2 qn ⟨#[]⟩ ⟨#[]⟩=ah (base o++[⟨qn,x,x.size⟩]):=by unfold Gd;rw[Qc];dsimp only;rw[bH (by omega),bw rfl,adg]
 rw[hn];dsimp only;rw[FQ h hx ⟨by omega,by omega⟩];rfl
theorem a3{o:aC aq}{x:aq}(h:(bt o).size<=20000)(hx:x.size<=20000):act (base o++[⟨qn,x,x.size⟩]) 3 qn ⟨#[]⟩ qm=ah (base (ah x)):=by
 unfold act;rw[FQ h hx ⟨by omega,by omega⟩,show eE.la 3 ⟨#[]⟩ qm=ai from by unfold eE.la;simp,aM,au];have hn:Gd (base o++[⟨qn,x,x.size⟩]) 3 qn ⟨#[]⟩ qm=ah (base (ah x)):=by unfold Gd;rw[Qc];dsimp only;rw[bH (by omega),bH (by omega),bw rfl,bH (by rintro (h|h);exact h rfl;exact nKN h),mov];rfl
 rw[hn];dsimp only;rw[kM.s8 (o:=ah x) hx];rfl
theorem am4{o:aC aq}{x:aq}(h:(bt o).size<=20000)(hx:x.size<=20000):mw (base o) 0 (yR x)=(base (ah x),3):=by unfold yR mw;dsimp only;rw[a1 h hx];dsimp only;unfold mw;dsimp only;rw[a2 h hx];dsimp only;unfold mw;dsimp only;rw[a3 h hx];rfl
theorem abP(l:ay En)(TL:∀x∈l,Dk x=ai):∀(d i:aE) (acc:aq),d+i=l.length->mv.fs (re l) d i acc=ah (acc++tx (l.drop i)):=by
 intro d;induction d with
 |zero=>
  intro i acc h;have:i=l.length:=by omega
  subst this;rw[dh];exact kX ah (pK).symm
 |succ d ih=>
  intro i acc h;have hi:i<l.length:=by omega
  have h0:mv.eo (re l) i=true:=by unfold mv.eo;rw[qo hi,t_ hi,show ar (re l) i 2=CV.i ao (el l i).li from ua hi,show ar (re l) i 3=CV.s (el l i).bo from ub hi];exact TL _ (qM hi)
  have h1:mv.tx (re l) i=kM.rU l[i]:=by unfold mv.tx;rw[qo hi,t_ hi,show ar (re l) i 2=CV.i ao (el l i).li from ua hi,show ar (re l) i 3=CV.s (el l i).bo from ub hi,fQ hi];rfl
  rw[mv.E1,bw h0,h1,ih (i+1) _ (by omega),dG hi,B1];rfl
end vn

namespace pP
open Lib (En Fi Px Cl Fe el re rd rf rc rs rr)
open gT (So mD)
open eE (vd mw Ac ra)
open kM (rU Dk Jq tx kp base bt yZ)
open vn (yR)
open nu (agC)
def dk(o:aC (ay En)):ay Fi:=base (o.map tx)
def es(o:aC (ay En)):ay En:=o.getD []
theorem GF(o:aC (ay En)):bt (o.map tx)=tx (es o):=by cases o<;>rfl
theorem P7(o:aC (ay En)):(dk o).length<=1:=by cases o<;>simp[dk,base]
theorem K3{o:aC (ay En)}(h:(tx (es o)).size<=20000):vd (dk o)=true:=kM.s8 (by rw[GF];exact h)
theorem afv{o:aC (ay En)}(h:(tx (es o)).size<=20000)(he:∀e∈es o,Dk e=ai):(U118.c (rd (dk o))=ai/\U118.v (rd (dk o))=re (kp (es o)))/\(rI.c (rd (dk o))=ai/\rI.v (rd (dk o))=re (kp (es o))):=by refine kM.fk (dk o) (es o) ⟨#[]⟩ (K3 h) ?_ he (.inl rfl);unfold dk;rw[kM.MF,GF];exact(pK).symm
theorem UB{o:aC (ay En)}{e:En}(h:(tx (es o)).size+(Jq e).size<=20000):mw (dk o) 0 (yZ (Jq e))=(dk (ah (es o++[e])),2):=by unfold dk;rw[kM.QW (by rw[GF];exact h),GF,h_,kM.Xj]
theorem UA{o:aC (ay En)}{l:ay En}(h:(tx (es o)).size<=20000)(hl:(tx l).size<=20000):mw (dk o) 0 (yR (tx l))=(dk (ah l),3):=vn.am4 (by rw[GF];exact h) hl
theorem afu{o:aC (ay En)}{l:ay En}(hs:(tx (es o)).size<=20000)(TL:∀x∈l,Dk x=ai):mv.val (rd (dk o)) (re l)=(ra (yR (tx l)),ai):=by
 unfold mv.val;rw[show fy.val (rd (dk o))=ai from K3 hs,au,dO,vn.abP l TL l.length 0 ⟨#[]⟩ (by omega),gd];have yq:(mJ.val (rd (dk o)) mv.nm).2=false:=by unfold dk;rw[kM.fileAt,show mv.nm=vn.qn from rfl,vn.agI]
 dsimp only;rw[yq,show(⟨#[]⟩:aq)++tx l=tx l from oQ];rfl
end pP

namespace iG
open Lib (rr rs re rf rc Px En el)
open gT (So fK mD fS)
open lz (Cd)
def Ia:ay az:=[0,0,0,0,0,0,0,0,0,0,0,0,0,0,0,0]
def p0(now:az):Px:=⟨now,[],[],[],[Ia,Ia,Ia],0,[],[],0⟩
def vV(e:En)(now:az):aW:=Ih.v e.k e.st e.li e.bo now
def one(now:az)(p:Px)(e:En):Px:=bif vV e now then Cd p e else p
def BK(now:az)(l:ay En):Px:=l.foldl (one now) (p0 now)
structure Inv (now:az) (i:aE) (p:Px):Prop where
 so:So p.en
 ks:∀e∈p.en,1<=e.k.size
 en:p.en.length<=i
 w:p.w.length<=i
 m:p.m.length<=i
 s:jd.lens p.s=[16,16,16]
 fe:p.fe=[]
 cl:p.cl=[]
 now:p.now=now
 hits:p.hits=0
theorem aoh(now:az):Inv now 0 (p0 now):=⟨gM,λe h=>(nomatch h),cu _,cu _,cu _,rfl,rfl,rfl,rfl,rfl⟩
theorem Q2{s:ay (ay az)}(h:jd.lens s=[16,16,16]):s.length=3/\(∀q∈s,q.length=16)/\(s.map bP).sum=48:=by
 refine⟨?_,λq hq=> ?_, ?_⟩
 ·have:=kX bP h;unfold jd.lens at this;simpa using this
 ·have:q.length∈jd.lens s:=cO.2 ⟨q,hq,rfl⟩;rw[h]at this;simpa using this
 ·rw[show s.map bP=[16,16,16]from h];rfl
theorem Inv.fit{now:az}{i:aE}{p:Px}(h:Inv now i p){n:aE}(hn:i<=n)(h48:48<=n):p.Fit n:=by
 obtain⟨a,b,c⟩:=Q2 h.s;have hq:∀q∈p.s,q.length<=n:=λq hq=>by have:=b q hq;omega
 exact⟨c6 h.en hn,c6 h.w hn,c6 h.m hn,⟨by omega,hq,by omega⟩,by rw[h.fe];exact bz _,by rw[h.cl];exact bz _⟩
theorem Inv.up{now:az}{i:aE}{p:Px}(h:Inv now i p):Inv now (i+1) p:=⟨h.so,h.ks,mF h.en,mF h.w,mF h.m,h.s,h.fe,h.cl,h.now,h.hits⟩
theorem yF{en:ay En}(h:So en)(e:En):So (mD en e):=by have:=(fI.v9 (gT.Bw h) e.k e.st e.li e.bo).1.1;rw[gT.sN]at this;unfold Lib.re at this;rw[jV]at this;exact this
theorem Inv.store{now:az}{i:aE}{p:Px}(h:Inv now i p)(e:En)(he:1<=e.k.size):Inv now (i+1) (Cd p e):=by
 obtain⟨b1,b2,b3⟩:=jd.Kh p.w p.m p.s p.a e.k;have hw:=h.w;have hm:=h.m;have hn:=h.en;refine⟨?_, ?_, ?_,c6 b1 (by omega),c6 b2 (by omega),b3.trans h.s,h.fe,h.cl,h.now,h.hits⟩
 ·show So (bif _ then mD (fK p.en _) e else fK p.en _);cases eT.has (jd.val p.w p.m p.s p.a e.k).1 e.k||eT.has (jd.val p.w p.m p.s p.a e.k).2.1 e.k with
  |true=>exact yF (h.so.drop _) e
  |false=>exact h.so.drop _
 ·show∀x∈(bif _ then mD (fK p.en _) e else fK p.en _),1<=x.k.size;have hd:∀x∈fK p.en (jd.val p.w p.m p.s p.a e.k).2.2.2.2,1<=x.k.size:=λx hx=>h.ks x (dt.1 hx).1;cases eT.has (jd.val p.w p.m p.s p.a e.k).1 e.k||eT.has (jd.val p.w p.m p.s p.a e.k).2.1 e.k with
  |true=>
   intro x hx;rw[au]at hx;unfold mD at hx;rcases a_.1 hx with hx|hx
   ·rcases a_.1 hx with hx|hx
    ·exact hd x (dt.1 hx).1
    ·rw[aX]at hx;rw[hx];exact he
   ·exact hd x (dt.1 hx).1
  |false=>exact hd
 ·show(bif _ then mD (fK p.en _) e else fK p.en _).length<=i+1;have d:=gT.vM p.en (jd.val p.w p.m p.s p.a e.k).2.2.2.2;have q:=gT.tw (fK p.en (jd.val p.w p.m p.s p.a e.k).2.2.2.2) e (h.so.drop _);cases eT.has (jd.val p.w p.m p.s p.a e.k).1 e.k||eT.has (jd.val p.w p.m p.s p.a e.k).2.1 e.k with
  |true=>rw[au];omega
  |false=>rw[aA];omega
theorem E0{e:En}{now:az}(h:vV e now=ai):iI.v e.k e.st e.li e.bo=true:=by
 unfold vV Ih.v at h;cases hq:iI.v e.k e.st e.li e.bo with
 |true=>rfl
 |false=>rw[show Az.v e.k e.st e.li e.bo=ak from hq]at h;cases h
theorem Fg(now:az)(l:ay En):∀i,i<=l.length->Inv now i (BK now (l.take i)):=by
 intro i;induction i with
 |zero=>intro _;exact aoh now
 |succ i ih=>
  intro hi;have h:=ih (by omega);have e:BK now (l.take (i+1))=one now (BK now (l.take i)) l[i]:=by unfold BK;rw[dx (by omega),NQ];rfl
  rw[e];unfold one;cases hf:vV l[i] now with
  |true=>exact h.store _ (iI.Gg (E0 hf)).1.1
  |false=>exact h.up
theorem HL(now:az)(l:ay En)(i:aE)(h:i<l.length):BK now (l.take (i+1))=one now (BK now (l.take i)) (el l i):=by unfold BK;rw[dx h,NQ,fQ h];rfl
end iG

namespace ka
open Lib (rr rs re rf rc Px)
theorem ok(p:Px)(hp:p.Fit 1048576):c p.now (re p.en) (rs p.w) (rs p.m) (rr p.s) p.a (rf p.fe) (rc p.cl) p.hits=ai/\v p.now (re p.en) (rs p.w) (rs p.m) (rr p.s) p.a (rf p.fe) (rc p.cl) p.hits=(p.now,re p.en,rs p.w,rs p.m,rr p.s,p.a,rf p.fe,rc p.cl,p.hits):=by have he:=hp.en;have hf:=hp.fe;have hc:=hp.cl;have h2:=fw.ok p.w p.m p.s p.a hp.w hp.m ⟨hp.s.1,hp.s.2.1⟩;exact out _ _ _ _ _ _ _ _ _ (by unfold vo b;rw[h2.1,h2.2,au,Lib.cC (b:=48) (by simp[aN,dO];omega) (by simp[aN,dO];omega),Lib.cC (b:=56) (by simp[aN,dC];omega) (by simp[aN,dC];omega),Lib.cC (b:=72) (by simp[aN,eO];omega) (by simp[aN,eO];omega)];rfl)
end ka

namespace IM
open Lib (rr rs re rf rc Px)
def later(now n:az):az:=bif decide (now>1000000000-n%1000)then 1000000000 else bJ (now+n%1000)
def val(p:Px)(n:az):Px:={p with now:=later p.now n}
theorem tm(n:az):(0<=bL n 1000->bL n 1000=n%1000)/\(bL n 1000<0->bL n 1000+1000=n%1000):=by
 rw[Int.tmod_eq_emod];by_cases h:0<=n\/(1000:az)∣n
 ·rw[bw h];constructor<;>omega
 ·rw[bH h];have hd:¬(1000:az)∣n:=λx=>h (.inr x);have:n%1000≠0:=λe=>hd (Int.dvd_of_emod_eq_zero e);constructor<;>simp<;>omega
theorem ok(p:Px)(n:az)(hp:p.Fit 1048576):c p.now (re p.en) (rs p.w) (rs p.m) (rr p.s) p.a (rf p.fe) (rc p.cl) p.hits n=ai/\v p.now (re p.en) (rs p.w) (rs p.m) (rr p.s) p.a (rf p.fe) (rc p.cl) p.hits n=((val p n).now,re p.en,rs p.w,rs p.m,rr p.s,p.a,rf p.fe,rc p.cl,p.hits):=by
 have h:=ka.ok p hp;refine out _ _ _ _ _ _ _ _ _ _ ?_;have t:=tm n;unfold vo b val later;simp only[Lib.lt,h.1,h.2,au];by_cases hn:bL n 1000<0
 ·have e:=t.2 hn;rw[aF hn,au,e,c5 (x:=n%1000) (by omega) (by omega),c5 (x:=1000000000-n%1000) (by omega) (by omega)];cases decide (p.now>1000000000-n%1000)<;>rfl
 ·have e:=t.1 (by omega);rw[aK hn,aA,e,c5 (x:=1000000000-n%1000) (by omega) (by omega)];cases decide (p.now>1000000000-n%1000)<;>rfl
end IM

namespace IP
open Lib (rr rs re rf rc Px Cl el NM wc1 wc2 wc3 wc4 wc5 wc6)
def val(p:Px)(id:az):Px:={p with cl:=p.cl.filter λc=> !decide (c.id=id)}
theorem ok(p:Px)(id:az)(hp:p.Fit 1048576):c p.now (re p.en) (rs p.w) (rs p.m) (rr p.s) p.a (rf p.fe) (rc p.cl) p.hits id=ai/\v p.now (re p.en) (rs p.w) (rs p.m) (rr p.s) p.a (rf p.fe) (rc p.cl) p.hits id=(p.now,re p.en,rs p.w,rs p.m,rr p.s,p.a,rf p.fe,rc (val p id).cl,p.hits):=by
 have h:=ka.ok p hp;have hc:=hp.cl;refine out _ _ _ _ _ _ _ _ _ _ ?_;unfold vo b;simp only[Lib.lt,h.1,h.2,au];have key:=me p.cl.length (λn (i:aE) (x:aU)=>l4 Lib.cW (λ(_ _ _:az) (_ _ _ _:aU) (_:az) (_ _:aU) (_ _ _ _ y37 y38 y39:az) (y40 y41 y42 y43 Tg y45:aU)=>ah (y37,y40,y41,y42,y43,y38,Tg,y45,y39)) n id (i:az) p.now (re p.en) (rs p.w) (rs p.m) (rr p.s) p.a (rf p.fe) (rc p.cl) p.hits 0 0 0 p.now p.a p.hits (re p.en) (rs p.w) (rs p.m) (rr p.s) (rf p.fe) x) (λi=>rc ((p.cl.take i).filter λc=> !decide (c.id=id))) (ah (p.now,re p.en,rs p.w,rs p.m,rr p.s,p.a,rf p.fe,rc (val p id).cl,p.hits)) (λn i hi=>by
  have hlen:((p.cl.take i).filter λc=> !decide (c.id=id)).length<=i:=by refine c6 (eH ..) ?_;rw[er];omega
  have e:(p.cl.take (i+1)).filter (λc=> !decide (c.id=id))=(p.cl.take i).filter (λc=> !decide (c.id=id))++(bif !decide ((el p.cl i).id=id)then [el p.cl i]else []):=by rw[dx hi,jG,fQ hi];cases hd:decide (p.cl[i].id=id)<;>simp[hd]
  rw[e];simp only[l4,r4,eO,Lib.du,hi,aQ,Lib.cQ,aM,au,Lib.eD,NM hi,wc1 hi,wc2 hi,wc3 hi,wc4 hi,wc5 hi,wc6 hi,bQ,bZ,oZ,bB,Lib.di hi (by omega:p.cl.length<=9223372036854775807)];rw[Lib.cC (by omega) (by omega),au,show((el p.cl i).id !=id)= !decide ((el p.cl i).id=id)from rfl];cases decide ((el p.cl i).id=id)with
  |true=>rw[aY,aA,aA,dN]
  |false=>rw[bV,au,au];unfold Lib.rc;rw[c8];rfl) (λn=>by
  simp only[l4,r4,eO,Lib.du,bm,bh,aA,g8];rfl) Lib.cW 0 (bz _) (cK (by omega))
 exact key
end IP

namespace mX
open Lib (En Fi Px Cl Fe el)
open kM (kp Dk)
open rV (cls nA)
open iF (yS zd)
open dP (lh)
open pP (dk es)
structure Wo where
 p:Px
 o:aC (ay En)
 cd:ay az
 bd:ay En
structure Ev where
 k:az
 id:az
 t:aq
 n:az
 l:aU
def flag(b:aW):az:=bif b then 0 else 1
def p8(w:Wo):ay En:=(kp (es w.o)).filter λe=>iG.vV e w.p.now
def closed(w:Wo)(id life:az):Wo×az:=
 let q:=cls w.p id life
 (bif q.2&&decide (life>0)then{w with p:=q.1,o:=ah (es w.o++[nA (el q.1.fe id.toNat)]),bd:=w.bd++[nA (el q.1.fe id.toNat)]}else{w with p:=q.1},flag q.2)
def Jj(w:Wo):Wo:={w with p:=iG.BK w.p.now (p8 w),o:=ah (p8 w)}
def act(w:Wo)(e:Ev):Wo×az:=
 bif decide (e.k=1)then({w with p:=(dP.ask w.p e.id e.t).1},(dP.ask w.p e.id e.t).2)
 else bif decide (e.k=2)then({w with p:=(zd w.p e.id e.t).1},flag (zd w.p e.id e.t).2)
 else bif decide (e.k=3)then closed w e.id (e.n%1000000)
 else bif decide (e.k=4)then({w with p:=(yS w.p e.id).1},flag (yS w.p e.id).2)
 else bif decide (e.k=5)then({w with p:=IM.val w.p e.n},0)
 else bif decide (e.k=6)then({w with p:=IP.val w.p e.id},flag (lh w.p.cl e.id))
 else(Jj w,0)
def step(w:Wo)(e:Ev):Wo:={(act w e).1 with cd:=w.cd++[(act w e).2]}
def sw(e:Ev):aW:=decide (1<=e.k/\e.k<=7)&&(decide (0<=e.id/\e.id<=30)&&(decide (e.t.size<=60)&&(decide (0<=e.n)&&decide (e.l.length<=4))))
end mX

namespace jP
open Lib (rr rs re rf rc rd Px En el qo t_ ua ub)
open mX (Wo Ev)
open pP (dk es)
def ri(l:ay az):aU:=l.map λn=>[CV.i ao n]
theorem fU(l:ay az):(ri l).length=l.length:=by unfold ri;simp
def EI(w:Wo):az×aU×aU×aU×aU×az×aU×aU×az×aU×aU×aU:=(w.p.now,re w.p.en,rs w.p.w,rs w.p.m,rr w.p.s,w.p.a,rf w.p.fe,rc w.p.cl,w.p.hits,rd (dk w.o),ri w.cd,re w.bd)
theorem DN(l:ay En)(e:En):re l++ax (aN [Ck.s,Ck.i ao,Ck.i ao,Ck.s] 1) 0 [CV.s e.k,CV.i ao e.st,CV.i ao e.li,CV.s e.bo]=re (l++[e]):=by unfold Lib.re;rw[c8];rfl
theorem ah8(l:ay az)(n:az):ri l++ax (aN [Ck.i ao] 1) 0 [CV.i ao n]=ri (l++[n]):=by unfold ri;rw[c8];rfl
theorem aq8(l:ay En):aN [Ck.s,Ck.i ao,Ck.i ao,Ck.s] 0++re l=re l:=rfl
theorem aq9(l:ay az):aN [Ck.i ao] 0++ri l=ri l:=rfl
theorem tv(ks:ay Ck)(y:ay CV):(ax (aN ks 1) 0 y).length=1:=rfl
theorem mR{p:Px}(h:ur.fX p):p.Fit 1048576:=(lz.mR (ur.jM.2 h)).le (by omega)
theorem lt_eq{α β:Type}(x:α)(f:α->β):Lib.lt x f=f x:=by have h:∀y,y=Lib.lt x f->y=f x:=λy hy=>hy.trans (Eq.refl _);exact h _ (Eq.refl _)
end jP

namespace de
theorem ok(q:aU)(a s k:az)(hI:bO.I q a):∃n a' s',c q a s k=ai/\v q a s k=(n,q,a',s')/\bO.I q a'/\0<=n/\(0<k->n<k):=by
 by_cases hk:k<=0
 ·obtain⟨e1,e2⟩:=out q a s k (x:=(0,q,a,s)) (by unfold vo b;rw[aF hk,au]);exact⟨0,a,s,e1,e2,hI,by omega,λh=>by omega⟩
 ·have hm:∀x:az,0<=x->0<=bL x k/\bL x k<k:=λx hx=>by rw[sa hx];exact⟨r_ _ (by omega),wH _ (by omega)⟩
  have hk0:¬k=0:=by omega
  obtain⟨n1,a1,s1,c1,v1,I1,g1,u1⟩:=bO.ok q a s hI;by_cases h2:k<=256
  ·obtain⟨e1,e2⟩:=out q a s k (x:=(bL n1 k,q,a1,s1)) (by unfold vo b;simp only[hk,h2,hk0,c1,v1,aQ,bh,au,aA,bV]);exact⟨_,a1,s1,e1,e2,I1,(hm n1 g1).1,λ_=>(hm n1 g1).2⟩
  ·obtain⟨n2,a2,s2,c2,v2,I2,g2,u2⟩:=bO.ok q a1 s1 I1;obtain⟨n3,a3,s3,c3,v3,I3,g3,u3⟩:=bO.ok q a2 s2 I2;obtain⟨n4,a4,s4,c4,v4,I4,g4,u4⟩:=bO.ok q a3 s3 I3;have w1:bJ (n1*16777216)=n1*16777216:=c5 (by omega) (by omega);have w2:bJ (n2*65536)=n2*65536:=c5 (by omega) (by omega);have w3:bJ (n3*256)=n3*256:=c5 (by omega) (by omega);have w4:bJ (n1*16777216+n2*65536)=n1*16777216+n2*65536:=c5 (by omega) (by omega);have w5:bJ (n1*16777216+n2*65536+n3*256)=n1*16777216+n2*65536+n3*256:=c5 (by omega) (by omega);have w6:bJ (n1*16777216+n2*65536+n3*256+n4)=n1*16777216+n2*65536+n3*256+n4:=c5 (by omega) (by omega);obtain⟨e1,e2⟩:=out q a s k (x:=(bL (n1*16777216+n2*65536+n3*256+n4) k,q,a4,s4)) (by unfold vo b;simp only[hk,h2,hk0,c1,v1,c2,v2,c3,v3,c4,v4,w1,w2,w3,w4,w5,w6,aQ,bh,au,aA,bV]);have:=hm (n1*16777216+n2*65536+n3*256+n4) (by omega);exact⟨_,a4,s4,e1,e2,I4,this.1,λ_=>this.2⟩
end de

namespace ia
theorem ok(q:aU)(a s k:az)(hI:bO.I q a):∃x a' s',c q a s k=ai/\v q a s k=(x,q,a',s')/\bO.I q a':=by obtain⟨n1,a1,s1,c1,v1,I1,g1,u1⟩:=de.ok q a s k hI;obtain⟨e1,e2⟩:=out q a s k (x:=(decide (n1=0),q,a1,s1)) (by unfold vo b;simp only[c1,v1,au]);exact⟨_,a1,s1,e1,e2,I1⟩
end ia

namespace rS
theorem ok(q:aU)(a s:az)(l:aU)(hI:bO.I q a)(hl:0<l.length):∃i a' s',c q a s l=ai/\v q a s l=(bZ (ar l i 0),q,a',s',l)/\bO.I q a'/\i<l.length:=by obtain⟨n1,a1,s1,c1,v1,I1,g1,u1⟩:=de.ok q a s (l.length:az) hI;have hu:=u1 (by omega);obtain⟨e1,e2⟩:=out q a s l (x:=(bZ (ar l n1.toNat 0),q,a1,s1,l)) (by unfold vo b;simp only[c1,v1,g1,hu,aQ,aM,au]);exact⟨n1.toNat,a1,s1,e1,e2,I1,by omega⟩
end rS

namespace oW
theorem ok(q:aU)(a s:az)(l:aU)(hI:bO.I q a)(hl:0<l.length):∃i a' s',c q a s l=ai/\v q a s l=(bQ (ar l i 0),q,a',s',l)/\bO.I q a'/\i<l.length:=by obtain⟨n1,a1,s1,c1,v1,I1,g1,u1⟩:=de.ok q a s (l.length:az) hI;have hu:=u1 (by omega);obtain⟨e1,e2⟩:=out q a s l (x:=(bQ (ar l n1.toNat 0),q,a1,s1,l)) (by unfold vo b;simp only[c1,v1,g1,hu,aQ,aM,au]);exact⟨n1.toNat,a1,s1,e1,e2,I1,by omega⟩
end oW

namespace jR
theorem ok(q:aU)(a s:az)(hI:bO.I q a):∃k a' s',c q a s=ai/\v q a s=(k,q,a',s')/\bO.I q a'/\k.size=2:=by
 obtain⟨i,a1,s1,c1,v1,I1,g1⟩:=oW.ok q a s (ax (ax (ax (ax (ax (ax (ax (ax (aN [Ck.s] 8) 0 [CV.s {data:= #[aw 47,aw 97]}]) 1 [CV.s {data:= #[aw 47,aw 98]}]) 2 [CV.s {data:= #[aw 47,aw 99]}]) 3 [CV.s {data:= #[aw 47,aw 100]}]) 4 [CV.s {data:= #[aw 47,aw 101]}]) 5 [CV.s {data:= #[aw 47,aw 102]}]) 6 [CV.s {data:= #[aw 47,aw 103]}]) 7 [CV.s {data:= #[aw 47,aw 104]}]) hI (by simp[aN]);obtain⟨e1,e2⟩:=out q a s (x:=(_,q,a1,s1)) (by unfold vo b;simp only[c1,v1,au];rfl);refine⟨_,a1,s1,e1,e2,I1, ?_⟩
 have g2:i<8:=by simpa [aN]using g1
 match i,g2 with
 |0,_=>rfl
 |1,_=>rfl
 |2,_=>rfl
 |3,_=>rfl
 |4,_=>rfl
 |5,_=>rfl
 |6,_=>rfl
 |7,_=>rfl
end jR

namespace A_Post
open bO (I)
def e6{α:Type}(o:aC α)(P:α->Prop):Prop:=∃x,o=ah x/\P x
theorem ret{α:Type}{x:α}{P:α->Prop}(h:P x):e6 (ah x) P:=⟨x,rfl,h⟩
theorem br{α:Type}{b:aW}{A B:aC α}{P:α->Prop}(h1:b=ai->e6 A P)(h2:b=ak->e6 B P):e6 (bif b then A else B) P:=by
 cases b
 ·exact h2 rfl
 ·exact h1 rfl
theorem ck{α:Type}{b:aW}{A B:aC α}{P:α->Prop}(h:b=ai)(h1:e6 A P):e6 (bif b then A else B) P:=by subst h;exact h1
theorem cn{α:Type}{b:aW}{A B:aC α}{P:α->Prop}(h:b=ak)(h1:e6 B P):e6 (bif b then A else B) P:=by subst h;exact h1
theorem eq{α:Type}{o o':aC α}{P:α->Prop}(e:o=o')(h:e6 o' P):e6 o P:=by rw[e];exact h
theorem call{α β:Type}{b:aW}{w u:β}{X:β->aC α}{P:α->Prop}(h:b=ai)(e:w=u)(hx:e6 (X u) P):e6 (bif b then Lib.lt w X else aj) P:=by subst h;rw[au,jP.lt_eq,e];exact hx
theorem below{α:Type}{q:aU}{a s k:az}{X:az×aU×az×az->aC α}{P:α->Prop}(hI:I q a)(hx:∀n a' s',I q a'->0<=n->(0<k->n<k)->e6 (X (n,q,a',s')) P):e6 (bif de.c q a s k then Lib.lt (de.v q a s k) X else aj) P:=by obtain⟨n,a',s',h1,h2,h3,h4,h5⟩:=de.ok q a s k hI;exact call h1 h2 (hx n a' s' h3 h4 h5)
theorem once{α:Type}{q:aU}{a s k:az}{X:aW×aU×az×az->aC α}{P:α->Prop}(hI:I q a)(hx:∀n a' s',I q a'->e6 (X (n,q,a',s')) P):e6 (bif ia.c q a s k then Lib.lt (ia.v q a s k) X else aj) P:=by obtain⟨n,a',s',h1,h2,h3⟩:=ia.ok q a s k hI;exact call h1 h2 (hx n a' s' h3)
theorem LN{α:Type}{q:aU}{a s:az}{l:aU}{X:az×aU×az×az×aU->aC α}{P:α->Prop}(R:az->Prop)(hR:0<l.length/\∀i,i<l.length->R (bZ (ar l i 0)))(hI:I q a)(hx:∀n a' s',I q a'->R n->e6 (X (n,q,a',s',l)) P):e6 (bif rS.c q a s l then Lib.lt (rS.v q a s l) X else aj) P:=by obtain⟨n,a',s',h1,h2,h3,h4⟩:=rS.ok q a s l hI hR.1;exact call h1 h2 (hx _ a' s' h3 (hR.2 n h4))
theorem ahV{α:Type}{q:aU}{a s:az}{l:aU}{X:aq×aU×az×az×aU->aC α}{P:α->Prop}(R:aq->Prop)(hR:0<l.length/\∀i,i<l.length->R (bQ (ar l i 0)))(hI:I q a)(hx:∀n a' s',I q a'->R n->e6 (X (n,q,a',s',l)) P):e6 (bif oW.c q a s l then Lib.lt (oW.v q a s l) X else aj) P:=by obtain⟨n,a',s',h1,h2,h3,h4⟩:=oW.ok q a s l hI hR.1;exact call h1 h2 (hx _ a' s' h3 (hR.2 n h4))
theorem key{α:Type}{q:aU}{a s:az}{X:aq×aU×az×az->aC α}{P:α->Prop}(hI:I q a)(hx:∀n a' s',I q a'->n.size=2->e6 (X (n,q,a',s')) P):e6 (bif jR.c q a s then Lib.lt (jR.v q a s) X else aj) P:=by obtain⟨n,a',s',h1,h2,h3,h4⟩:=jR.ok q a s hI;exact call h1 h2 (hx n a' s' h3 h4)
theorem idx{n:az}{m:aE}(h0:0<=n)(h1:0<(m:az)->n<(m:az))(hm:decide ((m:az)>0)=ai):(decide (0<=n)&&decide (n<(m:az)))=true:=by have:=h1 (cg hm);rw[aF h0,aF this,aM]
end A_Post

namespace rj
open eT (has without gm kV)
open jk (eh mO pj)
open e7 (jU Ly rE)
theorem gW{w m:ay aq}{s:ay (ay az)}{a:az}:pj w m s a=ai↔((∀k∈w++m,eh k=ai)/\(w++m).Nodup)/\w.length<=2/\m.length<=4/\jU s a=true:=by unfold pj;rw[aJ,aJ,aJ,bc,bc,jd.u6]
theorem qX{s:ay (ay az)}{a:az}:jU s a=ai↔s.length=3/\(0<=a/\a<=63)/\∀q∈s,q.length=16/\∀n∈q,0<=n/\n<=15:=by unfold jU rE Ly;simp only[aJ,bc,bu]
theorem FK{s:ay (ay az)}{a:az}(key:aq)(h:jU s a=ai):jU (fg.val s a key).1 (fg.val s a key).2=true:=by
 unfold fg.val;rw[h,au];obtain⟨h1,h2,h3⟩:=qX.1 h;obtain⟨b1,b2⟩:=fg.sj (key:=key) h1 h3;by_cases ha:a+1=64
 ·rw[aF ha,au,qX];unfold fg.half;refine⟨by rw[bN];exact b1,by omega,λq hq=> ?_⟩
  obtain⟨r,hr,rfl⟩:=cO.1 hq;refine⟨by rw[bN];exact(b2 r hr).1,λn hn=> ?_⟩
  obtain⟨k,hk,rfl⟩:=cO.1 hn;have:=(b2 r hr).2 k hk;rw[gF this.1];omega
 ·rw[aK ha,aA,qX];exact⟨b1,by omega,b2⟩
theorem Fo{k:aq}(h:eh k=ai):k≠⟨#[]⟩:=by intro e;rw[e]at h;exact cE h (by decide)
theorem qg{w m:ay aq}{s:ay (ay az)}{a:az}{key:aq}(h:pj w m s a=ai)(hk:eh key=ai):
  pj (jd.val w m s a key).1 (jd.val w m s a key).2.1 (jd.val w m s a key).2.2.1 (jd.val w m s a key).2.2.2.1=ai
  /\∀x,x∈(jd.val w m s a key).1\/x∈(jd.val w m s a key).2.1↔(x∈w\/x∈m\/x=key)/\x≠(jd.val w m s a key).2.2.2.2:=by
 obtain⟨⟨k1,nd⟩,l1,l2,hs⟩:=gW.1 h;have Ln:=FK key hs;have kn:=Fo hk;have wn:∀x,x∈w\/x∈m->x≠⟨#[]⟩:=λx hx=>Fo (k1 x (a_.2 hx));unfold jd.val;rw[h,hk,aM,au];generalize fg.val s a key=V at Ln;obtain⟨S,A⟩:=V;dsimp only at Ln⊢;rw[dY]at nd;obtain⟨n1,n2,n3⟩:=nd;have hwo:∀l:ay aq,l.Nodup->(without l key).Nodup/\(∀x,x∈without l key↔x∈l/\x≠key):=λl hl=>by unfold without;exact⟨hl.sublist jm,λx=>by simp⟩
 cases h1:has w key with
 |true=>
  have hm:=gm.1 h1;obtain⟨o1,o2⟩:=hwo w n1;have o3:=eT.oM h1;dsimp only[au];refine⟨gW.2 ⟨⟨λk hx=> ?_, ?_⟩,by simp;omega,l2,Ln⟩,λx=> ?_⟩
  ·simp only[a_,aX,o2]at hx;rcases hx with (hx|rfl)|hx
   ·exact k1 _ (a_.2 (.inl hx.1))
   ·exact hk
   ·exact k1 _ (a_.2 (.inr hx))
  ·simp only[dY,a_,aX,o2];grind
  ·simp only[a_,aX,o2];grind
 |false=>
  rw[aA];have hw:=kV.1 h1;cases h2:has m key with
  |true=>
   have hm:=gm.1 h2;obtain⟨o1,o2⟩:=hwo m n2;have o3:=eT.oM h2;dsimp only[au];refine⟨gW.2 ⟨⟨λk hx=> ?_, ?_⟩,l1,by simp;omega,Ln⟩,λx=> ?_⟩
   ·simp only[a_,aX,o2]at hx;rcases hx with hx|hx|rfl
    ·exact k1 _ (a_.2 (.inl hx))
    ·exact k1 _ (a_.2 (.inr hx.1))
    ·exact hk
   ·simp only[dY,a_,aX,o2];grind
   ·simp only[a_,aX,o2];grind
  |false=>
   rw[aA];have hmn:=kV.1 h2;have oY:∀x,x∈w++[key]\/x∈m↔x∈w\/x∈m\/x=key:=λx=>by simp only[a_,aX];grind
   have Qs:∀x,x∈w++[key]\/x∈m->eh x=true:=λx hx=>by
    rcases(oY x).1 hx with hx|hx|rfl
    ·exact k1 _ (a_.2 (.inl hx))
    ·exact k1 _ (a_.2 (.inr hx))
    ·exact hk
   have Hh:(w++[key]).Nodup/\∀x∈w++[key],x∉m:=by simp only[dY,a_,aX];grind
   have hlen:(w++[key]).length=w.length+1:=by simp
   generalize w++[key]=W at oY Qs Hh hlen;obtain⟨d1,d2⟩:=Hh;by_cases h3:W.length<=2
   ·rw[aF h3,au];refine⟨gW.2 ⟨⟨λk hx=>Qs k (a_.1 hx), ?_⟩,h3,l2,Ln⟩,λx=> ?_⟩
    ·simp only[dY];grind
    ·dsimp only;rw[oY];grind
   ·rw[aK h3,aA];cases W with
    |nil=>simp at hlen
    |cons x0 t=>
     rw[jY]at d1;rw[cY]at hlen;have hg:(x0::t).getD 0 ⟨#[]⟩=x0:=rfl;have ht:(x0::t).tail=t:=rfl;rw[hg,ht];by_cases h4:m.length<4
     ·rw[aF h4,au];refine⟨gW.2 ⟨⟨λk hx=>Qs k ?_, ?_⟩,by dsimp only;omega,by simp;omega,Ln⟩,λx=> ?_⟩
      ·simp only[a_,aX,cz]at hx⊢;grind
      ·simp only[dY,a_,aX,cz]at d2⊢;grind
      ·dsimp only;rw[<-oY];simp only[a_,aX,cz];grind
     ·rw[aK h4,aA];cases m with
      |nil=>simp at h4
      |cons y0 u=>
       rw[jY]at n2;rw[cY]at l2 h4;have Yh:(y0::u).getD 0 ⟨#[]⟩=y0:=rfl;have Fa:(y0::u).tail=u:=rfl;rw[Yh,Fa];cases decide (lV.val S A x0>lV.val S A y0)with
       |true=>
        rw[au];refine⟨gW.2 ⟨⟨λk hx=>Qs k ?_, ?_⟩,by dsimp only;omega,by simp;omega,Ln⟩,λx=> ?_⟩
        ·simp only[a_,aX,cz]at hx⊢;grind
        ·simp only[dY,a_,aX,cz]at d2⊢;grind
        ·dsimp only;rw[<-oY];simp only[a_,aX,cz]at d2⊢;grind
       |false=>
        rw[aA];refine⟨gW.2 ⟨⟨λk hx=>Qs k ?_, ?_⟩,by dsimp only;omega,by simp;omega,Ln⟩,λx=> ?_⟩
        ·simp only[a_,cz]at hx⊢;grind
        ·simp only[dY,jY,cz]at d2⊢;grind
        ·dsimp only;rw[<-oY];simp only[cz]at d2⊢;grind
end rj

namespace sg
open Lib (rr)
open bO (I)
open e7 (jU)
open rj (qX)
abbrev s0:ay (ay az):=[uI 16 0,uI 16 0,uI 16 0]
theorem sk0:jU s0 0=true:=by decide
theorem fit{s:ay (ay az)}{a:az}(h:jU s a=ai):iO.nh s:=by obtain⟨h1,_,h3⟩:=qX.1 h;exact⟨by omega,λq hq=>by rw[(h3 q hq).1];omega⟩
theorem walk{P:R->Prop}(N:aE)(K:az->aU->az->az->az->az->aU->aC R)(q:aU)(z:az)
  (hK:∀(i a s:az) (S:ay (ay az)) (A:az),I q a->jU S A=ai->A_Post.e6 (K i q a s z A (rr S)) P):
  ∀(d i n:aE) (S:ay (ay az)) (A a s:az),90-i<=d->i<=90->d<n->jU S A=ai->I q a->A_Post.e6 (l3 N K n (i:az) q a s z A (rr S)) P:=by
 have step:∀(i n:aE) (S:ay (ay az)) (A a s:az),i<=90->jU S A=ai->I q a->
   (∀(S:ay (ay az)) (A a s:az),i<90->jU S A=ai->I q a->A_Post.e6 (l3 N K n ((i+1:aE):az) q a s z A (rr S)) P)->A_Post.e6 (l3 N K (n+1) (i:az) q a s z A (rr S)) P:=by
  intro i n S A a s h2 h4 h5 nx
  obtain⟨x,a1,s1,c1,v1,I1,g0,g1⟩:=de.ok q a s 90 h5
  have:=g1 (by omega)
  rw[show l3 N K (n+1)=r3 N (l3 N K n) K from rfl]
  unfold r3
  refine A_Post.ck c1 ?_
  rw[v1]
  dsimp only
  by_cases h:(i:az)<x
  ·refine A_Post.ck (aF h) ?_;obtain⟨k,a2,s2,c2,v2,I2,hk⟩:=jR.ok q a1 s1 I1;refine A_Post.ck c2 ?_;rw[v2];dsimp only;have B:=fg.ok S A k (fit h4) (by omega);refine A_Post.ck B.1 ?_;rw[B.2,c5 (x:=(i:az)+1) (by omega) (by omega)];exact nx _ _ a2 s2 (by omega) (rj.FK k h4) I2
  ·exact A_Post.cn (aK h) (hK _ _ _ _ _ I1 h4)
 intro d;induction d with
 |zero=>
  intro i n S A a s h1 h2 h3 h4 h5;obtain⟨n,rfl⟩:∃k,n=k+1:=⟨n-1,by omega⟩
  exact step i n S A a s h2 h4 h5 (λ_ _ _ _ h=>by omega)
 |succ d ih=>
  intro i n S A a s h1 h2 h3 h4 h5;obtain⟨n,rfl⟩:∃k,n=k+1:=⟨n-1,by omega⟩
  exact step i n S A a s h2 h4 h5 (λS A a s h h6 h7=>ih (i+1) n S A a s (by omega) (by omega) (by omega) h6 h7)
theorem ok{q:aU}{a s:az}(hI:I q a):∃(S:ay (ay az)) (A a' s':az),jU S A=ai/\I q a'/\c q a s=ai/\v q a s=(rr S,A,q,a',s'):=by
 have main:A_Post.e6 (vo q a s) (λx=>∃(S:ay (ay az)) (A a' s':az),jU S A=ai/\I q a'/\x=(rr S,A,q,a',s')):=by
  unfold vo;generalize hN:Lib.cW=N;have Yc:90<N:=by rw[<-hN];exact cK (by omega)
  clear hN;unfold b;exact walk N _ q 0 (λi a s S A h1 h2=>A_Post.ret ⟨S,A,a,s,h2,h1,rfl⟩) 90 0 N s0 0 a s (cu _) (bz _) Yc sk0 hI
 obtain⟨x,hx,S,A,a',s',h1,h2,rfl⟩:=main;obtain⟨c1,v1⟩:=out _ _ _ hx;exact⟨S,A,a',s',h1,h2,c1,v1⟩
end sg

namespace xY
open Lib (rr ri)
open bO (I)
open e7 (jU)
open rj (qX)
open A_Post (e6)
open fg (HW FJ)
def Sm(s:ay (ay az)):Prop:=s.length<=3/\∀q∈s,q.length<=16
theorem Sm.fit{s:ay (ay az)}(h:Sm s):iO.nh s:=⟨by have:=h.1;omega,λq hq=>by have:=h.2 q hq;omega⟩
theorem Sm.of{s:ay (ay az)}{a:az}(h:jU s a=ai):Sm s:=by obtain⟨h1,_,h3⟩:=qX.1 h;exact⟨by omega,λq hq=>by rw[(h3 q hq).1];omega⟩
theorem Sm.set{s:ay (ay az)}(h:Sm s)(i:aE){q:ay az}(hq:q.length<=16):Sm (s.set i q):=by
 refine⟨by rw[cm];exact h.1,λx hx=> ?_⟩
 rcases je hx with hx|rfl
 ·exact h.2 x hx
 ·exact hq
theorem md(x:az)(k:aE)(hk:0<k)(h:0<=x):∃m:aE,m<k/\bL x (k:az)=(m:az):=by
 refine⟨(x%(k:az)).toNat, ?_, ?_⟩
 ·have:=wH x (show(0:az)<k by omega);have:=r_ x (show(k:az)≠0 by omega);omega
 ·rw[sa h];have:=r_ x (show(k:az)≠0 by omega);omega
theorem ix{m n:aE}(h:m<n):(decide (0<=(m:az))&&decide ((m:az)<(n:az)))=true:=by rw[aF (show 0<=(m:az)by omega),aF (show(m:az)<(n:az)by omega)];rfl
theorem agA(ks:ay Ck)(x y z:ay CV):bP (ax (ax (ax (aN ks 3) 0 x) 1 y) 2 z)=3:=by simp[aN]
theorem ok{q:aU}{a s:az}(hI:I q a):∃(S:ay (ay az)) (A a' s':az),Sm S/\I q a'/\c q a s=ai/\v q a s=(rr S,A,q,a',s'):=by
 have main:e6 (vo q a s) (λx=>∃(S:ay (ay az)) (A a' s':az),Sm S/\I q a'/\x=(rr S,A,q,a',s')):=by
  unfold vo b;refine A_Post.below hI (λk a1 s1 I1 k0 k1=> ?_);refine A_Post.below I1 (λx a2 s2 I2 x0 x1=> ?_);obtain⟨S,A,a3,s3,hS,I3,c3,v3⟩:=sg.ok (s:=s2) I2;refine A_Post.call c3 v3 ?_;have C:=mr.ok S A (sg.fit hS);refine A_Post.call C.1 C.2 ?_;dsimp only;have sm:=Sm.of hS;obtain⟨hl,hA,hq⟩:=qX.1 hS;have L3:(rr S).length=3:=by rw[gg];exact hl
  obtain⟨m3,hm3,e3⟩:=md x 3 (by omega) x0;obtain⟨m16,anT,e16⟩:=md x 16 (by omega) x0;rw[show(((3:aE):az))=3 from rfl]at e3;rw[show(((16:aE):az))=16 from rfl]at e16;rw[e3,e16,L3,agA,agA];have hmS:m3<S.length:=by omega
  have h0S:0<S.length:=by omega
  have r3:ar (rr S) m3 0=CV.l 3 (ri S[m3]):=FH hmS;have r0:ar (rr S) 0 0=CV.l 3 (ri S[0]):=FH h0S;have q3:=(hq _ (bC hmS)).1;have q0:=(hq _ (bC h0S)).1;refine A_Post.br (λ_=> ?_) (λ_=> ?_)
  ·refine A_Post.ck (ix hm3) ?_;refine A_Post.ck (ix hm3) ?_;rw[dU,dU,r3];refine A_Post.ck ?_ ?_
   ·show(decide (0<=(m16:az))&&decide ((m16:az)<((ri S[m3]).length:az)))=ai;rw[Lib.fU,q3];exact ix anT
   ·refine A_Post.ret ⟨S.set m3 (S[m3].set m16 (bZ (ar (ax (ax (ax (aN [Ck.i ao] 3) 0 [CV.i ao (iT 1)]) 1 [CV.i ao 15]) 2 [CV.i ao 16]) m3 0))),A,a3,s3,sm.set m3 (by rw[cm];omega),I3, ?_⟩;rw[show rr S=S.map fg.fR from rfl];rw[show iD (CV.l 3 (ri S[m3]))=ri S[m3]from rfl,HW _ _ _ (by omega),FJ _ _ _ hmS];rfl
  ·refine A_Post.br (λ_=> ?_) (λ_=> ?_)
   ·exact A_Post.ck (ix hm3) (A_Post.ret ⟨S,_,a3,s3,sm,I3,rfl⟩)
   ·refine A_Post.br (λ_=> ?_) (λ_=> ?_)
    ·refine A_Post.ck rfl (A_Post.ret ⟨S.drop 1,A,a3,s3,⟨by rw[eL];omega,λy hy=>sm.2 y (kT hy)⟩,I3, ?_⟩);have:eu (rr S) (aZ 1) (aZ ((3:aE):az))=rr (S.drop 1):=by unfold eu rr;rw[show aZ 1=1 from rfl,show aZ ((3:aE):az)=3 from rfl,X2];exact gH (by rw[eL,bN];omega)
     rw[this]
    ·refine A_Post.br (λ_=> ?_) (λ_=> ?_)
     ·refine A_Post.ck rfl ?_;rw[show aZ 0=0 from rfl,r0];have e:iD (CV.l 3 (ri S[0]))=ri S[0]:=rfl;rw[e,Lib.fU,q0];refine A_Post.ck rfl (A_Post.ck rfl (A_Post.ret ⟨S.set 0 (S[0].drop 1),A,a3,s3,sm.set 0 (by rw[eL];omega),I3, ?_⟩));have:eu (ri S[0]) (aZ 1) (aZ ((16:aE):az))=ri (S[0].drop 1):=by unfold eu ri;rw[show aZ 1=1 from rfl,show aZ ((16:aE):az)=16 from rfl,X2];exact gH (by rw[eL,bN];omega)
      rw[this,show rr S=S.map fg.fR from rfl,FJ _ _ _ h0S];rfl
     ·exact A_Post.ret ⟨S,A,a3,s3,sm,I3,rfl⟩
 obtain⟨x,hx,S,A,a',s',h1,h2,rfl⟩:=main;obtain⟨c1,v1⟩:=out _ _ _ hx;exact⟨S,A,a',s',h1,h2,c1,v1⟩
end xY

namespace zx
open Lib (rr rs)
open bO (I)
open jk (pj eh)
open rj (gW)
theorem p0:pj [] [] sg.s0 0=true:=by decide
theorem walk{P:R->Prop}(N:aE)(K:az->aU->az->az->az->az->aU->aU->aU->aC R)(q:aU)(z:az)
  (hK:∀(i a s:az) (w m:ay aq) (S:ay (ay az)) (A:az),I q a->pj w m S A=ai->A_Post.e6 (K i q a s z A (rs w) (rs m) (rr S)) P):
  ∀(d i n:aE) (w m:ay aq) (S:ay (ay az)) (A a s:az),40-i<=d->i<=40->d<n->pj w m S A=ai->I q a->A_Post.e6 (l3 N K n (i:az) q a s z A (rs w) (rs m) (rr S)) P:=by
 have step:∀(i n:aE) (w m:ay aq) (S:ay (ay az)) (A a s:az),i<=40->pj w m S A=ai->I q a->
   (∀(w m:ay aq) (S:ay (ay az)) (A a s:az),i<40->pj w m S A=ai->I q a->A_Post.e6 (l3 N K n ((i+1:aE):az) q a s z A (rs w) (rs m) (rr S)) P)->A_Post.e6 (l3 N K (n+1) (i:az) q a s z A (rs w) (rs m) (rr S)) P:=by
  intro i n w m S A a s h2 h4 h5 nx
  obtain⟨x,a1,s1,c1,v1,I1,g0,g1⟩:=de.ok q a s 40 h5
  have:=g1 (by omega)
  rw[show l3 N K (n+1)=r3 N (l3 N K n) K from rfl]
  unfold r3
  refine A_Post.ck c1 ?_
  rw[v1]
  dsimp only
  by_cases h:(i:az)<x
  ·refine A_Post.ck (aF h) ?_;obtain⟨k,a2,s2,c2,v2,I2,hk⟩:=jR.ok q a1 s1 I1;refine A_Post.ck c2 ?_;rw[v2];dsimp only;obtain⟨_,l1,l2,hS⟩:=gW.1 h4;have B:=jd.ok w m S A k (by omega) (by omega) (sg.fit hS) (by omega);refine A_Post.ck B.1 ?_;rw[B.2,c5 (x:=(i:az)+1) (by omega) (by omega)];have Yj:eh k=true:=by unfold eh;exact aF (by omega)
   exact nx _ _ _ _ a2 s2 (by omega) (rj.qg h4 Yj).1 I2
  ·exact A_Post.cn (aK h) (hK _ _ _ _ _ _ _ I1 h4)
 intro d;induction d with
 |zero=>
  intro i n w m S A a s h1 h2 h3 h4 h5;obtain⟨n,rfl⟩:∃k,n=k+1:=⟨n-1,by omega⟩
  exact step i n w m S A a s h2 h4 h5 (λ_ _ _ _ _ _ h=>by omega)
 |succ d ih=>
  intro i n w m S A a s h1 h2 h3 h4 h5;obtain⟨n,rfl⟩:∃k,n=k+1:=⟨n-1,by omega⟩
  exact step i n w m S A a s h2 h4 h5 (λw m S A a s h h6 h7=>ih (i+1) n w m S A a s (by omega) (by omega) (by omega) h6 h7)
theorem ok{q:aU}{a s:az}(hI:I q a):∃(w m:ay aq) (S:ay (ay az)) (A a' s':az),pj w m S A=ai/\I q a'/\c q a s=ai/\v q a s=(rs w,rs m,rr S,A,q,a',s'):=by
 have main:A_Post.e6 (vo q a s) (λx=>∃(w m:ay aq) (S:ay (ay az)) (A a' s':az),pj w m S A=ai/\I q a'/\x=(rs w,rs m,rr S,A,q,a',s')):=by
  unfold vo;generalize hN:Lib.cW=N;have Yc:40<N:=by rw[<-hN];exact cK (by omega)
  clear hN;unfold b;exact walk N _ q 0 (λi a s w m S A h1 h2=>A_Post.ret ⟨w,m,S,A,a,s,h2,h1,rfl⟩) 40 0 N [] [] sg.s0 0 a s (cu _) (bz _) Yc p0 hI
 obtain⟨x,hx,w,m,S,A,a',s',h1,h2,rfl⟩:=main;obtain⟨c1,v1⟩:=out _ _ _ hx;exact⟨w,m,S,A,a',s',h1,h2,c1,v1⟩
end zx

namespace AB
open Lib (rr rs)
open bO (I)
open rj (gW)
open A_Post (e6)
open xY (Sm md ix)
def Pm(w m:ay aq)(s:ay (ay az)):Prop:=w.length<=3/\m.length<=5/\Sm s
theorem rm(n k:aE)(h:n<=1000)(hk:k=1):cB (n+k) 16=true:=by unfold cB;subst hk;rw[aF (by omega),aF (by omega)];rfl
theorem snoc(w:ay aq)(y:aq):rs w++ax (aN [Ck.s] 1) 0 [CV.s y]=rs (w++[y]):=by unfold rs;rw[c8];rfl
theorem ok{q:aU}{a s:az}(hI:I q a):∃(w m:ay aq) (S:ay (ay az)) (A a' s':az),Pm w m S/\I q a'/\c q a s=ai/\v q a s=(rs w,rs m,rr S,A,q,a',s'):=by
 have main:e6 (vo q a s) (λx=>∃(w m:ay aq) (S:ay (ay az)) (A a' s':az),Pm w m S/\I q a'/\x=(rs w,rs m,rr S,A,q,a',s')):=by
  unfold vo b;refine A_Post.below hI (λk a1 s1 I1 k0 k1=> ?_);refine A_Post.below I1 (λx a2 s2 I2 x0 x1=> ?_);obtain⟨w,m,S,A,a3,s3,hS,I3,c3,v3⟩:=zx.ok (s:=s2) I2;refine A_Post.call c3 v3 ?_;obtain⟨_,l1,l2,hsk⟩:=gW.1 hS;have C:=fw.ok w m S A (by omega) (by omega) (sg.fit hsk);refine A_Post.call C.1 C.2 ?_;dsimp only;have sm:=Sm.of hsk;obtain⟨m4,hm4,e4⟩:=md x 4 (by omega) x0;obtain⟨m2,Qu,e2⟩:=md x 2 (by omega) x0;rw[show(((4:aE):az))=4 from rfl]at e4;rw[show(((2:aE):az))=2 from rfl]at e2;rw[e4,e2];refine A_Post.br (λ_=> ?_) (λ_=> ?_)
  ·refine A_Post.ck (ix (by simpa [aN]using hm4)) (A_Post.ck (rm _ _ (by rw[dZ];omega) (by simp[aN])) ?_);rw[snoc];exact A_Post.ret ⟨w++[_],m,S,A,a3,s3,⟨by rw[bW];show w.length+1<=3;omega,by omega,sm⟩,I3,rfl⟩
  ·refine A_Post.br (λ_=> ?_) (λ_=> ?_)
   ·refine A_Post.ck (ix (by simpa [aN]using Qu)) (A_Post.ck (rm _ _ (by rw[dZ];omega) (by simp[aN])) ?_);rw[snoc];exact A_Post.ret ⟨w,m++[_],S,A,a3,s3,⟨by omega,by rw[bW];show m.length+1<=5;omega,sm⟩,I3,rfl⟩
   ·refine A_Post.br (λ_=> ?_) (λ_=> ?_)
    ·obtain⟨S2,A2,a4,s4,h4,I4,c4,v4⟩:=xY.ok (s:=s3) I3;exact A_Post.call c4 v4 (A_Post.ret ⟨w,m,S2,A2,a4,s4,⟨by omega,by omega,h4⟩,I4,rfl⟩)
    ·exact A_Post.ret ⟨w,m,S,A,a3,s3,⟨by omega,by omega,sm⟩,I3,rfl⟩
 obtain⟨x,hx,w,m,S,A,a',s',h1,h2,rfl⟩:=main;obtain⟨c1,v1⟩:=out _ _ _ hx;exact⟨w,m,S,A,a',s',h1,h2,c1,v1⟩
end AB

namespace CT
open Lib (Px Cl Fe En el)
open eT (has without gm kV)
open jk (eh pj)
open m9 (tU)
open m_ (nt lT)
open mo (iy)
open gT (So fS fK mD)
open lz (Cd)
open ur (fX Ij jM)
open rj (gW qg)
open iF (tY told yS zd jh)
theorem X6{p:Px}(h:fX p){n:az}(h1:p.now<=n)(h2:n<=1000000000):fX {p with now:=n}:=by
 have:=h.now;refine⟨⟨by dsimp only;omega,h2⟩,h.en,h.so,h.ek,h.pol,h.len,h.fl,λf hf=> ?_,h.ap,h.cll,λc hc=> ?_,h.cs,h.hits⟩
 ·have:=h.fe f hf;unfold nt at this⊢;simp only[aJ,bc]at this⊢;exact⟨this.1,this.2.1,this.2.2.1,this.2.2.2.1,this.2.2.2.2.1,yQ this.2.2.2.2.2 h1⟩
 ·have:=h.cl c hc;unfold Ij at this⊢;simp only[aJ,bc]at this⊢;exact⟨this.1,this.2.1,this.2.2.1,this.2.2.2.1,this.2.2.2.2.1,⟨this.2.2.2.2.2.1.1,yQ this.2.2.2.2.2.1.2 h1⟩,this.2.2.2.2.2.2⟩
theorem Ae{p:Px}{n:aE}{g:Fe}{st:az}(h:fX p)(hn:n<p.fe.length)(hk:g.k=(el p.fe n).k)(hg:nt p.now g=ai)(hs:g.sta=1->(el p.fe n).sta=1)(h1:1<=st/\st<=3):fX (told p n g st):=by
 rw[fQ hn]at hk hs;refine⟨h.now,h.en,h.so,h.ek,h.pol,h.len, ?_,λf hf=> ?_, ?_, ?_,λc hc=> ?_, ?_,h.hits⟩
 ·show(p.fe.set n g).length<=20;rw[cm];exact h.fl
 ·rcases je hf with q|rfl
  ·exact h.fe f q
  ·exact hg
 ·show(p.fe.set n g).Pairwise _;rw[dj];intro i j hi hj M1;rw[cm]at hi hj;have:=dj.1 h.ap i j hi hj M1;rw[PA,PA];unfold lT at this⊢;by_cases e1:n=i
  ·by_cases e2:n=j
   ·omega
   ·subst e1;simp only[if_true,e2,if_false];rw[hk];by_cases e3:g.sta=1
    ·rw[hs e3]at this;rw[e3];exact this
    ·rw[aK e3];simp
  ·by_cases e2:n=j
   ·subst e2;simp only[e1,if_true,if_false];rw[hk];by_cases e3:g.sta=1
    ·rw[hs e3]at this;rw[e3];exact this
    ·rw[aK e3];simp
   ·simp only[e1,e2,if_false];exact this
 ·show(uv.nK p.cl n st g.t).length<=6;unfold uv.nK;rw[bN];exact h.cll
 ·have G_:c∈uv.nK p.cl n st g.t:=hc;unfold uv.nK at G_;obtain⟨d,hd,rfl⟩:=cO.1 G_;have h2:=h.cl d hd;show Ij p.now (p.fe.set n g).length _=ai;rw[cm];unfold uv.ec;cases decide (d.fe=(n:az)+1)&&decide (d.sta=1)with
  |false=>exact h2
  |true=>rw[au];unfold Ij at h2⊢;unfold nt at hg;simp only[aJ,bc]at h2 hg⊢;exact⟨h2.1,h2.2.1,h1,h2.2.2.2.1,hg.2.1,h2.2.2.2.2.2⟩
 ·show(uv.nK p.cl n st g.t).Pairwise _;unfold uv.nK;rw[jV];refine h.cs.imp λ{a b} hab=> ?_;have e:∀d:Cl,(uv.ec n st g.t d).id=d.id:=λd=>by unfold uv.ec;cases decide (d.fe=(n:az)+1)&&decide (d.sta=1)<;>rfl
  rw[e,e];exact hab
theorem K8{p:Px}(h:fX p){n:aE}(hn:n<p.fe.length):eh (el p.fe n).k=ai/\((el p.fe n).t.size:az)<=400/\(1<=(el p.fe n).sta/\(el p.fe n).sta<=3)/\(0<=(el p.fe n).li/\(el p.fe n).li<=999999)/\0<=(el p.fe n).st/\(el p.fe n).st<=p.now:=by have:=h.fe _ (qM hn);unfold nt at this;simpa only[aJ,bc]using this
theorem IX{p:Px}(f:az)(h:fX p):fX (yS p f).1:=by
 unfold yS;cases ho:tY p f with
 |false=>exact h
 |true=>obtain⟨n,rfl,hn,_,h1⟩:=jh ho;obtain⟨g1,g2,g3,g4,g5⟩:=K8 h hn;refine Ae h hn rfl ?_ (λe=>cE e (by dsimp only;omega)) (by omega);unfold nt;simp only[aJ,bc];exact⟨g1,g2,by omega,g4,g5⟩
theorem JZ{p:Px}(f:az)(t:aq)(h:fX p):fX (zd p f t).1:=by
 unfold zd;cases ho:tY p f&&(decide (1<=t.size/\t.size<=40)&&decide ((el p.fe f.toNat).t.size+t.size<=400))with
 |false=>exact h
 |true=>
  simp only[aJ,bc]at ho;obtain⟨n,rfl,hn,_,h1⟩:=jh ho.1;obtain⟨g1,g2,g3,g4,g5⟩:=K8 h hn;rw[dU]at ho;refine Ae h hn rfl ?_ (λ_=>h1) (by omega);unfold nt;simp only[aJ,bc];refine⟨g1, ?_,g3,g4,g5⟩
  show((((el p.fe n).t++t).size:aE):az)<=400;rw[dv];omega
def My(en:ay En)(w m:ay aq):Prop:=∀k,k∈w\/k∈m↔∃e∈en,e.k=k
theorem HY{en:ay En}(h:So en):(en.map λe=>e.k).Nodup:=by rw[oT,jV];refine h.imp λ{a b} hab e=> ?_;rw[e]at hab;unfold fS at hab;rw[fI.n_]at hab;cases hab
theorem Aa{p:Px}(h:fX p):My p.en p.w p.m:=by
 obtain⟨⟨_,nd⟩,_⟩:=gW.1 h.pol;have ne:=HY h.so;have sub:(p.en.map λe=>e.k)⊆p.w++p.m:=λx hx=>by obtain⟨e,he,rfl⟩:=cO.1 hx;exact a_.2 (h.ek e he)
 intro k;constructor
 ·intro hk;have hk:k∈p.w++p.m:=a_.2 hk;refine zj λhn=> ?_;have nn:(k::p.en.map λe=>e.k).Nodup:=jY.2 ⟨λhx=>hn (by obtain⟨e,he,q⟩:=cO.1 hx;exact⟨e,he,q⟩),ne⟩;have:=nn.length_le_of_subset (l₂:=p.w++p.m) (λx hx=>by
   rcases cz.1 hx with rfl|hx
   ·exact hk
   ·exact sub hx)
  have hl:=h.len;simp only[cY,bN,bW]at this;omega
 ·rintro ⟨e,he,rfl⟩;exact h.ek e he
theorem of_same{en:ay En}{w m:ay aq}{s:ay (ay az)}{a:az}(h:My en w m)(so:So en)(hp:pj w m s a=ai):(∀e∈en,e.k∈w\/e.k∈m)/\w.length+m.length=en.length:=by
 obtain⟨⟨_,nd⟩,_⟩:=gW.1 hp;refine⟨λe he=>(h _).2 ⟨e,he,rfl⟩, ?_⟩
 have:=((List.perm_ext_iff_of_nodup nd (HY so)).2 λx=>by rw[a_,h x,cO]).length_eq;rw[bW,bN]at this;exact this
theorem mb{en:ay En}{k:aq}{e:En}:e∈fK en k↔e∈en/\e.k≠k:=by unfold fK;simp
theorem pk{en:ay En}{x e:En}:x∈mD en e↔x=e\/(x∈en/\x.k≠e.k):=by
 unfold mD;simp only[a_,dt,aX,dz,ij,gO];constructor
 ·rintro ((⟨h1,h2⟩|rfl)|⟨h1,h2⟩)
  ·refine .inr ⟨h1,λe2=> ?_⟩;rw[e2]at h2;unfold fS at h2;rw[fI.n_]at h2;cases h2
  ·exact .inl rfl
  ·exact .inr ⟨h1,h2.2⟩
 ·rintro (rfl|⟨h1,h2⟩)
  ·exact .inl (.inr rfl)
  ·cases hl:fS x.k e.k with
   |true=>exact .inl (.inl ⟨h1,rfl⟩)
   |false=>exact .inr ⟨h1,rfl,h2⟩
theorem yF{en:ay En}(h:So en)(e:En):So (mD en e):=by have:=(fI.v9 (gT.Bw h) e.k e.st e.li e.bo).1.1;rw[gT.sN]at this;unfold Lib.re at this;rw[jV]at this;exact this
theorem Ke{p:Px}{e:En}(h:fX p)(he:tU e=ai):fX (Cd p e):=by
 have hk:eh e.k=true:=by have:=(iI.Gg he).1;unfold eh;exact aF (by omega)
 obtain⟨t1,t2⟩:=qg h.pol hk;have sm:=Aa h;unfold Cd;generalize jd.val p.w p.m p.s p.a e.k=V at t1 t2;obtain⟨W,M,S,A,G⟩:=V;dsimp only at t1 t2⊢;have key:∀en',So en'->(∀x∈en',tU x=ai)->My en' W M->fX ⟨p.now,en',W,M,S,A,p.fe,p.cl,p.hits⟩:=λen' o1 o2 o3=>by obtain⟨q1,q2⟩:=of_same o3 o1 t1;exact⟨h.now,o2,o1,q1,t1,q2,h.fl,h.fe,h.ap,h.cll,h.cl,h.cs,h.hits⟩
 have d1:So (fK p.en G):=h.so.drop G;have d2:∀x∈fK p.en G,tU x=true:=λx hx=>h.en x (mb.1 hx).1;cases hh:has W e.k||has M e.k with
 |true=>
  rw[au];have g9:e.k∈W\/e.k∈M:=by rwa[dB,gm,gm]at hh
  refine key _ (yF d1 e) (λx hx=> ?_) λk=> ?_
  ·rcases pk.1 hx with rfl|q
   ·exact he
   ·exact d2 x q.1
  ·rw[t2 k];have hg:=((t2 e.k).1 g9).2;constructor
   ·rintro ⟨q,hn⟩;by_cases e1:k=e.k
    ·exact⟨e,pk.2 (.inl rfl),e1.symm⟩
    ·have q2:k∈p.w\/k∈p.m:=q.elim .inl λq=>q.elim .inr λq=>cE q e1;obtain⟨x,hx,rfl⟩:=(sm k).1 q2;exact⟨x,pk.2 (.inr ⟨mb.2 ⟨hx,hn⟩,e1⟩),rfl⟩
   ·rintro ⟨x,hx,rfl⟩;rcases pk.1 hx with rfl|q
    ·exact⟨.inr (.inr rfl),hg⟩
    ·obtain⟨q1,q2⟩:=mb.1 q.1;exact⟨((sm x.k).2 ⟨x,q1,rfl⟩).elim .inl λz=> .inr (.inl z),q2⟩
 |false=>
  rw[aA];have g9:¬(e.k∈W\/e.k∈M):=by rw[<-gm,<-gm,<-dB,hh];simp
  have hg:e.k=G:=zj λhn=>g9 ((t2 e.k).2 ⟨.inr (.inr rfl),hn⟩);refine key _ d1 d2 λk=> ?_;rw[t2 k];constructor
  ·rintro ⟨q,hn⟩;have q2:k∈p.w\/k∈p.m:=q.elim .inl λq=>q.elim .inr λq=>cE (q.trans hg) hn;obtain⟨x,hx,rfl⟩:=(sm k).1 q2;exact⟨x,mb.2 ⟨hx,hn⟩,rfl⟩
  ·rintro ⟨x,hx,rfl⟩;obtain⟨q1,q2⟩:=mb.1 hx;exact⟨((sm x.k).2 ⟨x,q1,rfl⟩).elim .inl λz=> .inr (.inl z),q2⟩
end CT

namespace Ko
def fv(k:aq)(s l:az)(b:aq)(n:az):aW:=bif iI.v k s l b then bif kg.v n s 1000000000 then decide (bJ (n-s)<l)else ak else ak
theorem eq(k:aq)(s l:az)(b:aq)(n:az):Ih.v k s l b n=fv k s l b n:=by
 have e:Az.v k s l b=iI.v k s l b:=rfl;unfold Ih.v fv;rw[e];cases h:iI.v k s l b with
 |false=>rfl
 |true=>
  have hs:(0<=s/\s<=1000000000)/\1<=l/\l<=999999:=by unfold iI.v at h;cases h1:Gu.v k<;>rw[h1]at h<;>simp only[au,aA,dg]at h;cases h2:kg.v s 0 1000000000<;>rw[h2]at h<;>simp only[au,aA,dg]at h;cases h3:kg.v l 1 999999<;>rw[h3]at h<;>simp only[au,aA,dg]at h;simp[kg.v]at h2 h3;omega
  simp only[au,Ax.v,n7.v,kg.v,cZ,bc];by_cases h1:0<=n/\n<=1000000000
  ·rw[jN (x:=n-s) (by omega) (by omega),jN (x:=s+l) (by omega) (by omega),jN (x:=s+l-1) (by omega) (by omega)];by_cases h2:s<=n<;>by_cases h3:n-s<l<;>simp[h1,h2,h3]<;>omega
  ·by_cases h2:s<=n<;>by_cases h3:0<=n<;>by_cases h4:n<=1000000000<;>simp[h2,h3,h4]<;>omega
end Ko

namespace DS
open Lib (Px Cl Fe En el)
open eT (has without gm kV)
open jk (eh pj)
open m9 (tU)
open m_ (nt lT)
open mo (iy)
open gT (So fS fK mD)
open ur (fX Ij jM)
open rj (gW qg FK Fo)
open CT (My Aa of_same mb)
open dP (hit qR put Ik Nn Gf lh jn tX vV)
theorem Xi(l:ay Cl)(n:az):(l.filter λx=>decide (x.id<n)).length+(l.filter λx=>decide (x.id>n)).length<=l.length:=by
 induction l with
 |nil=>exact cu _
 |cons y l ih=>
  simp only[List.filter_cons];by_cases h1:y.id<n
  ·rw[aF h1,aK (show¬y.id>n by omega)];simp only[if_true,dg,if_false,cY];omega
  ·rw[aK h1];by_cases h2:y.id>n
   ·rw[aF h2];simp only[if_true,dg,if_false,cY];omega
   ·rw[aK h2];simp only[dg,if_false,cY];omega
theorem Y8{l:ay Cl}{c:Cl}(cs:l.Pairwise λa b=>a.id<b.id):(jn l c).length<=l.length+1/\((jn l c).Pairwise λa b=>a.id<b.id)/\∀x∈jn l c,x=c\/x∈l:=by
 unfold jn;refine⟨?_, ?_,λx hx=> ?_⟩
 ·have:=Xi l c.id;simp only[bW,cY,jo];omega
 ·rw[ch,tL];refine⟨cs.filter _, ?_,λa ha b hb=> ?_⟩
  ·rw[tM,pQ];exact⟨λb hb=>cg (dt.1 hb).2,cs.filter _⟩
  ·have ha:=cg (dt.1 ha).2;rcases a_.1 hb with hb|hb
   ·rw[aX]at hb;rw[hb];exact ha
   ·have hb:=cg (dt.1 hb).2;omega
 ·rcases a_.1 hx with hx|hx
  ·rcases a_.1 hx with hx|hx
   ·exact .inr (dt.1 hx).1
   ·exact .inl (aX.1 hx)
  ·exact .inr (dt.1 hx).1
theorem Xh{w m:ay aq}{s:ay (ay az)}{a:az}{key:aq}(h:key∈w\/key∈m):(jd.val w m s a key).2.2.2.2=⟨#[]⟩:=by
 unfold jd.val;cases pj w m s a&&eh key with
 |false=>rfl
 |true=>
  rw[au];cases h1:has w key with
  |true=>rfl
  |false=>have h2:has m key=true:=gm.2 (h.resolve_left (kV.1 h1));rw[h2];rfl
theorem S6{w m:ay aq}{s:ay (ay az)}{a:az}{key:aq}(h:pj w m s a=ai)(hk:eh key=ai):(has (jd.val w m s a key).1 key||has (jd.val w m s a key).2.1 key)=true:=by
 obtain⟨⟨k1,nd⟩,l1,l2,hs⟩:=gW.1 h;rw[dB,gm,gm];refine((qg h hk).2 key).2 ⟨.inr (.inr rfl), ?_⟩;have kn:=Fo hk;unfold jd.val;rw[h,hk,aM,au];cases h1:has w key with
 |true=>exact kn
 |false=>
  rw[aA];have hw:=kV.1 h1;cases h2:has m key with
  |true=>exact kn
  |false=>
   rw[aA];have hm:=kV.1 h2;by_cases h3:(w++[key]).length<=2
   ·rw[aF h3];exact kn
   ·rw[aK h3,aA];have il:(w++[key]).getD 0 ⟨#[]⟩≠key:=by
     cases w with
     |nil=>simp at h3
     |cons x w=>intro e;exact hw (by rw[<-e];simp)
    by_cases h4:m.length<4
    ·rw[aF h4];exact kn
    ·rw[aK h4,aA];cases decide (lV.val (fg.val s a key).1 (fg.val s a key).2 ((w++[key]).getD 0 ⟨#[]⟩)>lV.val (fg.val s a key).1 (fg.val s a key).2 (m.getD 0 ⟨#[]⟩))with
     |true=>
      intro e;cases m with
      |nil=>simp at h4
      |cons x m=>exact hm (by rw[e];simp)
     |false=>exact λe=>il e.symm
theorem ab5{p:Px}{id:az}{key:aq}{e:En}(h:fX p)(Im:1<=id/\id<=9)(hk:eh key=ai)(hl:p.cl.length<6)(he:e∈p.en)(hek:e.k=key)(Jz:e.st<=p.now):fX (hit p id key e):=by
 have g9:key∈p.w\/key∈p.m:=by rw[<-hek];exact h.ek e he
 obtain⟨t1,t2⟩:=qg h.pol hk;have tg:=Xh (s:=p.s) (a:=p.a) g9;have sm:=Aa h;have hr:=iI.Gg (h.en e he);obtain⟨j1,j2,j3⟩:=Y8 (c:=⟨id,key,0,e.st,2,e.bo,p.now-e.st⟩) h.cs;unfold hit;generalize jd.val p.w p.m p.s p.a key=V at t1 t2 tg;obtain⟨W,M,S,A,G⟩:=V;dsimp only at t1 t2 tg⊢;subst tg;have sm2:My p.en W M:=λk=>by
  rw[t2 k];refine Iff.trans ?_ (sm k);constructor
  ·rintro ⟨q|q|rfl,_⟩
   ·exact .inl q
   ·exact .inr q
   ·exact g9
  ·intro q;refine⟨q.elim .inl λq=> .inr (.inl q), ?_⟩
   obtain⟨x,hx,rfl⟩:=(sm k).1 q;have:=(iI.Gg (h.en x hx)).1;intro e;rw[e]at this;exact cE this.1 (by decide)
 obtain⟨q1,q2⟩:=of_same sm2 h.so t1;refine⟨h.now,h.en,h.so,q1,t1,q2,h.fl,h.fe,h.ap,by dsimp only;omega,λc hc=> ?_,j2, ?_⟩
 ·rcases j3 c hc with rfl|hc
  ·unfold Ij;simp only[aJ,bc];exact⟨Im,hk,by omega,⟨by omega,by omega⟩,by omega,⟨by omega,Jz⟩,by omega⟩
  ·exact h.cl c hc
 ·have:=h.hits;dsimp only;by_cases hh:p.hits<1000000000
  ·rw[aF hh,au];omega
  ·rw[aK hh,aA];exact this
theorem FT{l:ay aq}{k x:aq}:x∈without l k↔x∈l/\x≠k:=by unfold without;simp
theorem Fx{p:Px}{id:az}{key:aq}{h:aW}{fe:ay Fe}{i:aE}(ho:fX p)(Im:1<=id/\id<=9)(hk:eh key=ai)(hl:p.cl.length<6)(hn:p.fe.length<=fe.length)(UR:fe.length<=20)(hf:∀f∈fe,nt p.now f=ai)(hap:fe.Pairwise λf g=>lT g f=ak)(hi:i<fe.length)(hp:h=ak->True):fX (put p id key h fe i):=by
 obtain⟨⟨k1,nd⟩,l1,l2,hs⟩:=gW.1 ho.pol;have Ln:=FK key hs;have sm:=Aa ho;obtain⟨j1,j2,j3⟩:=Y8 (c:=⟨id,key,(i:az)+1,0,1,(el fe i).t,0⟩) ho.cs;have hfi:=hf _ (qM hi);have nM:∀c∈jn p.cl ⟨id,key,(i:az)+1,0,1,(el fe i).t,0⟩,Ij p.now fe.length c=true:=λc hc=>by
  rcases j3 c hc with rfl|hc
  ·unfold nt at hfi;unfold Ij;simp only[aJ,bc]at hfi⊢;have:=ho.now;exact⟨Im,hk,by omega,⟨by omega,by omega⟩,hfi.2.1,⟨by omega,by omega⟩,by omega⟩
  ·have:=ho.cl c hc;unfold Ij at this⊢;simp only[aJ,bc]at this⊢;exact⟨this.1,this.2.1,this.2.2.1,⟨this.2.2.2.1.1,by omega⟩,this.2.2.2.2⟩
 unfold put;cases h with
 |false=>have U3:pj p.w p.m (fg.val p.s p.a key).1 (fg.val p.s p.a key).2=true:=gW.2 ⟨⟨k1,nd⟩,l1,l2,Ln⟩;exact⟨ho.now,ho.en,ho.so,ho.ek,U3,ho.len,UR,hf,hap,by dsimp only;omega,nM,j2,ho.hits⟩
 |true=>
  have U3:pj (without p.w key) (without p.m key) (fg.val p.s p.a key).1 (fg.val p.s p.a key).2=true:=by
   refine gW.2 ⟨⟨λk hx=> ?_, ?_⟩,c6 eT.gY l1,c6 eT.gY l2,Ln⟩
   ·rcases a_.1 hx with q|q
    ·exact k1 k (a_.2 (.inl (FT.1 q).1))
    ·exact k1 k (a_.2 (.inr (FT.1 q).1))
   ·have:without p.w key++without p.m key=(p.w++p.m).filter λx=> !decide (x=key):=by unfold without;rw[jG]
    rw[this];exact nd.sublist jm
  have sm2:My (fK p.en key) (without p.w key) (without p.m key):=λk=>by
   rw[FT,FT];constructor
   ·intro q;have il:k≠key:=q.elim (·.2) (·.2);obtain⟨x,hx,rfl⟩:=(sm k).1 (q.elim (λq=> .inl q.1) (λq=> .inr q.1));exact⟨x,mb.2 ⟨hx,il⟩,rfl⟩
   ·rintro ⟨x,hx,rfl⟩;obtain⟨hx,il⟩:=mb.1 hx;exact((sm x.k).2 ⟨x,hx,rfl⟩).elim (λq=> .inl ⟨q,il⟩) (λq=> .inr ⟨q,il⟩)
  have so:=ho.so.drop key;obtain⟨q1,q2⟩:=of_same sm2 so U3;exact⟨ho.now,λe he=>ho.en e (mb.1 he).1,so,q1,U3,q2,UR,hf,hap,by dsimp only;omega,nM,j2,ho.hits⟩
theorem Lx{p:Px}{id:az}{key:aq}{h:aW}(ho:fX p)(Im:1<=id/\id<=9)(hk:eh key=ai)(hl:p.cl.length<6):fX (qR p id key h).1:=by
 unfold qR;cases hop:Nn p.fe key with
 |some i=>have hi:i<p.fe.length:=(wI.1 hop).1;exact Fx ho Im hk hl (cu _) ho.fl ho.fe ho.ap hi (λ_=>trivial)
 |none=>
  dsimp only;by_cases UR:p.fe.length<20
  ·rw[aF UR,au];have yq:∀f∈p.fe,Gf key f=false:=λf hf=>by have:=C4.1 hop f hf;simpa using this
   have anY:=ho.now;refine Fx ho Im hk hl (by simp) (by simp;omega) (λf hf=> ?_) ?_ (by simp) (λ_=>trivial)
   ·rcases a_.1 hf with q|q
    ·exact ho.fe f q
    ·rw[aX]at q;subst q;unfold nt tX;simp only[aJ,bc];exact⟨hk,by show((0:aE):az)<=400;omega,by omega,by omega,by omega,by omega⟩
   ·rw[tL];refine⟨ho.ap,by simp,λa ha b hb=> ?_⟩
    rw[aX]at hb;subst hb;have:=yq a ha;unfold Gf at this;unfold lT tX;dsimp only;revert this;rw[show decide (key=a.k)=decide (a.k=key)from by rw[cf];exact GY];cases decide (a.k=key)<;>cases decide (a.sta=1)<;>simp
  ·rw[aK UR];exact ho
theorem PU{p:Px}(id:az)(key:aq)(h:fX p):fX (dP.ask p id key).1:=by
 unfold dP.ask;cases hg:iy p&&(decide (1<=id/\id<=9)&&(eh key&&(!lh p.cl id&&decide (p.cl.length<6))))with
 |false=>exact h
 |true=>
  simp only[aJ,bc]at hg;obtain⟨_,Im,hk,_,hl⟩:=hg;rw[au];cases he:Ik p.en key with
  |none=>exact Lx h Im hk hl
  |some e=>
   dsimp only;cases hf:vV e p.now with
   |false=>exact Lx h Im hk hl
   |true=>
    unfold Ik at he;have h1:=F8 he;have h2:=List.find?_some he;refine ab5 h Im hk hl h1 (cg h2) ?_;unfold vV at hf;rw[Ko.eq]at hf;unfold Ko.fv at hf;rw[show iI.v e.k e.st e.li e.bo=ai from h.en e h1,au,show kg.v p.now e.st 1000000000=decide (e.st<=p.now/\p.now<=1000000000)from e7.eM _ _ _]at hf;cases hd:decide (e.st<=p.now/\p.now<=1000000000)with
    |true=>exact(cg hd).1
    |false=>rw[hd]at hf;cases hf
end DS

namespace Iw
open Lib (Px Cl Fe En el)
open ur (fX Ij jM)
open CT (X6)
theorem DC{now n:az}(h:1<=now/\now<=1000000000):now<=IM.later now n/\IM.later now n<=1000000000:=by
 unfold IM.later;have:=r_ n (show(1000:az)≠0 by omega);have:=wH n (show(0:az)<1000 by omega);by_cases hc:now>1000000000-n%1000
 ·rw[aF hc,au];omega
 ·rw[aK hc,aA,c5 (by omega) (by omega)];omega
theorem WQ{p:Px}(n:az)(h:fX p):fX (IM.val p n):=X6 h (DC h.now).1 (DC h.now).2
theorem Q1{p:Px}(id:az)(h:fX p):fX (IP.val p id):=
 ⟨h.now,h.en,h.so,h.ek,h.pol,h.len,h.fl,h.fe,h.ap,c6 (eH _ _) h.cll,λc hc=>h.cl c (dt.1 hc).1,h.cs.sublist jm,h.hits⟩
end Iw

namespace kO
open Lib (Px Cl Fe En el)
open eT (has gm)
open jk (eh pj)
open m9 (tU)
open m_ (nt lT)
open mo (iy)
open ur (fX Ij jM)
open iF (tY told yS zd jh)
open rV (cls nA)
open lz (Cd)
open kM (Dk Jq tx kp rU)
open pP (dk es)
open mX (Wo Ev closed Jj p8 sw flag)
open CT (Ae K8 IX JZ Ke)
def on(l:ay Fe):aE:=l.countP λf=>decide (f.sta=1)
theorem vb5{x:az}(h:x<=1000000000):(bytesOf (Lib.vb x)).size<=5:=by
 rw[Lib.gX]
 exact Lib.Ag 4 x (by have:(128:az)^5=34359738368:=by decide
                      omega)
theorem Qj{e:En}(h:Dk e=ai):(Jq e).size<=460:=by
 have hr:=iI.Gg h;have z1:=vb5 (x:=(e.k.size:az)) (by omega);have z2:=vb5 (x:=e.st) (by omega);have z3:=vb5 (x:=e.li) (by omega);have ht:(rU e).size<=445:=by unfold rU jI.rU;simp only[Lib.lx];omega
 have z4:=vb5 (x:=((rU e).size:az)) (by omega);unfold Jq fT.fr;rw[Lib.lx,Lib.lx,oX.size];omega
theorem aaH(l:ay En)(h:∀e∈l,Dk e=ai):(tx l).size<=460*l.length:=by
 induction l with
 |nil=>exact cu _
 |cons e l ih=>have h1:=Qj (h e (by simp));have h2:=ih λx hx=>h x (by simp[hx]);have:(tx (e::l)).size=(Jq e).size+(tx l).size:=dv;rw[this,cY];omega
structure B8 (i:aE) (w:Wo):Prop where
 px:fX w.p
 eo:∀e∈es w.o,Dk e=ai
 ct:2*(es w.o).length+on w.p.fe<=i
 cd:w.cd.length=i
 bd:w.bd.length<=i
 bo:∀e∈w.bd,Dk e=ai
theorem B8.len{i:aE}{w:Wo}(h:B8 i w)(hi:i<=71):(es w.o).length<=35:=by have:=h.ct;omega
theorem B8.tx{i:aE}{w:Wo}(h:B8 i w)(hi:i<=71):(tx (es w.o)).size<=16100:=by have:=aaH _ h.eo;have:=h.len hi;omega
theorem JP{l:ay Fe}{n:aE}{g:Fe}(hn:n<l.length):on (l.set n g)+(if(el l n).sta=1 then 1 else 0)=on l+(if g.sta=1 then 1 else 0):=by
 unfold on;rw[List.countP_set hn,fQ hn];have hle:l[n].sta=1->1<=l.countP λf=>decide (f.sta=1):=λh=>List.countP_pos_iff.2 ⟨_,bC hn,aF h⟩;generalize l.countP (λf=>decide (f.sta=1))=m at hle;by_cases h1:l[n].sta=1
 ·have:=hle h1;by_cases h2:g.sta=1
  ·rw[bw h1,bw h2,bw (aF h1),bw (aF h2)];omega
  ·rw[bw h1,bH h2,bw (aF h1),bH (by rw[aK h2];simp)];omega
 ·by_cases h2:g.sta=1
  ·rw[bH h1,bw h2,bH (by rw[aK h1];simp),bw (aF h2)];omega
  ·rw[bH h1,bH h2,bH (by rw[aK h1];simp),bH (by rw[aK h2];simp)];omega
theorem R3{now:az}(hn:1<=now/\now<=1000000000)(l:ay En):fX (iG.BK now l):=by
 have key:∀(l:ay En) (p:Px),fX p->fX (l.foldl (iG.one now) p):=by
  intro l;induction l with
  |nil=>intro p h;exact h
  |cons e l ih=>
   intro p h;rw[Ci];refine ih _ ?_;unfold iG.one;cases hf:iG.vV e now with
   |true=>exact Ke h (iG.E0 hf)
   |false=>exact h
 refine key l _ ⟨hn,λe h=>(by cases h),gM,λe h=>(by cases h), ?_,rfl,bz _,λf h=>(by cases h),gM,bz _,λc h=>(by cases h),gM,by show(0:az)<=0/\(0:az)<=1000000000;omega⟩;refine rj.gW.2 ⟨⟨λk h=>(by cases h),List.nodup_nil⟩,bz _,bz _,rj.qX.2 ⟨rfl,by show(0:az)<=0/\(0:az)<=63;omega,λq hq=> ?_⟩⟩;have:q=iG.Ia:=by change q∈[iG.Ia,iG.Ia,iG.Ia]at hq;simp at hq;exact hq
 subst this;refine⟨rfl,λn hn=> ?_⟩
 unfold iG.Ia at hn;simp at hn;omega
theorem I9{p:Px}{f life:az}(h:fX p)(hl:0<=life/\life<=999999):
  fX (cls p f life).1/\(((cls p f life).2=ak/\(cls p f life).1=p)\/((cls p f life).2=ai/\∃n:aE,f=(n:az)/\n<p.fe.length/\(cls p f life).1.fe=p.fe.set n {el p.fe n with sta:=2,li:=life,st:=p.now}/\(el p.fe n).sta=1/\
   (life>0->Dk (nA {el p.fe n with sta:=2,li:=life,st:=p.now})=ai/\(has (cls p f life).1.w (el p.fe n).k||has (cls p f life).1.m (el p.fe n).k)=ai))):=by
 unfold cls;cases ho:tY p f&&decide (0<=life/\life<=999999)with
 |false=>exact⟨h, .inl ⟨rfl,rfl⟩⟩
 |true=>
  rw[aJ]at ho;obtain⟨n,rfl,hn,_,h1⟩:=jh ho.1;obtain⟨g1,g2,g3,g4,g5⟩:=K8 h hn;have anY:=h.now;rw[au,dU];have ht:fX (told p n {el p.fe n with sta:=2,li:=life,st:=p.now} 2):=by refine Ae h hn rfl ?_ (λe=>cE e (by dsimp only;omega)) (by omega);unfold nt;simp only[aJ,bc];exact⟨g1,g2,by omega,hl,by omega,by omega⟩
  have he:life>0->Dk (nA {el p.fe n with sta:=2,li:=life,st:=p.now})=true:=λTP=>by unfold Dk nA iI.v;dsimp only;rw[jk.iw,g1,au,show kg.v p.now 0 1000000000=decide (0<=p.now/\p.now<=1000000000)from e7.eM _ _ _,aF (show 0<=p.now/\p.now<=1000000000 by omega),au,show kg.v life 1 999999=decide (1<=life/\life<=999999)from e7.eM _ _ _,aF (show 1<=life/\life<=999999 by omega),au];exact aF g2
  by_cases TP:life>0
  ·rw[aF TP,au];have g9:=DS.S6 (key:=(el p.fe n).k) ht.pol g1;exact⟨Ke ht (he TP), .inr ⟨rfl,n,rfl,hn,rfl,h1,λ_=>⟨he TP,g9⟩⟩⟩
  ·rw[aK TP,aA];exact⟨ht, .inr ⟨rfl,n,rfl,hn,rfl,h1,λh=>cE h TP⟩⟩
theorem abt(p:Px)(id:az)(key:aq):on (dP.ask p id key).1.fe<=on p.fe+1:=by
 have hm:∀h,on (dP.qR p id key h).1.fe<=on p.fe+1:=λh=>by
  unfold dP.qR;cases dP.Nn p.fe key with
  |some i=>exact jc _
  |none=>
   dsimp only;cases decide (p.fe.length<20)with
   |true=>show on (p.fe++[dP.tX key])<=_;unfold on;rw[List.countP_append];exact cu _
   |false=>exact jc _
 unfold dP.ask;cases iy p&&(decide (1<=id/\id<=9)&&(eh key&&(!dP.lh p.cl id&&decide (p.cl.length<6))))with
 |false=>exact jc _
 |true=>
  rw[au];cases dP.Ik p.en key with
  |none=>exact hm _
  |some e=>
   dsimp only;cases dP.vV e p.now with
   |false=>exact hm _
   |true=>exact jc _
theorem G8(w:Wo):(p8 w).length<=(es w.o).length:=c6 (eH ..) (kM.Q0 _)
theorem Lf{w:Wo}(h:∀e∈es w.o,Dk e=ai):∀e∈p8 w,Dk e=true:=λe he=>h e (kM.acz (dt.1 he).1)
theorem Ab{i:aE}{w:Wo}{e:Ev}(h:B8 i w)(he:sw e=ai):B8 (i+1) (mX.step w e):=by
 unfold sw at he;simp only[aJ,bc]at he;obtain⟨hk,Im,ht,hn,hl⟩:=he;have hct:=h.ct;have hbd:=h.bd;have cdl:∀n:az,(w.cd++[n]).length=i+1:=λn=>by rw[bW,h.cd];rfl
 have px':∀(p:Px) (n:az),fX p->on p.fe<=on w.p.fe+1->B8 (i+1) {{w with p:=p}with cd:=w.cd++[n]}:=λp n hp ho=>⟨hp,h.eo,by dsimp only;omega,cdl n,mF h.bd,h.bo⟩
 unfold mX.step mX.act;by_cases k1:e.k=1
 ·rw[aF k1,au];exact px' _ _ (DS.PU _ _ h.px) (abt ..)
 rw[aK k1,aA];by_cases k2:e.k=2
 ·rw[aF k2,au];refine px' _ _ (JZ _ _ h.px) ?_;unfold zd;cases ho:tY w.p e.id&&(decide (1<=e.t.size/\e.t.size<=40)&&decide ((el w.p.fe e.id.toNat).t.size+e.t.size<=400))with
  |false=>exact jc _
  |true=>
   rw[aJ]at ho;obtain⟨n,en,hn,_,h1⟩:=jh ho.1;rw[en,dU];have q:∀g:Fe,g.sta=(el w.p.fe n).sta->on (w.p.fe.set n g)<=on w.p.fe+1:=λg hg=>by have:=JP (g:=g) hn;rw[hg]at this;omega
   exact q _ rfl
 rw[aK k2,aA];by_cases k3:e.k=3
 ·rw[aF k3,au];have hlr:0<=e.n%1000000/\e.n%1000000<=999999:=by omega
  obtain⟨q1,q2⟩:=I9 (f:=e.id) h.px hlr;unfold closed;dsimp only;rcases q2 with ⟨r1,r2⟩|⟨r1,n,rn,hn,rf,rs,rl⟩
  ·rw[r1,pr,aA];exact px' _ _ q1 (by rw[r2];exact jc _)
  ·have:=JP (g:={el w.p.fe n with sta:=2,li:=e.n%1000000,st:=w.p.now}) hn;rw[bw rs,bH (show¬(2:az)=1 by omega)]at this;have ho:on (cls w.p e.id (e.n%1000000)).1.fe+1=on w.p.fe:=by rw[rf];exact this
   rw[r1,bj];by_cases TP:e.n%1000000>0
   ·rw[aF TP,au];obtain⟨s1,s2⟩:=rl TP;have hx:Dk (nA (el (cls w.p e.id (e.n%1000000)).1.fe e.id.toNat))=true:=by rw[rn,dU,<-rn,rf,iF.jK hn];exact s1
    refine⟨q1,λy hy=> ?_, ?_,cdl _, ?_,λy hy=> ?_⟩
    ·rcases a_.1 hy with hy|hy
     ·exact h.eo y hy
     ·rw[aX]at hy;rw[hy];exact hx
    ·show 2*(es w.o++[_]).length+on (cls w.p e.id (e.n%1000000)).1.fe<=i+1;rw[bW,bB];omega
    ·show(w.bd++[_]).length<=i+1;rw[bW,bB];omega
    ·rcases a_.1 hy with hy|hy
     ·exact h.bo y hy
     ·rw[aX]at hy;rw[hy];exact hx
   ·rw[aK TP,aA];exact px' _ _ q1 (by omega)
 rw[aK k3,aA];by_cases k4:e.k=4
 ·rw[aF k4,au];refine px' _ _ (IX _ h.px) ?_;unfold yS;cases ho:tY w.p e.id with
  |false=>exact jc _
  |true=>
   obtain⟨n,en,hn,_,h1⟩:=jh ho;rw[en,dU];have q:∀g:Fe,g.sta=3->on (w.p.fe.set n g)<=on w.p.fe+1:=λg hg=>by have:=JP (g:=g) hn;rw[bw h1,bH (show¬g.sta=1 by omega)]at this;omega
   exact q _ rfl
 rw[aK k4,aA];by_cases k5:e.k=5
 ·rw[aF k5,au];exact px' _ _ (Iw.WQ _ h.px) (jc _)
 rw[aK k5,aA];by_cases k6:e.k=6
 ·rw[aF k6,au];exact px' _ _ (Iw.Q1 _ h.px) (jc _)
 rw[aK k6,aA];have N1:=G8 w;have hinv:=iG.Fg w.p.now (p8 w) (p8 w).length (cu _);rw[g8]at hinv;refine⟨R3 h.px.now _,Lf h.eo, ?_,cdl _,mF h.bd,h.bo⟩
 show 2*(p8 w).length+on (iG.BK w.p.now (p8 w)).fe<=i+1;rw[hinv.fe];show 2*(p8 w).length+0<=i+1;omega
end kO

namespace T1
open Lib (rr rs re rf rc rd Px En el)
open mX (Wo Ev sw)
open pP (dk es)
open kO (B8)
open jP (ri EI)
instance:Inhabited Ev:=⟨⟨0,0,⟨#[]⟩,0,[]⟩⟩
def Evr(e:Ev):ay CV:=[CV.i ao e.k,CV.i ao e.id,CV.s e.t,CV.i ao e.n,CV.l 3 e.l]
def rv(l:ay Ev):aU:=l.map Evr
def w0:Wo:=⟨iG.p0 1,aj,[],[]⟩
def run(l:ay Ev):Wo:=l.foldl mX.step w0
theorem aiP:B8 0 w0:=by refine⟨kO.R3 (now:=1) (by omega) [],λe h=>(by cases h),cu _,rfl,cu _,λe h=>(by cases h)⟩
def W13(w:Wo)(b:aW):az×aU×aU×aU×aU×az×aU×aU×az×aU×aU×aU×aW:=(w.p.now,re w.p.en,rs w.p.w,rs w.p.m,rr w.p.s,w.p.a,rf w.p.fe,rc w.p.cl,w.p.hits,rd (dk w.o),ri w.cd,re w.bd,b)
def ane(l:ay Ev):aW:=decide (l.length<=70)&&(cJ l.length).all λi=>sw (el l i)
def life(l:ay Ev):az×aU×aU×aU×aU×az×aU×aU×az×aU×aU×aU×aW:=bif ane l then W13 (run l) ai else(0,[],[],[],[],0,[],[],0,[],[],[],ak)
end T1

namespace uN
open bO (I)
open A_Post (e6)
open mX (Ev sw)
def Dr(q e w m s fe cl dk cd bd:aU)(x:az×az×aq×az×aU×aU×az×az×aU×aU×aU×aU×aU×aU×aU×aU×aU):Prop:=
 ∃k id t n a' s',x=(k,id,t,n,[],q,a',s',e,w,m,s,fe,cl,dk,cd,bd)/\I q a'/\sw ⟨k,id,t,n,[]⟩=ai/\k<=6
theorem leaf{q e w m s fe cl dk cd bd:aU}{k id:az}{t:aq}{n a' s':az}(hI:I q a')(hk:1<=k/\k<=6)(Im:0<=id/\id<=30)(ht:t.size<=60)(hn:0<=n):e6 (ah (k,id,t,n,([]:aU),q,a',s',e,w,m,s,fe,cl,dk,cd,bd)) (Dr q e w m s fe cl dk cd bd):=by
 refine⟨_,rfl,k,id,t,n,a',s',rfl,hI, ?_,hk.2⟩
 unfold sw;rw[aF (show 1<=k/\k<=7 by omega),aF Im,aF ht,aF hn];rfl
theorem idA{n:az}(h0:0<=n)(h1:(0:az)<3->n<3):0<=n/\n<=30:=by omega
theorem idB{n:az}(h0:0<=n)(h1:(0:az)<9->n<9):0<=bJ (1+n)/\bJ (1+n)<=30:=by rw[c5 (x:=1+n) (by omega) (by omega)];omega
theorem idC{l:aU}{n:az}(hl:∀j,j<l.length->0<=bZ (ar l j 0)/\bZ (ar l j 0)<=30)(h0:0<=n)(h1:0<(l.length:az)->n<(l.length:az))(hp:decide ((l.length:az)>0)=ai):0<=bZ (ar l n.toNat 0)/\bZ (ar l n.toNat 0)<=30:=by have:=h1 (cg hp);exact hl _ (by omega)
theorem tA{t:aq}(h:t.size=2):t.size<=60:=by omega
theorem opens{P:R->Prop}(N:aE)(K:az->az->az->az->aU->az->az->aU->aU->aU->aU->aU->aU->aU->aU->aU->az->az->az->az->az->aq->az->az->az->aq->az->aU->aC R)(x1 x2 x3:az)(x5:aU)(x6 x7:az)(x8 x9 x10 x11 Kl x13 x14 x15 x16:aU)(x17 x18 x19 x20 x21:az)(x22:aq)(x23 x24 x25:az)(x26:aq)(x27:az)(hf:Kl.length<=20)
  (hK:∀l:aU,(∀j,j<l.length->0<=bZ (ar l j 0)/\bZ (ar l j 0)<=30)->e6 (K x1 x2 x3 (Kl.length:az) x5 x6 x7 x8 x9 x10 x11 Kl x13 x14 x15 x16 x17 x18 x19 x20 x21 x22 x23 x24 x25 x26 x27 l) P):
  ∀(d i n:aE) (l:aU),Kl.length-i<=d->i<=Kl.length->d<n->l.length<=i->(∀j,j<l.length->0<=bZ (ar l j 0)/\bZ (ar l j 0)<=30)->
   e6 (l4 N K n x1 x2 x3 (i:az) x5 x6 x7 x8 x9 x10 x11 Kl x13 x14 x15 x16 x17 x18 x19 x20 x21 x22 x23 x24 x25 x26 x27 l) P:=by
 have fin:∀(n:aE) (l:aU),(∀j,j<l.length->0<=bZ (ar l j 0)/\bZ (ar l j 0)<=30)->e6 (l4 N K (n+1) x1 x2 x3 (Kl.length:az) x5 x6 x7 x8 x9 x10 x11 Kl x13 x14 x15 x16 x17 x18 x19 x20 x21 x22 x23 x24 x25 x26 x27 l) P:=λn l hl=>by refine A_Post.eq ?_ (hK l hl);simp only[l4,r4,Lib.du,bm,bh,aA]
 intro d;induction d with
 |zero=>
  intro i n l h1 h2 h3 h4 h5;obtain⟨n,rfl⟩:∃k,n=k+1:=⟨n-1,by omega⟩
  have:i=Kl.length:=by omega
  subst this;exact fin n l h5
 |succ d ih=>
  intro i n l h1 h2 h3 h4 h5;obtain⟨n,rfl⟩:∃k,n=k+1:=⟨n-1,by omega⟩
  by_cases h:i<Kl.length
  ·have jL:bJ ((i:az)+1)=((i+1:aE):az):=c5 (by omega) (by omega);by_cases hs:bZ (ar Kl i 2)=1
   ·have hr:cB (l.length+(ax (aN [Ck.i ao] 1) 0 [CV.i ao (i:az)]).length) 8=true:=by rw[jP.tv];exact Lib.cC (by omega) (by omega)
    refine A_Post.eq (o':=l4 N K n x1 x2 x3 ((i+1:aE):az) x5 x6 x7 x8 x9 x10 x11 Kl x13 x14 x15 x16 x17 x18 x19 x20 x21 x22 x23 x24 x25 x26 x27 (l++ax (aN [Ck.i ao] 1) 0 [CV.i ao (i:az)])) ?_ (ih (i+1) n _ (by omega) h (by omega) (by rw[bW,jP.tv];omega) λj hj=> ?_)
    ·simp only[l4,r4,Lib.du,h,aQ,Lib.cQ,aM,au,Lib.eD,hs,hr,jL]
    ·rw[bW,jP.tv]at hj;by_cases js:j<l.length
     ·have:ar (l++ax (aN [Ck.i ao] 1) 0 [CV.i ao (i:az)]) j 0=ar l j 0:=by unfold ar;rw[cL,cL,dr js];simp only[cL]
      rw[this];exact h5 j js
     ·have:ar (l++ax (aN [Ck.i ao] 1) 0 [CV.i ao (i:az)]) j 0=CV.i ao (i:az):=by unfold ar;rw[cL,cL,cX (by omega),show j-l.length=0 by omega];rfl
      rw[this];show 0<=(i:az)/\(i:az)<=30;omega
   ·refine A_Post.eq (o':=l4 N K n x1 x2 x3 ((i+1:aE):az) x5 x6 x7 x8 x9 x10 x11 Kl x13 x14 x15 x16 x17 x18 x19 x20 x21 x22 x23 x24 x25 x26 x27 l) ?_ (ih (i+1) n _ (by omega) h (by omega) (by omega) h5);simp only[l4,r4,Lib.du,h,aQ,Lib.cQ,aM,au,aA,Lib.eD,hs,bh,jL]
  ·have:i=Kl.length:=by omega
   subst this;exact fin n l h5
set_option maxHeartbeats 8000000 in
theorem body(q:aU)(a s:az)(now:az)(en w m sk:aU)(ag:az)(fe cl:aU)(hits:az)(dk cd bd:aU)(hI:I q a)(hf:fe.length<=20)(hc:∀j,j<cl.length->0<=bZ (ar cl j 0)/\bZ (ar cl j 0)<=30):e6 (vo q a s now en w m sk ag fe cl hits dk cd bd) (Dr q en w m sk fe cl dk cd bd):=by
 unfold vo;generalize hN:Lib.cW=N;have Yc:20<N:=by rw[<-hN];exact cK (by omega)
 unfold b;refine A_Post.LN (λn=>1<=n/\n<=6) ⟨by decide,by decide⟩ hI (λkd a1 s1 I1 hk=> ?_);refine opens N _ _ _ _ _ _ _ _ _ _ _ _ _ _ _ _ _ _ _ _ _ _ _ _ _ _ _ hf (λl hl=> ?_) fe.length 0 N _ (by omega) (by omega) (by omega) (bz _) (λj hj=>cE hj (Nat.not_lt_zero j));dsimp only
 repeat' first
  |refine A_Post.below (by assumption) (λn a s hI h0 h1=> ?_)
  |refine A_Post.once (by assumption) (λn a s hI=> ?_)
  |refine A_Post.key (by assumption) (λn a s hI h0=> ?_)
  |refine A_Post.LN (λn=>0<=n) ⟨by decide,by decide⟩ (by assumption) (λn a s hI h0=> ?_)
  |refine A_Post.ahV (λt=>t.size<=60) ⟨by decide,by decide⟩ (by assumption) (λn a s hI h0=> ?_)
  |refine A_Post.ck (A_Post.idx (by assumption) (by assumption) (by assumption)) ?_
  |refine leaf (by assumption) (by first|exact hk|decide) (by first|exact idA (by assumption) (by assumption)|exact idB (by assumption) (by assumption)|exact idC hl (by assumption) (by assumption) (by assumption)|exact idC hc (by assumption) (by assumption) (by assumption)|decide) (by first|exact bz _|assumption|exact tA (by assumption)) (by first|exact Gm 0|assumption)
  |refine A_Post.br (λh=> ?_) (λh=> ?_)
end uN

namespace se
theorem ok(l:aU)(hl:l.length<=4294967296):c l=ai/\v l=l:=by refine out l ?_;unfold vo b;rw[show bP (aN [Ck.s] 0)+l.length=l.length by simp[aN],Lib.cC (by omega) (by omega)];rfl
end se

namespace i9
open Lib (rr rs)
theorem ok(w m:ay aq)(s:ay (ay az))(a:az)(hw:w.length<=1048576)(hm:m.length<=1048576)(hf:iO.nh s):c (rs w) (rs m) (rr s) a=ai/\v (rs w) (rs m) (rr s) a=(rs w,rs m,rr s,a):=by have h1:=se.ok (rs w) (by rw[dZ];omega);have h2:=se.ok (rs m) (by rw[dZ];omega);have h3:=iO.ok s a hf;exact out _ _ _ _ (by unfold vo b;rw[h1.1,h1.2,h2.1,h2.2,h3.1,h3.2,au,au,au])
end i9

namespace EH
open Lib (rr rs re rf rc Px)
theorem ok(p:Px)(hp:p.Fit 1048576):c p.now (re p.en) (rs p.w) (rs p.m) (rr p.s) p.a (rf p.fe) (rc p.cl) p.hits=ai/\v p.now (re p.en) (rs p.w) (rs p.m) (rr p.s) p.a (rf p.fe) (rc p.cl) p.hits=(p.now,re p.en,rs p.w,rs p.m,rr p.s,p.a,rf p.fe,rc p.cl,p.hits):=by have he:=hp.en;have hf:=hp.fe;have hc:=hp.cl;have h1:=vB.ok (re p.en) (by rw[dO];omega);have h2:=i9.ok p.w p.m p.s p.a hp.w hp.m ⟨hp.s.1,hp.s.2.1⟩;exact out _ _ _ _ _ _ _ _ _ (by unfold vo b;rw[h1.1,h1.2,h2.1,h2.2,au,au,Lib.cC (by simp[aN,dC];omega) (by simp[aN,dC];omega),Lib.cC (by simp[aN,eO];omega) (by simp[aN,eO];omega)];rfl)
end EH

namespace oV
open Lib (rr)
theorem eM(n a b:az):n7.v n a b=decide (a<=n/\n<=b):=e7.eM n a b
theorem ok(s:ay (ay az))(a:az)(hf:iO.nh s):c (rr s) a=ai/\v (rr s) a=e7.jU s a:=by
 refine out _ _ ?_;unfold vo b;have hl:=hf.1;rw[gg]
 have inner:∀i (h:i<s.length) (K0 K1:aW->aU->aU->az->az->aU->az->az->aU->az->aC aW) (kf kt:aC aW) (x:az)
   (h0:∀j:az,K0 ak (Lib.ri s[i]) (rr s) s.length i (Lib.ri s[i]) x j (rr s) a=kf) (h1:∀j:az,K1 ak (Lib.ri s[i]) (rr s) s.length i (Lib.ri s[i]) x j (rr s) a=kt),x=(s[i].length:az)->l5 Lib.cW K0 K1 Lib.cW ak (Lib.ri s[i]) (rr s) s.length (i:az) (Lib.ri s[i]) x 0 (rr s) a=bif(s[i]).all e7.Ly then kt else kf:=λi h K0 K1 kf kt x h0 h1 hx=>by
  subst hx
  exact ox (s[i]) e7.Ly (λm (j:aE)=>l5 Lib.cW K0 K1 m ak (Lib.ri s[i]) (rr s) s.length (i:az) (Lib.ri s[i]) s[i].length (j:az) (rr s) a) kf kt
   (λm j hj hp=>by have hl:=hf.2 _ (bC h);unfold e7.Ly at hp;simp only[l5,r5,Lib.du,hj,aQ,Lib.cQ,aM,au,Lib.eD,Lib.fU,N7 hj,bZ,eM,hp,aY,aA,Lib.di hj (by omega:s[i].length<=9223372036854775807)])
   (λm j hj hp=>by unfold e7.Ly at hp;simp only[l5,r5,Lib.du,hj,aQ,Lib.cQ,aM,au,Lib.eD,Lib.fU,N7 hj,bZ,eM,hp,bV,h0])
   (λm=>by simp only[l5,r5,Lib.du,bm,bh,aA,h1]) Lib.cW (cK (by have:=hf.2 _ (bC h);omega))
 have ro:∀q:ay az,e7.rE q=(q.all e7.Ly&&decide (q.length=16)):=λq=>Bool.and_comm ..
 have key:=ox s e7.rE (λm (i:aE)=>l2 Lib.cW (λ(y36:aW) (_:aU) (_ _:az) (_:aU) (_:az)=>ah y36) (λ(_:aW) (_:aU) (_ _:az) (y46:aU) (y47:az)=>bif(decide ((↑(bP y46):az)=3))then(ah (n7.v y47 0 63))else(ah ak)) m ak (rr s) s.length (i:az) (rr s) a) (ah ak) (ah (decide (s.length=3)&&decide (0<=a/\a<=63)))
  (λm i h hp=>by rw[ro,aJ]at hp;have Il:=cg hp.2;simp only[l2,r2,gg,Lib.du,h,aQ,Lib.cQ,aM,au,Lib.eD,FH h,iD,Lib.fU];rw[inner i h _ _ (ah ak) _ _ (λ_=>rfl) (λ_=>rfl) rfl,hp.1,au,Lib.fU,Il,show(((16:aE):az) !=16)=ak from rfl,aA,Lib.di h (by omega)])
  (λm i h hp=>by
   rw[ro]at hp;simp only[l2,r2,gg,Lib.du,h,aQ,Lib.cQ,aM,au,Lib.eD,FH h,iD,Lib.fU];rw[inner i h _ _ (ah ak) _ _ (λ_=>rfl) (λ_=>rfl) rfl];cases ha:(s[i]).all e7.Ly with
   |false=>rfl
   |true=>rw[ha,bj]at hp;have:=nX hp;rw[au,Lib.fU,show((s[i].length:az) !=16)=ai by simp;omega,au])
  (λm=>by simp only[l2,r2,gg,Lib.du,bm,bh,aA,eM];rw[show decide ((s.length:az)=3)=decide (s.length=3)by rw[cf];omega];cases decide (s.length=3)<;>rfl) Lib.cW (cK (by omega))
 refine key.trans ?_;unfold e7.jU;cases s.all e7.rE<;>cases decide (s.length=3)<;>cases decide (0<=a/\a<=63)<;>rfl
end oV

namespace Cr
theorem ok(n:az)(h0:0<=n)(h1:n<=4294967296):c n=ai/\v n=[]:=by
 refine out n ?_;unfold vo b;have e:bJ (n-bJ (0-0))=n:=by rw[show bJ (0-0)=0 from rfl,Int.sub_zero,c5 (by omega) (by omega)]
 rw[e,aK (show¬n<0 by omega),aA];by_cases hn:n>0
 ·rw[aF hn,au,aF h0,aF (show n<=9223372036854775807 by omega),Lib.cC (by simp;omega) (by simp;omega)];simp[eu]
 ·rw[aK hn,aA]
end Cr

namespace vD
theorem ok(p q:aU)(hp:p.length<=1048576)(hq:q.length<=1048576):c [[CV.l 9 p],[CV.l 9 q]]=ai/\v [[CV.l 9 p],[CV.l 9 q]]=p++q:=by
 refine out _ ?_;have w1:bJ (0+(p.length:az))=(p.length:az):=by rw[Int.zero_add];exact c5 (by omega) (by omega)
 have w2:bJ ((p.length:az)+(q.length:az))=(p.length:az)+(q.length:az):=c5 (by omega) (by omega);have hg:=Cr.ok ((p.length:az)+(q.length:az)) (by omega) (by omega);have d1:decide ((p.length:az)<0)=false:=aK (by omega);have d2:decide ((p.length:az)+(q.length:az)<0)=false:=aK (by omega);have g1:cB (0+p.length) 16=true:=Lib.cC (by omega) (by omega);have g2:cB (p.length+q.length) 16=true:=Lib.cC (by omega) (by omega);have c0:iD (ar [[CV.l 9 p],[CV.l 9 q]] 0 0)=p:=rfl;have c1:iD (ar [[CV.l 9 p],[CV.l 9 q]] 1 0)=q:=rfl;unfold vo b;obtain⟨n,hn⟩:∃n,Lib.cW=n+3:=⟨18446744073709551613,rfl⟩
 generalize Lib.cW=B at hn⊢;subst hn;have k3:∀(R:Type) (K:aU->az->aU->az->az->aC R) (S:aU),S=[[CV.l 9 p],[CV.l 9 q]]->l3 (n+3) K (n+3) S 0 S 2 0=K S ((p.length:az)+(q.length:az)) S 2 2:=by intro R K S hS;subst hS;simp only[l3,r3,cY,jo,show aZ 0=0 from rfl,c0,w1,d1,show bJ (0+1)=1 from rfl,show aZ 1=1 from rfl,c1,w2,d2,show bJ (1+1)=2 from rfl,aA,show decide ((0:az)<2)=ai from rfl,show decide ((1:az)<2)=ai from rfl,show decide ((2:az)<2)=ak from rfl,show decide ((0:az)<=0)=ai from rfl,show decide ((0:az)<=1)=ai from rfl,show((0+1+1:aE):az)=2 from rfl,aM,au]
 have k11:∀(R:Type) (K:aU->az->az->aU->aC R) (S:aU),S=[[CV.l 9 p],[CV.l 9 q]]->l11 (n+3) K (n+3) S 2 0 []=K S 2 2 (p++q):=by intro R K S hS;subst hS;simp only[l11,FA,cY,jo,show aZ 0=0 from rfl,c0,g1,show bJ (0+1)=1 from rfl,show aZ 1=1 from rfl,c1,gi,g2,show bJ (1+1)=2 from rfl,aA,show decide ((0:az)<2)=ai from rfl,show decide ((1:az)<2)=ai from rfl,show decide ((2:az)<2)=ak from rfl,show decide ((0:az)<=0)=ai from rfl,show decide ((0:az)<=1)=ai from rfl,show((0+1+1:aE):az)=2 from rfl,aM,au]
 show l3 (n+3) _ (n+3) _ 0 _ 2 0=_;rw[k3 _ _ _ rfl,hg.1,hg.2,au];exact k11 _ _ _ rfl
end vD

namespace pU
theorem ok(w m:ay aq)(s:aU)(a:az)(hw:w.length<=1048576)(hm:m.length<=1048576):c (Lib.rs w) (Lib.rs m) s a=ai/\v (Lib.rs w) (Lib.rs m) s a=Lib.rs (w++m):=by
 have h:=vD.ok (Lib.rs w) (Lib.rs m) (by rw[dZ];exact hw) (by rw[dZ];exact hm);have e:ax (ax (aN [Ck.l 9] 2) 0 [CV.l 9 (Lib.rs w)]) 1 [CV.l 9 (Lib.rs m)]=[[CV.l 9 (Lib.rs w)],[CV.l 9 (Lib.rs m)]]:=rfl;have e2:Lib.rs w++Lib.rs m=Lib.rs (w++m):=by unfold Lib.rs;rw[c8]
 exact out _ _ _ _ (by unfold vo b;rw[e,h.1,h.2,au,e2])
end pU

namespace zv
theorem ok(l:ay aq)(k:aq)(hl:l.length<=4294967296):c (Lib.rs l) k=ai/\decide (v (Lib.rs l) k≥0)=eT.has l k:=by
 have h:=out (Lib.rs l) k (x:=Lib.fi (λi=>decide ((l.getD i ⟨#[]⟩)=k)) l.length 0) (by
  unfold vo b;rw[dZ];refine pG (λi=>decide ((l.getD i ⟨#[]⟩)=k)) l.length (λm (i:aE)=>l2 Lib.cW (λ(_:aU) (_:aq) (y7 _ _:az)=>ah y7) (λ(_:aU) (_:aq) (_ _ _:az)=>ah (-1)) m (Lib.rs l) k 0 (l.length:az) (i:az)) ah (λm i hi hp=> ?_) (λm i hi hp=> ?_) (λm=> ?_) Lib.cW (cK (by omega))
  ·have hg:l.getD i ⟨#[]⟩=l[i]:=by simp[jH,hi]
   rw[hg]at hp;have mA:decide (k=l[i])=true:=by rw[<-hp,cf];exact GY
   simp only[l2,r2,dZ,Lib.du,hi,aQ,Lib.cQ,aM,au,Lib.eD,TS hi,bQ,Lib.fB,mA]
  ·have hg:l.getD i ⟨#[]⟩=l[i]:=by simp[jH,hi]
   rw[hg]at hp;have mA:decide (k=l[i])=false:=by rw[<-hp,cf];exact GY
   simp only[l2,r2,dZ,Lib.du,hi,aQ,Lib.cQ,aM,au,Lib.eD,TS hi,bQ,Lib.fB,mA,aA,Lib.di hi (by omega:l.length<=9223372036854775807)]
  ·simp only[l2,r2,Lib.du,bm,bh,aA])
 refine⟨h.1, ?_⟩
 rw[h.2];exact Lib.Jk l (λx=>decide (x=k)) _ (λi hi=>by simp[jH,hi])
end zv

namespace rL
theorem ok(l:ay aq)(k:aq)(hl:l.length<=4294967296):c (Lib.rs l) k=ai/\v (Lib.rs l) k=eT.has l k:=by have h:=zv.ok l k hl;exact out _ _ (by unfold vo b;rw[h.1,h.2,au])
end rL

namespace ou
open Lib (rr rs)
open eT (has without gm kV)
open jk (eh JF mO pj wC)
theorem iw(k:aq):MC.v k=eh k:=e7.eM _ _ _
theorem ok(w m:ay aq)(s:ay (ay az))(a:az)(hw:w.length<=1048576)(hm:m.length<=1048576)(hf:iO.nh s):c (rs w) (rs m) (rr s) a=ai/\v (rs w) (rs m) (rr s) a=pj w m s a:=by
 refine out _ _ _ _ ?_;have h2:=oV.ok s a hf;have h3:=pU.ok w m (rr s) a hw hm;unfold vo b;rw[h3.1,h3.2,au,dZ];have hl:(w++m).length<=2097152:=by rw[bW];omega
 have g9:∀i,i<(w++m).length->rL.c (rs ((w++m).take i)) ((w++m).getD i ⟨#[]⟩)=ai/\rL.v (rs ((w++m).take i)) ((w++m).getD i ⟨#[]⟩)=has ((w++m).take i) ((w++m).getD i ⟨#[]⟩):=λi hi=>rL.ok _ _ (by rw[er];omega);have hk:∀i (hi:i<(w++m).length),bQ (ar (rs (w++m)) i 0)=(w++m).getD i ⟨#[]⟩:=λi hi=>by rw[TS hi,show(w++m).getD i ⟨#[]⟩=(w++m)[i]by rw[cL,eF hi];rfl];rfl
 generalize hL:w++m=L at hl g9 hk
 have key:=jO (JF L) L.length (λn (i:aE)=>l3 Lib.cW (λ(y8:aW) (_ _:az) (_ _ _:aU) (_:az) (_:aU)=>ah y8) (λ(_:aW) (_ _:az) (DR vm Is:aU) (Iu:az) (_:aU)=>bif(decide ((↑(bP DR):az)<=2))then(bif(decide ((↑(bP vm):az)<=4))then(bif(oV.c Is Iu)then(ah (oV.v Is Iu))else(aj))else(ah ak))else(ah ak)) n ak (L.length:az) (i:az) (rs w) (rs m) (rr s) a (rs L)) (ah ak) (ah (decide (w.length<=2)&&(decide (m.length<=4)&&e7.jU s a)))
  (λn i hi hp=>by
   unfold JF at hp;rw[aJ,dz]at hp;have b1:iS 0 (i:az) (L.length:az)=true:=by simp[iS];omega
   simp only[l3,r3,dZ,Lib.du,hi,aQ,Lib.cQ,aM,au,Lib.eD,hk i hi,iw,hp.1,aY,aA,b1,wC,(g9 i hi).1,(g9 i hi).2,hp.2,Lib.di hi (by omega:L.length<=9223372036854775807)])
  (λn i hi hp=>by
   have b1:iS 0 (i:az) (L.length:az)=true:=by simp[iS];omega
   unfold JF at hp;cases h1:eh (L.getD i ⟨#[]⟩)with
   |false=>simp only[l3,r3,dZ,Lib.du,hi,aQ,Lib.cQ,aM,au,Lib.eD,hk i hi,iw,h1,bV]
   |true=>rw[h1,bj,lY]at hp;simp only[l3,r3,dZ,Lib.du,hi,aQ,Lib.cQ,aM,au,Lib.eD,hk i hi,iw,h1,aY,aA,b1,wC,(g9 i hi).1,(g9 i hi).2,hp])
  (λn=>by simp only[l3,r3,dZ,Lib.du,bm,bh,aA,h2.1,h2.2,au];rw[show decide ((w.length:az)<=2)=decide (w.length<=2)by rw[cf];omega,show decide ((m.length:az)<=4)=decide (m.length<=4)by rw[cf];omega];cases decide (w.length<=2)<;>cases decide (m.length<=4)<;>rfl) Lib.cW (cK (by omega))
 refine key.trans ?_;unfold pj mO;rw[hL];cases (cJ L.length).all (JF L)<;>rfl
end ou

namespace uP
open Lib (rr rs)
open eT (has)
theorem UU(w m:ay aq)(k:aq):has (w++m) k=(has w k||has m k):=by unfold has;rw[List.any_append]
theorem ok(w m:ay aq)(s:aU)(a:az)(k:aq)(hw:w.length<=1048576)(hm:m.length<=1048576):c (rs w) (rs m) s a k=ai/\v (rs w) (rs m) s a k=(has w k||has m k):=by have h1:=pU.ok w m s a hw hm;have h2:=rL.ok (w++m) k (by rw[bW];omega);exact out _ _ _ _ _ (by unfold vo b;rw[h1.1,h1.2,h2.1,h2.2,au,au,UU])
end uP

namespace NX
open Lib (rr rs re el qo t_ ua ub En)
open eT (has)
open jk (pj)
open m9 (Gb K4 tU)
theorem Dj(k:aq)(s l:az)(b:aq):Az.v k s l b=iI.v k s l b:=rfl
theorem ok(i0:az)(en:ay En)(w m:ay aq)(s:ay (ay az))(a:az)(r6 r7:aU)(i8:az)(he:en.length<=1048576)(hw:w.length<=1048576)(hm:m.length<=1048576)(hf:iO.nh s):
  c i0 (re en) (rs w) (rs m) (rr s) a r6 r7 i8=ai/\v i0 (re en) (rs w) (rs m) (rr s) a r6 r7 i8=K4 en w m s a:=by
 refine out _ _ _ _ _ _ _ _ _ ?_;have h1:=ou.ok w m s a hw hm hf;have h2:=λk=>uP.ok w m (rr s) a k hw hm;have h3:=pU.ok w m (rr s) a hw hm;unfold vo b;rw[dO]
 have key:=jO (Gb en w m) en.length (λn (i:aE)=>l2 Lib.cW (λ(Gi:aW) (_:aU) (_ _ _:az) (_ _ _ _:aU) (_:az) (_ _:aU) (_:az)=>ah Gi) (λ(_:aW) (_:aU) (_ _ _:az) (T0 Te Tf y34:aU) (y35:az) (_ _:aU) (_:az)=>bif(ou.c Te Tf y34 y35)then(bif(ou.v Te Tf y34 y35)then(bif(pU.c Te Tf y34 y35)then(ah (decide ((↑(bP (pU.v Te Tf y34 y35)):az)=(↑(bP T0):az))))else(aj))else(ah ak))else(aj)) n ak (re en) (en.length:az) (i:az) i0 (re en) (rs w) (rs m) (rr s) a r6 r7 i8) (ah ak) (ah (pj w m s a&&decide (w.length+m.length=en.length)))
  (λn i hi hp=>by
   unfold Gb tU at hp;rw[aJ,aJ]at hp;obtain⟨p1,p2,p3⟩:=hp;by_cases hz:i=0
   ·subst hz;simp only[l2,r2,dO,Lib.du,hi,aQ,Lib.cQ,aM,au,Lib.eD,qo hi,t_ hi,ua hi,ub hi,bQ,bZ,Dj,p1,aY,aA,aK (show¬(((0:aE):az)>0)by omega),(h2 _).1,(h2 _).2,p3,Lib.di hi (by omega:en.length<=9223372036854775807)]
   ·rw[aK hz,nG]at p2;have jL:i-1<en.length:=by omega
    simp only[l2,r2,dO,Lib.du,hi,aQ,Lib.cQ,aM,au,Lib.eD,qo hi,t_ hi,ua hi,ub hi,bQ,bZ,Dj,p1,aY,aA,aF (show(i:az)>0 by omega),lu (show 0<i by omega) (by omega),jL,qo jL,p2,(h2 _).1,(h2 _).2,p3,Lib.di hi (by omega:en.length<=9223372036854775807)])
  (λn i hi hp=>by
   unfold Gb tU at hp;cases p1:iI.v (el en i).k (el en i).st (el en i).li (el en i).bo with
   |false=>simp only[l2,r2,dO,Lib.du,hi,aQ,Lib.cQ,aM,au,Lib.eD,qo hi,t_ hi,ua hi,ub hi,bQ,bZ,Dj,p1,bV]
   |true=>
    rw[p1,bj]at hp;by_cases hz:i=0
    ·subst hz;rw[aF rfl,zi,bj]at hp;simp only[l2,r2,dO,Lib.du,hi,aQ,Lib.cQ,aM,au,Lib.eD,qo hi,t_ hi,ua hi,ub hi,bQ,bZ,Dj,p1,aY,bV,aA,aK (show¬(((0:aE):az)>0)by omega),(h2 _).1,(h2 _).2,hp]
    ·rw[aK hz,nG]at hp;have jL:i-1<en.length:=by omega
     cases p2:b_ (aL (el en (i-1)).k) (aL (el en i).k)with
     |false=>simp only[l2,r2,dO,Lib.du,hi,aQ,Lib.cQ,aM,au,Lib.eD,qo hi,t_ hi,ua hi,ub hi,bQ,bZ,Dj,p1,aY,bV,aA,aF (show(i:az)>0 by omega),lu (show 0<i by omega) (by omega),jL,qo jL,p2]
     |true=>rw[p2,bj]at hp;simp only[l2,r2,dO,Lib.du,hi,aQ,Lib.cQ,aM,au,Lib.eD,qo hi,t_ hi,ua hi,ub hi,bQ,bZ,Dj,p1,aY,bV,aA,aF (show(i:az)>0 by omega),lu (show 0<i by omega) (by omega),jL,qo jL,p2,(h2 _).1,(h2 _).2,hp])
  (λn=>by simp only[l2,r2,Lib.du,bm,bh,aA,h1.1,h1.2,h3.1,h3.2,au,dZ,dO,bW];rw[show decide (((w.length+m.length:aE):az)=(en.length:az))=decide (w.length+m.length=en.length)by rw[cf];omega];cases pj w m s a<;>rfl) Lib.cW (cK (by omega))
 refine key.trans ?_;unfold K4;cases (cJ en.length).all (Gb en w m)<;>rfl
end NX

namespace fF
def op(r:aU)(i:aE):aW:=decide (bZ (ar r i 2)=1)
def g(r:aU)(i j:aE):aW:= !(op r i&&(op r j&&db (aL (bQ (ar r i 0))) (aL (bQ (ar r j 0)))))
def val(r:aU):aW:=(cJ r.length).all λi=>(cJ i).all (g r i)
end fF

namespace pS
def p(s0:aU)(gz:aq)(i:aE):aW:=Gs.v (bQ (ar s0 i 0)) (bQ (ar s0 i 1)) (bZ (ar s0 i (1+1))) (bZ (ar s0 i (1+1+1))) (bZ (ar s0 i (1+1+1+1))) gz
theorem ok(s0:aU)(gz:aq)(hl:s0.length<=4294967296):c s0 gz=ai/\v s0 gz=Lib.fi (p s0 gz) s0.length 0:=by
 refine out s0 gz ?_;unfold vo b;refine pG (p s0 gz) s0.length (λm (i:aE)=>l2 Lib.cW (λ(_:aU) (_:aq) (y7 _ _:az)=>ah y7) (λ(_:aU) (_:aq) (_ _ _:az)=>ah (-1)) m s0 gz 0 (s0.length:az) (i:az)) ah (λm i hi hp=> ?_) (λm i hi hp=> ?_) (λm=> ?_) Lib.cW (cK (by omega))
 ·unfold p at hp;simp only[l2,r2,Lib.du,Lib.cQ,Lib.eD,hi,aQ,aM,au,hp]
 ·unfold p at hp;simp only[l2,r2,Lib.du,Lib.cQ,Lib.eD,hi,aQ,aM,au,hp,aA,Lib.di hi (by omega:s0.length<=9223372036854775807)]
 ·simp only[l2,r2,Lib.du,bm,bh,aA]
end pS

namespace IU
theorem ok(i0:az)(r1 r2 r3 r4:aU)(i5:az)(r6 r7:aU)(i8:az)(key:aq)(hl:r6.length<=4294967296):c i0 r1 r2 r3 r4 i5 r6 r7 i8 key=ai/\v i0 r1 r2 r3 r4 i5 r6 r7 i8 key=Lib.fi (pS.p r6 key) r6.length 0:=by have h:=pS.ok r6 key hl;exact out _ _ _ _ _ _ _ _ _ _ (by unfold vo b;rw[h.1,h.2,au])
end IU

namespace vA
def q(r:aU)(i:aE):aW:= !(fF.op r i&&(Lib.fi (pS.p r (bQ (ar r i 0))) r.length 0 !=(i:az)))
theorem same(r:aU)(i:aE)(hi:i<r.length):q r i=(cJ i).all (fF.g r i):=by
 unfold q;cases ho:fF.op r i with
 |false=>symm;rw[pr,bV,bu];intro j _;unfold fF.g;rw[ho];rfl
 |true=>
  rw[bj];have hp:∀j,pS.p r (bQ (ar r i 0)) j= !fF.g r i j:=by intro j;unfold pS.p Gs.v fF.g;rw[ho,bj,Bool.not_not,Lib.fB,Lib.fB];unfold fF.op;rw[show decide (bQ (ar r j 0)=bQ (ar r i 0))=decide (bQ (ar r i 0)=bQ (ar r j 0))from by rw[cf];exact GY];cases decide (bQ (ar r i 0)=bQ (ar r j 0))<;>simp
  have hpi:pS.p r (bQ (ar r i 0)) i=true:=by rw[hp];unfold fF.g;rw[ho,Lib.fB];simp
  rcases Lib.qN (pS.p r (bQ (ar r i 0))) r.length 0 with ⟨_,h2⟩|⟨k,h1,h2,h3,h4,h5⟩
  ·have:=h2 i (bz _) (by omega);rw[hpi]at this;cases this
  ·rw[h3];by_cases hk:k=i
   ·subst hk;rw[fC,bV];symm;rw[bu];intro j hj;have:=h5 j (bz _) (by simpa using hj);rw[hp]at this;simpa using this
   ·have jt:k<i:=by
     rcases ql k i with h|h
     ·exact h
     ·have:=h5 i (bz _) (by omega);rw[hpi]at this;cases this
    rw[show((k:az) !=(i:az))=ai from by simp;omega,aY];symm;rw[List.all_eq_false];refine⟨k,by simpa using jt, ?_⟩
    rw[hp]at h4;simpa using h4
theorem ok(i0:az)(p1 p2 p3 p4:aU)(i5:az)(p6 p7:aU)(i8:az)(hl:p6.length<=4294967296):c i0 p1 p2 p3 p4 i5 p6 p7 i8=ai/\v i0 p1 p2 p3 p4 i5 p6 p7 i8=fF.val p6:=by
 refine out _ _ _ _ _ _ _ _ _ ?_;unfold vo b;have hw:∀i,i<p6.length->bJ ((i:az)+1)=((i+1:aE):az):=λi h=>Lib.di h (by omega);have ho:=λkey=>IU.ok i0 p1 p2 p3 p4 i5 p6 p7 i8 key hl
 have key:=jO (q p6) p6.length (λm (i:aE)=>l2 Lib.cW (λ(Gi:aW) (_:aU) (_ _ _:az) (_ _ _ _:aU) (_:az) (_ _:aU) (_:az)=>ah Gi) (λ(_:aW) (_:aU) (_ _ _:az) (_ _ _ _:aU) (_:az) (_ _:aU) (_:az)=>ah ai) m ak p6 (p6.length:az) (i:az) i0 p1 p2 p3 p4 i5 p6 p7 i8) (ah ak) (ah ai)
  (λm i hi hp=>by
   unfold q fF.op at hp;cases e1:decide (bZ (ar p6 i (1+1))=1)with
   |false=>simp only[l2,r2,Lib.du,hi,aQ,Lib.cQ,aM,au,Lib.eD,e1,aA,hw i hi]
   |true=>rw[show decide (bZ (ar p6 i 2)=1)=ai from e1,bj,dz]at hp;simp only[l2,r2,Lib.du,hi,aQ,Lib.cQ,aM,au,Lib.eD,e1,(ho _).1,(ho _).2,hp,aA,hw i hi])
  (λm i hi hp=>by unfold q fF.op at hp;rw[lY,aJ]at hp;obtain⟨e1,e2⟩:=hp;have e1:decide (bZ (ar p6 i (1+1))=1)=true:=e1;simp only[l2,r2,Lib.du,hi,aQ,Lib.cQ,aM,au,Lib.eD,e1,(ho _).1,(ho _).2,e2])
  (λm=>by simp only[l2,r2,Lib.du,bm,bh,aA]) Lib.cW (cK (by omega))
 refine key.trans ?_;rw[all_congr (λi hi=>same p6 i hi)];unfold fF.val;cases (cJ p6.length).all λi=>(cJ i).all (fF.g p6 i)<;>rfl
end vA

namespace ME
open Lib (rf el Fe H_ Gh Xm yK TT TU)
open m_ (nt apart lT)
theorem eM(n a b:az):n7.v n a b=decide (a<=n/\n<=b):=e7.eM n a b
theorem one(fe:ay Fe):fF.val (rf fe)=(cJ fe.length).all (apart fe):=by
 unfold fF.val;rw[dC];refine all_congr (λi hi=> ?_);unfold apart;refine all_congr (λj hj=> ?_);have js:j<fe.length:=by omega
 unfold fF.g fF.op lT;rw[H_ hi,H_ js,yK hi,yK js];simp only[bQ,bZ,Lib.fB];rfl
theorem ok(i0:az)(u1 u2 u3 u4:aU)(i5:az)(fe:ay Fe)(u7:aU)(i8:az)(hf:fe.length<=1048576):
  c i0 u1 u2 u3 u4 i5 (rf fe) u7 i8=ai/\v i0 u1 u2 u3 u4 i5 (rf fe) u7 i8=((cJ fe.length).all (λi=>nt i0 (el fe i))&&(decide (fe.length<=20)&&(cJ fe.length).all (apart fe))):=by
 refine out _ _ _ _ _ _ _ _ _ ?_;have h1:=vA.ok i0 u1 u2 u3 u4 i5 (rf fe) u7 i8 (by rw[dC];omega);rw[one]at h1;unfold vo b;rw[dC]
 have key:=jO (λi=>nt i0 (el fe i)) fe.length (λn (i:aE)=>l2 Lib.cW (λ(Gi:aW) (_:aU) (_ _ _:az) (_ _ _ _:aU) (_:az) (_ _:aU) (_:az)=>ah Gi) (λ(_:aW) (_:aU) (_ _ TZ:az) (T0 Te Tf y34:aU) (y35:az) (y36 y37:aU) (y38:az)=>bif(decide ((↑(bP y36):az)<=20))then(bif(vA.c TZ T0 Te Tf y34 y35 y36 y37 y38)then(ah (vA.v TZ T0 Te Tf y34 y35 y36 y37 y38))else(aj))else(ah ak)) n ak (rf fe) (fe.length:az) (i:az) i0 u1 u2 u3 u4 i5 (rf fe) u7 i8) (ah ak) (ah (decide (fe.length<=20)&&(cJ fe.length).all (apart fe)))
  (λn i hi hq=>by
   unfold nt at hq;simp only[aJ]at hq;obtain⟨q1,q2,q3,q4,q5⟩:=hq;have e1:decide (((el fe i).t.size:az)>400)= !decide (((el fe i).t.size:az)<=400):=by rw[<-decide_not,cf];omega
   simp only[l2,r2,dC,Lib.du,hi,aQ,Lib.cQ,aM,au,Lib.eD,H_ hi,Gh hi,Xm hi,TT hi,TU hi,bQ,bZ,eM,ou.iw,e1,q1,q2,q3,q4,q5,aY,aA,Lib.di hi (by omega:fe.length<=9223372036854775807)])
  (λn i hi hq=>by
   unfold nt at hq;have e1:decide (((el fe i).t.size:az)>400)= !decide (((el fe i).t.size:az)<=400):=by rw[<-decide_not,cf];omega
   simp only[l2,r2,dC,Lib.du,hi,aQ,Lib.cQ,aM,au,Lib.eD,H_ hi,Gh hi,Xm hi,TT hi,TU hi,bQ,bZ,eM,ou.iw,e1];revert hq;cases jk.eh (el fe i).k<;>cases decide (((el fe i).t.size:az)<=400)<;>cases decide (1<=(el fe i).sta/\(el fe i).sta<=3)<;>cases decide (0<=(el fe i).li/\(el fe i).li<=999999)<;>cases decide (0<=(el fe i).st/\(el fe i).st<=i0)<;>intro hq<;>first|rfl|cases hq)
  (λn=>by simp only[l2,r2,Lib.du,bm,bh,aA,dC,h1.1,h1.2,au];rw[show decide ((fe.length:az)<=20)=decide (fe.length<=20)by rw[cf];omega];cases decide (fe.length<=20)<;>rfl) Lib.cW (cK (by omega))
 refine key.trans ?_;cases (cJ fe.length).all (λi=>nt i0 (el fe i))<;>rfl
end ME

namespace NY
open Lib (rf rc el Fe Cl NM wc1 wc2 wc3 wc4 wc5 wc6)
open jk (eh)
open mo (Ga)
open ME (eM)
theorem step(N:aE)(g k0 k1:aW->aU->az->az->az->aU->aU->aU->aU->az->aU->aU->az->aC R)(i0:az)(q1 q2 q3 q4:aU)(i5:az)(fe:ay Fe)(cl:ay Cl)(i8:az)(i:aE)(hi:i<cl.length)(hl:cl.length<=1048576):
  r2 N g k0 k1 ak (rc cl) cl.length (i:az) i0 q1 q2 q3 q4 i5 (rf fe) (rc cl) i8=bif Ga i0 fe.length cl i then g ak (rc cl) cl.length ((i+1:aE):az) i0 q1 q2 q3 q4 i5 (rf fe) (rc cl) i8 else k0 ak (rc cl) cl.length (i:az) i0 q1 q2 q3 q4 i5 (rf fe) (rc cl) i8:=by
 unfold Ga;have e1:decide (((el cl i).got.size:az)>400)= !decide (((el cl i).got.size:az)<=400):=by rw[<-decide_not,cf];omega
 have e2:decide ((el cl i).age<0)= !decide (0<=(el cl i).age):=by rw[<-decide_not,cf];omega
 by_cases hz:i=0
 ·subst hz;simp only[r2,eO,dC,Lib.du,hi,aQ,Lib.cQ,aM,au,Lib.eD,NM hi,wc1 hi,wc2 hi,wc3 hi,wc4 hi,wc5 hi,wc6 hi,bQ,bZ,eM,ou.iw,aK (show¬(((0:aE):az)>0)by omega),aA,e1,e2,Lib.di hi (by omega:cl.length<=9223372036854775807),zi,bj];cases decide (1<=(el cl 0).id/\(el cl 0).id<=9)<;>cases eh (el cl 0).k<;>cases decide (1<=(el cl 0).sta/\(el cl 0).sta<=3)<;>cases decide (0<=(el cl 0).fe/\(el cl 0).fe<=(fe.length:az))<;>cases decide (((el cl 0).got.size:az)<=400)<;>cases decide (0<=(el cl 0).fr/\(el cl 0).fr<=i0)<;>cases decide (0<=(el cl 0).age)<;>rfl
 ·have jL:i-1<cl.length:=by omega
  have e3:decide ((el cl (i-1)).id≥(el cl i).id)= !decide ((el cl (i-1)).id<(el cl i).id):=by rw[<-decide_not,cf];omega
  simp only[r2,eO,dC,Lib.du,hi,aQ,Lib.cQ,aM,au,Lib.eD,NM hi,wc1 hi,wc2 hi,wc3 hi,wc4 hi,wc5 hi,wc6 hi,bQ,bZ,eM,ou.iw,aF (show(i:az)>0 by omega),lu (show 0<i by omega) (by omega),jL,NM jL,aA,e1,e2,e3,Lib.di hi (by omega:cl.length<=9223372036854775807),aK hz,nG];cases decide (1<=(el cl i).id/\(el cl i).id<=9)<;>cases decide ((el cl (i-1)).id<(el cl i).id)<;>cases eh (el cl i).k<;>cases decide (1<=(el cl i).sta/\(el cl i).sta<=3)<;>cases decide (0<=(el cl i).fe/\(el cl i).fe<=(fe.length:az))<;>cases decide (((el cl i).got.size:az)<=400)<;>cases decide (0<=(el cl i).fr/\(el cl i).fr<=i0)<;>cases decide (0<=(el cl i).age)<;>rfl
theorem ok(i0:az)(q1 q2 q3 q4:aU)(i5:az)(fe:ay Fe)(cl:ay Cl)(i8:az)(hl:cl.length<=1048576):
  c i0 q1 q2 q3 q4 i5 (rf fe) (rc cl) i8=ai/\v i0 q1 q2 q3 q4 i5 (rf fe) (rc cl) i8=((cJ cl.length).all (Ga i0 fe.length cl)&&decide (cl.length<=6)):=by
 refine out _ _ _ _ _ _ _ _ _ ?_;unfold vo b;rw[eO]
 have key:=jO (Ga i0 fe.length cl) cl.length (λn (i:aE)=>l2 Lib.cW (λ(Gi:aW) (_:aU) (_ _ _:az) (_ _ _ _:aU) (_:az) (_ _:aU) (_:az)=>ah Gi) (λ(_:aW) (_:aU) (_ _ _:az) (_ _ _ _:aU) (_:az) (_ y37:aU) (_:az)=>ah (decide ((↑(bP y37):az)<=6))) n ak (rc cl) (cl.length:az) (i:az) i0 q1 q2 q3 q4 i5 (rf fe) (rc cl) i8) (ah ak) (ah (decide (cl.length<=6)))
  (λn i hi hq=>by simp only[l2];rw[step _ _ _ _ _ _ _ _ _ _ _ _ _ i hi hl,hq];rfl)
  (λn i hi hq=>by simp only[l2];rw[step _ _ _ _ _ _ _ _ _ _ _ _ _ i hi hl,hq];rfl)
  (λn=>by simp only[l2,r2,Lib.du,bm,bh,aA,eO];rw[show decide ((cl.length:az)<=6)=decide (cl.length<=6)by rw[cf];omega]) Lib.cW (cK (by omega))
 refine key.trans ?_;cases (cJ cl.length).all (Ga i0 fe.length cl)<;>rfl
end NY

namespace o9
open Lib (rr rs re rf rc el En Fe Cl Px)
open m9 (K4)
open m_ (nt apart)
open mo (Ga iy)
theorem ok(p:Px)(hp:p.Fit 1048576):c p.now (re p.en) (rs p.w) (rs p.m) (rr p.s) p.a (rf p.fe) (rc p.cl) p.hits=ai/\v p.now (re p.en) (rs p.w) (rs p.m) (rr p.s) p.a (rf p.fe) (rc p.cl) p.hits=iy p:=by refine out _ _ _ _ _ _ _ _ _ ?_;have h1:=NX.ok p.now p.en p.w p.m p.s p.a (rf p.fe) (rc p.cl) p.hits hp.en hp.w hp.m ⟨hp.s.1,hp.s.2.1⟩;have h2:=ME.ok p.now (re p.en) (rs p.w) (rs p.m) (rr p.s) p.a p.fe (rc p.cl) p.hits hp.fe;have h3:=NY.ok p.now (re p.en) (rs p.w) (rs p.m) (rr p.s) p.a p.fe p.cl p.hits hp.cl;unfold vo b iy;have e1:∀n a b,n7.v n a b=decide (a<=n/\n<=b):=λn a b=>e7.eM n a b;have e2:Ax.v p.hits=decide (0<=p.hits/\p.hits<=1000000000):=e1 p.hits 0 1000000000;rw[e1,e2,h1.1,h1.2,h2.1,h2.2,h3.1,h3.2,EJ];cases decide (1<=p.now/\p.now<=1000000000)<;>cases K4 p.en p.w p.m p.s p.a<;>cases decide (p.fe.length<=20)<;>cases decide (p.cl.length<=6)<;>cases decide (0<=p.hits/\p.hits<=1000000000)<;>cases (cJ p.fe.length).all (λi=>nt p.now (el p.fe i))<;>cases (cJ p.fe.length).all (apart p.fe)<;>cases (cJ p.cl.length).all (Ga p.now p.fe.length p.cl)<;>rfl
end o9

namespace pR
def p(s:aU)(k:az)(i:aE):aW:=decide (bZ (ar s i 0)=k)
theorem ok(d:aU)(n:az)(hl:d.length<=4294967296):c d n=ai/\v d n=Lib.fi (p d n) d.length 0:=by
 refine out d n ?_;unfold vo b;refine pG (p d n) d.length (λm (i:aE)=>l2 Lib.cW (λ(_:aU) (_:az) (y7 _ _:az)=>ah y7) (λ(_:aU) (_:az) (_ _ _:az)=>ah (-1)) m d n 0 (d.length:az) (i:az)) ah (λm i hi hp=> ?_) (λm i hi hp=> ?_) (λm=> ?_) Lib.cW (cK (by omega))
 ·unfold p at hp;simp only[l2,r2,Lib.du,Lib.cQ,Lib.eD,hi,aQ,aM,au,IJ.v,hp]
 ·unfold p at hp;simp only[l2,r2,Lib.du,Lib.cQ,Lib.eD,hi,aQ,aM,au,IJ.v,hp,aA,Lib.di hi (by omega:d.length<=9223372036854775807)]
 ·simp only[l2,r2,Lib.du,bm,bh,aA]
end pR

namespace TD
open Lib (rc el Cl)
open dP (lh)
theorem ok(i0:az)(r1 r2 r3 r4:aU)(i5:az)(r6:aU)(cl:ay Cl)(i8 id:az)(hl:cl.length<=1048576):c i0 r1 r2 r3 r4 i5 r6 (rc cl) i8 id=ai/\decide (v i0 r1 r2 r3 r4 i5 r6 (rc cl) i8 id≥0)=lh cl id:=by
 have h:=pR.ok (rc cl) id (by rw[eO];omega);have o:=out i0 r1 r2 r3 r4 i5 r6 (rc cl) i8 id (by unfold vo b;rw[h.1,h.2,au]);refine⟨o.1, ?_⟩
 rw[o.2,eO];exact dP.Jk cl (λx=>decide (x.id=id)) _ λi hi=>by unfold pR.p;rw[NM hi,fQ hi];rfl
end TD

namespace vJ
def p(s:aU)(k:aq)(i:aE):aW:=db (aL (bQ (ar s i 0))) (aL k)
theorem ok(d:aU)(n:aq)(hl:d.length<=4294967296):c d n=ai/\v d n=Lib.fi (p d n) d.length 0:=by
 refine out d n ?_;unfold vo b;refine pG (p d n) d.length (λm (i:aE)=>l2 Lib.cW (λ(_:aU) (_:aq) (y7 _ _:az)=>ah y7) (λ(_:aU) (_:aq) (_ _ _:az)=>ah (-1)) m d n 0 (d.length:az) (i:az)) ah (λm i hi hp=> ?_) (λm i hi hp=> ?_) (λm=> ?_) Lib.cW (cK (by omega))
 ·unfold p at hp;simp only[l2,r2,Lib.du,Lib.cQ,Lib.eD,hi,aQ,aM,au,U67.v,hp]
 ·unfold p at hp;simp only[l2,r2,Lib.du,Lib.cQ,Lib.eD,hi,aQ,aM,au,U67.v,hp,aA,Lib.di hi (by omega:d.length<=9223372036854775807)]
 ·simp only[l2,r2,Lib.du,bm,bh,aA]
end vJ

namespace pT
theorem ok(i:aE)(key:aq)(hi:i<3)(hk:key.size<=140737488355328):c (i:az) key=ai/\v (i:az) key=(fY.pl i key:az):=by
 refine out _ _ ?_;unfold vo b;have e:(key++bytesOf (ax (aN [Ck.i bg] 1) 0 [CV.i bg (bI bg (bJ (↑(dM (iY (b9 64 (i:az)) (b9 64 255))):az)))]))=fY.keyed i key:=by
  unfold fY.keyed;match i,hi with
  |0,_=>rfl
  |1,_=>rfl
  |2,_=>rfl
 have hs:=fY.BR i key;have h:=tQ.ok (fY.keyed i key) (by omega);have e2:gj key+gj (bytesOf (ax (aN [Ck.i bg] 1) 0 [CV.i bg (bI bg (bJ (↑(dM (iY (b9 64 (i:az)) (b9 64 255))):az)))]))=key.size+1:=by rw[oZ,BQ]
 rw[e2,e,aF (by omega),au,h.1,h.2,au];have hp:=fY.pl_int i key;have hl:=fY.BG i key;have hr:=fY.Ka i key;unfold fY.sm at hp hr;rw[c5 (by omega) (by omega),hp]
end pT

namespace nI
open Lib (rr ri)
open fg (fR bq Cw half AU HW FJ nW tu sj)
theorem ado(K:aq->az->az->az->az->aU->aC R)(s:ay (ay az))(key:aq)(y a:az)(hs:s.length=3)(hq:∀q∈s,q.length=16/\∀n∈q,0<=n/\n<=15)(hk:key.size<=140737488355328):
  l5 Lib.cW K Lib.cW key 3 0 y a (rr s)=K key 3 3 y a (rr (Cw s key)):=by
 refine(nZ fR s (λi q=>bq (fY.pl i key) q) (λm (i:aE) x=>l5 Lib.cW K m key 3 (i:az) y a x) (λx=>K key 3 3 y a x) (λm i L h h2 hL uX=> ?_) (λm L hL=> ?_) Lib.cW (cK (by omega)))
 ·have hp:=pT.ok i key (by omega) hk;have rP:=fY.BG i key;obtain⟨Il,hn⟩:=hq _ (bC h);have e0:ar (L.map fR) i 0=CV.l 3 (ri s[i]):=by rw[AU L i h2,uX]
  have hb:fY.pl i key<s[i].length:=by omega
  have hx:=hn _ (bC hb);have e3:decide ((i:az)<3)=true:=aF (by omega);simp only[l5,r5,bN,Lib.du,h2,e3,aQ,au,hp.1,hp.2,Lib.cQ,aM,Lib.eD,e0,iD,Lib.fU,Il,rP,N7 hb,bZ];unfold bq kW;rw[nW hb,aA,c5 (x:=s[i][fY.pl i key]+1) (by omega) (by omega)];by_cases hd:s[i][fY.pl i key]<15
  ·rw[bH (by omega),aF hd,au,HW _ _ _ hb,FJ _ _ _ h2,Lib.di h2 (by omega)]
  ·have e15:s[i][fY.pl i key]=15:=by omega
   rw[bw (by omega),aK hd,aA,e15,HW _ _ _ hb,FJ _ _ _ h2,Lib.di h2 (by omega)]
 ·have e3:decide ((s.length:az)<3)=false:=aK (by omega);simp only[l5,r5,e3,aA,hs];rfl
theorem ah6(K:aE->az->az->az->az->az->az->aU->aC R)(L:ay (ay az))(i:aE)(h:i<L.length)(u w y a:az)(hl:L.length<=1048576)(hq:L[i].length=16)(hn:∀n∈L[i],0<=n/\n<=15):
  l18 Lib.cW K Lib.cW i u w 16 0 y a (L.map fR)=K i u w 16 16 y a ((L.set i (L[i].map λn=>cS n 2)).map fR):=by
 have Yl:L[i].mapIdx (λ_ n=>cS n 2)=L[i].map λn=>cS n 2:=by apply kS<;>simp
 have key:=me (L[i].length) (λm (k:aE) x=>l18 Lib.cW K m i u w 16 (k:az) y a x) (λk=>(L.set i (nE L[i] (λ_ n=>cS n 2) k)).map fR) (K i u w 16 16 y a ((L.set i (L[i].map λn=>cS n 2)).map fR)) (λm k hk=> ?_) (λm=> ?_) Lib.cW 0 (bz _) (cK (by omega))
 ·rw[BW,eR]at key;exact key
 ·have hu:=qi L[i] (λ_ n=>cS n 2) k (by omega);generalize hU:nE L[i] (λ_ n=>cS n 2) k=U at hu;have hku:k<U.length:=by omega
  have fG:U[k]=L[i][k]:=by subst hU;exact wB _ _ _ hk _
  have ack:U.set k (cS L[i][k] 2)=nE L[i] (λ_ n=>cS n 2) (k+1):=by subst hU;exact sR L[i] (λ_ n=>cS n 2) k hk
  have h2:i<(L.set i U).length:=by simpa using h
  have e0:ar ((L.set i U).map fR) i 0=CV.l 3 (ri U):=by rw[AU _ _ h2,jX]
  have hx:=hn _ (bC hk);have ht:0<=cS L[i][k] 2:=Ue hx.1 (by omega);have Fa:cS L[i][k] 2<=15:=yQ (Tq _ hx.1) hx.2;have e3:decide ((k:az)<16)=true:=aF (by omega);simp only[l18,r18,bN,cm,Lib.du,h,hku,e3,aQ,au,Lib.cQ,aM,Lib.eD,e0,iD,Lib.fU,N7 hku,bZ,fG];rw[c5 (x:=cS L[i][k] 2) (by omega) (by omega),HW _ _ _ hku,FJ _ _ _ h2,ack,oU,Lib.di hk (by omega)]
 ·have e3:decide ((L[i].length:az)<16)=false:=aK (by omega);simp only[l18,r18,e3,aA];rw[qh,Yl,hq];rfl
theorem ah4(K:az->az->az->az->aU->aC R)(s:ay (ay az))(y a:az)(hs:s.length=3)(hq:∀q∈s,q.length=16/\∀n∈q,0<=n/\n<=15):
  l15 Lib.cW K Lib.cW 3 0 y a (rr s)=K 3 3 y a (rr (half s)):=by
 have Yl:s.mapIdx (λ_ q=>q.map λn=>cS n 2)=half s:=by unfold half;apply kS<;>simp
 rw[<-Yl];refine(nZ fR s (λ_ q=>q.map λn=>cS n 2) (λm (i:aE) x=>l15 Lib.cW K m 3 (i:az) y a x) (λx=>K 3 3 y a x) (λm i L h h2 hL uX=> ?_) (λm L hL=> ?_) Lib.cW (cK (by omega)))
 ·obtain⟨Il,hn⟩:=hq _ (bC h);have e3:decide ((i:az)<3)=true:=aF (by omega);have e0:ar (L.map fR) i 0=CV.l 3 (ri s[i]):=by rw[AU L i h2,uX]
  simp only[l15,r15,bN,Lib.du,h2,e3,aQ,au,Lib.cQ,aM,Lib.eD,e0,iD,Lib.fU,Il];rw[show((16:aE):az)=16 from rfl,ah6 _ L i h2 3 i y a (by omega) (by rw[uX];exact Il) (by rw[uX];exact hn),Lib.di h2 (by omega),uX]
 ·have e3:decide ((s.length:az)<3)=false:=aK (by omega);simp only[l15,r15,e3,aA,hs];rfl
theorem ok(s:ay (ay az))(a:az)(key:aq)(hf:iO.nh s)(hk:key.size<=140737488355328):c (rr s) a key=ai/\v (rr s) a key=(rr (fg.val s a key).1,(fg.val s a key).2):=by
 refine out _ _ _ ?_;have h1:=iO.ok s a hf;have h2:=oV.ok s a hf;unfold vo b fg.val;rw[h1.1,h1.2,h2.1,h2.2,au,au];cases b7:e7.jU s a with
 |false=>rfl
 |true=>
  obtain⟨hs,ha,hq⟩:=tu b7;obtain⟨b1,b2⟩:=sj (key:=key) hs hq;rw[aY,aA,au,gg,hs,show((3:aE):az)=3 from rfl,ado _ s key _ _ hs hq hk,c5 (x:=a+1) (by omega) (by omega)];by_cases hd:a+1=64
  ·rw[aK (show¬a+1<64 by omega),aF hd,au,aA,gg,b1,show((3:aE):az)=3 from rfl,ah4 _ _ _ _ b1 b2]
  ·rw[aF (show a+1<64 by omega),aK hd];rfl
end nI

namespace rN
def p(s:aU)(k:aq)(i:aE):aW:=db (aL (bQ (ar s i 0))) (aL k)
theorem ok(d:aU)(n:aq)(hl:d.length<=4294967296):c d n=ai/\v d n=Lib.fi (p d n) d.length 0:=by
 refine out d n ?_;unfold vo b;refine pG (p d n) d.length (λm (i:aE)=>l2 Lib.cW (λ(_:aU) (_:aq) (y7 _ _:az)=>ah y7) (λ(_:aU) (_:aq) (_ _ _:az)=>ah (-1)) m d n 0 (d.length:az) (i:az)) ah (λm i hi hp=> ?_) (λm i hi hp=> ?_) (λm=> ?_) Lib.cW (cK (by omega))
 ·unfold p at hp;simp only[l2,r2,Lib.du,Lib.cQ,Lib.eD,hi,aQ,aM,au,zw.v,hp]
 ·unfold p at hp;simp only[l2,r2,Lib.du,Lib.cQ,Lib.eD,hi,aQ,aM,au,zw.v,hp,aA,Lib.di hi (by omega:d.length<=9223372036854775807)]
 ·simp only[l2,r2,Lib.du,bm,bh,aA]
end rN

namespace vC
def cn(y:ay CV):aW:=match y with|[.s _]=>ai|_=>ak
def cr(y:ay CV):ay CV:=[CV.s (bQ (y.getD 0 (.b ak)))]
theorem GS{y:ay CV}(h:cn y=ai):cr y=y:=by
 unfold cn at h;split at h
 ·rfl
 ·cases h
theorem u9{y:ay CV}(h:cn y=ai):y.length=1:=by rw[<-GS h];rfl
def keep(d:aq)(y:ay CV):aW:= !List.beq (aL (bQ (y.getD 0 (.b ak)))) (aL d)
theorem ng(d:aq){s:aU}{i:aE}(h:i<s.length):(s.take (i+1)).filter (keep d)=(s.take i).filter (keep d)++(bif keep d s[i]then [s[i]]else []):=by rw[dx h,jG];cases hk:keep d s[i]<;>simp[hk]
theorem run(N:aE)(s0:aU)(d:aq)(hc:s0.all cn=ai)(hn:s0.length<=9223372036854775807)(K:aq->az->az->aU->aC R)(kr:aU->aC R)
  (hK:∀(j:aE) x,x.length=s0.length->j<=s0.length->K d j s0.length x=kr (x.take j)) (m j i:aE) (x:aU)
  (hi:j<i/\i<=s0.length/\x.length=s0.length/\(∀y∈x,y.length=1)/\x.take j=(s0.take i).filter (keep d)/\x.drop i=s0.drop i) (hm:s0.length-i<m):
  l5 N K m d j i x=kr (s0.filter (keep d)):=by
 have hca:∀y∈s0,cn y=true:=bu.1 hc
 refine Lib.gn (λm (s:aE×aE×aU)=>l5 N K m d s.1 s.2.1 s.2.2) (λs=>s0.length-s.2.1)
  (λs=>s.1<s.2.1/\s.2.1<=s0.length/\s.2.2.length=s0.length/\(∀y∈s.2.2,y.length=1)/\s.2.2.take s.1=(s0.take s.2.1).filter (keep d)/\s.2.2.drop s.2.1=s0.drop s.2.1)
  (λ_=>kr (s0.filter (keep d))) (λm s hs=> ?_) m (j,i,x) hi hm
 obtain⟨j,i,x⟩:=s;obtain⟨h1,h2,h3,h4,h5,h6⟩:=hs;simp only at h1 h2 h3 h4 h5 h6⊢;by_cases g9:i<s0.length
 ·right;have Ca:i<x.length:=by omega
  have U0:j<x.length:=by omega
  have hx:x[i]=s0[i]:=by have e1:=Lib.iu Ca;have e2:=Lib.iu g9;rw[h6,e2]at e1;exact(ru e1).1.symm
  have hd:x.drop (i+1)=s0.drop (i+1):=by have e1:=Lib.iu Ca;have e2:=Lib.iu g9;rw[h6,e2]at e1;exact(ru e1).2.symm
  have hcn:=hca _ (bC g9);have hf:=ng d g9;cases hk:keep d s0[i]with
  |true=>
   refine⟨(j+1,i+1,x.set j s0[i]), ?_,by simp only;omega,trivial, ?_⟩
   ·rw[hk,au,<-h5]at hf;refine⟨by simp only;omega,by simp only;omega,by simpa using h3, ?_, ?_, ?_⟩
    ·intro y hy;rcases je hy with h|h
     ·exact h4 y h
     ·rw[h];exact u9 hcn
    ·rw[hf];rw[dx (by simpa using U0)];simp[KE]
    ·simp only;rw[KC (by omega)];exact hd
   ·have e:zw.v (bQ (ar x i 0)) d=false:=by
     have:(!zw.v (bQ (ar x i 0)) d)=true:=by rw[Lib.dF Ca,hx];exact hk
     simpa using this
    have es:dV x j 0 [CV.s (bQ (ar x i 0))]=x.set j s0[i]:=by
     have hl:=h4 _ (bC U0);rw[Lib.LQ U0,Lib.dF Ca,hx];have:jb x[j] 0 (cr s0[i])=s0[i]:=by rw[GS hcn];unfold jb;have:=u9 hcn;simp[hl,this,mq]
     unfold cr at this;rw[this]
    have b1:(j:az)<(x.length:az):=by omega
    simp only[l5,r5,Lib.du,Lib.cQ,Lib.eD,Ca,U0,aQ,bj,au,e,bV,es,Lib.di g9 hn,Lib.di (show j<s0.length by omega) hn]
  |false=>
   refine⟨(j,i+1,x), ?_,by simp only;omega,trivial, ?_⟩
   ·rw[hk,aA,dN,<-h5]at hf;exact⟨by simp only;omega,by simp only;omega,h3,h4,hf.symm,hd⟩
   ·have e:zw.v (bQ (ar x i 0)) d=true:=by
     have:(!zw.v (bQ (ar x i 0)) d)=false:=by rw[Lib.dF Ca,hx];exact hk
     simpa using this
    simp only[l5,r5,Lib.du,Lib.cQ,Lib.eD,Ca,aQ,bj,au,e,aY,aA,Lib.di g9 hn]
 ·left;have:i=s0.length:=by omega
  subst this;rw[g8]at h5;have e:=hK j x h3 (by omega);rw[h5]at e;have Ca:¬s0.length<x.length:=by omega
  simp only[l5,r5,Lib.du,Ca,bh,aA,e]
theorem ok(s0:aU)(oz:aq)(hc:s0.all cn=ai)(hn:s0.length<=4294967296):c s0 oz=ai/\v s0 oz=s0.filter (keep oz):=by
 refine out s0 oz ?_;have hv:=rN.ok s0 oz hn;unfold vo b;rw[hv.1,hv.2,au];rcases Lib.qN (rN.p s0 oz) s0.length 0 with ⟨h,oY⟩|⟨k,_,wM,hk,hkp,abU⟩
 ·rw[h];have:s0.filter (keep oz)=s0:=by rw[gK];intro y hy;obtain⟨i,hi,rfl⟩:=dy hy;have:=oY i (bz _) (by omega);unfold rN.p at this;rw[Lib.dF hi]at this;unfold keep;rw[this];rfl
  rw[this];rfl
 ·rw[hk];have N2:k<s0.length:=by omega
  have il:decide ((k:az)=iT 1)=false:=aK (by show¬(k:az)= -1;omega);rw[il,aA,Lib.di N2 (by omega)];have hca:∀y∈s0,cn y=true:=bu.1 hc;refine run _ s0 oz hc (by omega) _ ah (λj x hx hj=> ?_) _ k (k+1) s0 ⟨by omega,by omega,rfl,λy hy=>u9 (hca y hy), ?_,rfl⟩ (cK (by omega))
  ·have b1:iS (j:az) (s0.length:az) (s0.length:az)=true:=by simp[iS];omega
   have e:ny j x++aN [Ck.s] (s0.length-j)++Au s0.length x=ny j x++aN [Ck.s] (s0.length-j):=by rw[mq (by omega),dN]
   have hl:(ny j x).length=j:=by simp;omega
   simp only[hx,Lib.eD,b1,au,e];rw[Lib.AP (by simp[iS];omega)];unfold eu;rw[show aZ 0=0 from rfl,gd,Cm,B4 (by omega),gH (by omega)]
  ·rw[ng oz N2];have e1:keep oz s0[k]=false:=by unfold rN.p at hkp;rw[Lib.dF N2]at hkp;unfold keep;rw[hkp];rfl
   have e2:(s0.take k).filter (keep oz)=s0.take k:=by
    rw[gK];intro y hy;obtain⟨i,hi,rfl⟩:=dy hy;have hik:i<k:=by simp at hi;omega
    have:=abU i (bz _) hik;unfold rN.p at this;rw[Lib.dF (by omega)]at this;rw[pN];unfold keep;rw[this];rfl
   rw[e1,e2,aA,dN]
end vC

namespace jB
theorem afp(l:ay aq):(Lib.rs l).all vC.cn=true:=by rw[bu];intro y hy;unfold Lib.rs at hy;obtain⟨z,_,rfl⟩:=cO.1 hy;rfl
theorem am9(l:ay aq)(k:aq):(Lib.rs l).filter (vC.keep k)=Lib.rs (eT.without l k):=by unfold Lib.rs eT.without;rw[rR];congr 1;apply pM;intro x _;show(!List.beq (aL x) (aL k))=_;rw[Lib.fB]
theorem ok(l:ay aq)(k:aq)(hl:l.length<=1048576):c (Lib.rs l) k=ai/\v (Lib.rs l) k=Lib.rs (eT.without l k):=by have h1:=se.ok (Lib.rs l) (by rw[dZ];omega);have h2:=vC.ok (Lib.rs l) k (afp l) (by rw[dZ];omega);rw[am9]at h2;exact out _ _ (by unfold vo b;rw[h1.1,h1.2,h2.1,h2.2,au,au])
end jB

namespace uM
open Lib (rr ri)
open lV (gs E3)
theorem ok(s:ay (ay az))(a:az)(key:aq)(hf:iO.nh s)(hk:key.size<=140737488355328):c (rr s) a key=ai/\v (rr s) a key=lV.val s a key:=by
 refine out _ _ _ ?_;have h2:=oV.ok s a hf;unfold vo b lV.val;rw[h2.1,h2.2,au];cases b7:e7.jU s a with
 |false=>rfl
 |true=>
  obtain⟨hs,ha,hq⟩:=fg.tu b7;rw[aY,aA,au,gg];have:=Lib.gn (λm (t:aE×az)=>l5 Lib.cW (λ(_:aq) (y6:az) (_:aU) (_ _:az)=>ah y6) m key t.2 (rr s) s.length (t.1:az)) (λt=>s.length-t.1) (λt=>t.1<=s.length) (λt=>ah (gs key t.1 (s.drop t.1) t.2)) (λm t ht=>by
   obtain⟨i,x⟩:=t;dsimp only at ht⊢;by_cases h:i<s.length
   ·right;have hp:=pT.ok i key (by omega) hk;have rP:=fY.BG i key;obtain⟨Il,hn⟩:=hq _ (bC h);have hb:fY.pl i key<s[i].length:=by omega
    refine⟨(i+1,bif decide (s[i].getD (fY.pl i key) 0<x)then s[i].getD (fY.pl i key) 0 else x),by dsimp only;omega,by dsimp only;omega,by rw[<-E3 key s i h x], ?_⟩
    simp only[l5,r5,gg,Lib.du,h,aQ,au,hp.1,hp.2,Lib.cQ,aM,Lib.eD,FH h,iD,Lib.fU,Il,rP,N7 hb,bZ,Lib.di h (by omega:s.length<=9223372036854775807)];rw[fg.nW hb];unfold kW;rw[aA];by_cases hd:s[i][fY.pl i key]<x
    ·rw[bw hd,aF hd,au]
    ·rw[bH hd,aK hd,aA]
   ·left;have:i=s.length:=by omega
    subst this;simp only[l5,r5,gg,Lib.du,bm,bh,aA,dh,gs]) Lib.cW (0,15) (bz _) (cK (by dsimp only;omega))
  simpa using this
end uM

namespace MD
open Lib (rr rs)
open eT (has without gm kV vh gY oM)
open jk (eh JF mO pj)
open jd (BS zer Qq S4 mP u6 j6 J9 sC BC)
theorem ok(w m:ay aq)(s:ay (ay az))(a:az)(key:aq)(hw:w.length<=1048576)(hm:m.length<=1048576)(hf:iO.nh s)(hk:key.size<=140737488355328):
  c (rs w) (rs m) (rr s) a key=ai/\v (rs w) (rs m) (rr s) a key=(rs (jd.val w m s a key).1,rs (jd.val w m s a key).2.1,rr (jd.val w m s a key).2.2.1,(jd.val w m s a key).2.2.2.1,(jd.val w m s a key).2.2.2.2):=by
 refine out _ _ _ _ _ ?_;have h1:=i9.ok w m s a hw hm hf;have h2:=ou.ok w m s a hw hm hf;have h3:=nI.ok s a key hf hk;have h5:=rL.ok m key (by omega);have h6:=jB.ok w key hw;have h7:=jB.ok m key hm;have sf:=J9 (a:=a) (key:=key) hf;unfold vo b;simp only[Lib.lt,h1.1,h1.2,h2.1,h2.2,au];unfold jd.val;cases hp:pj w m s a with
 |false=>rfl
 |true=>
  obtain⟨p1,p2,p3,p4⟩:=BC hp;rw[ou.iw,bj];cases wM:eh key with
  |false=>rfl
  |true=>
   have zE:=j6 wM;have l6:=gY (l:=w) (k:=key);have l7:=gY (l:=m) (k:=key);simp only[aY,aA,au,h3.1,h3.2,h5.1,h5.2,h6.1,h6.2,h7.1,h7.2,BS,zer,dZ,oZ,bB];rw[Lib.cC (n:=(without w key).length+1) (by omega) (by omega),Lib.cC (n:=(without m key).length+1) (by omega) (by omega)];simp only[au];cases hA:has w key with
   |true=>
    have hB:has m key=false:=by rw[kV];intro Qu;have:=(u6.1 p1).2;rw[dY]at this;exact this.2.2 key (gm.1 hA) key Qu rfl
    have jt:=oM hA;rw[hB,aA,au,aF (show((without w key++[key]).length:az)<=2 by rw[bW,bB];omega)];rfl
   |false=>
    rw[vh hA];cases hB:has m key with
    |true=>rfl
    |false=>
     simp only[aA];rw[show decide (((w++[key]).length:az)<=2)=decide ((w++[key]).length<=2)by rw[cf];omega];cases hC:decide ((w++[key]).length<=2)with
     |true=>rfl
     |false=>
      have hlw:(w++[key]).length=3:=by have:=nX hC;rw[bW,bB]at this⊢;omega
      have hfm:(w++[key]).getD 0 ⟨#[]⟩∈w++[key]:=sC (by omega);have Jw:((w++[key]).getD 0 ⟨#[]⟩).size<=30:=by
       rcases a_.1 hfm with h|h
       ·exact(j6 (mP p1 (bU _ h))).2
       ·rw[aX]at h;rw[h];exact zE.2
      have g1:=uM.ok (fg.val s a key).1 (fg.val s a key).2 ((w++[key]).getD 0 ⟨#[]⟩) sf (by omega);have i1:iS 1 ((w++[key]).length:az) ((w++[key]).length:az)=true:=by rw[hlw];rfl
      simp only[aA,aF (show(0:az)<((w++[key]).length:az)by omega),i1,au,Qq,S4,zer,BS,dZ,Lib.cC (n:=m.length+1) (b:=16) (by omega) (by omega),g1.1,g1.2];rw[show decide ((m.length:az)<4)=decide (m.length<4)by rw[cf];omega];cases hD:decide (m.length<4)with
      |true=>rfl
      |false=>
       have hm4:m.length=4:=by have:=nX hD;omega
       have Ym:m.getD 0 ⟨#[]⟩∈m:=sC (by omega);have hms:=(j6 (mP p1 (bK _ Ym))).2;have g2:=uM.ok (fg.val s a key).1 (fg.val s a key).2 (m.getD 0 ⟨#[]⟩) sf (by omega);have i2:iS 1 (m.length:az) (m.length:az)=true:=by simp[iS];omega
       have Fa:m.tail.length=3:=by rw[zm];omega
       simp only[aA,aF (show(0:az)<(m.length:az)by omega),i2,au,BS,Lib.cC (n:=m.tail.length+1) (b:=16) (by omega) (by omega),g2.1,g2.2];cases decide (lV.val (fg.val s a key).1 (fg.val s a key).2 ((w++[key]).getD 0 ⟨#[]⟩)>lV.val (fg.val s a key).1 (fg.val s a key).2 (m.getD 0 ⟨#[]⟩))<;>rfl
end MD

namespace Ii
open Lib (rr rs)
open eT (without)
theorem ok(w m:ay aq)(s:ay (ay az))(a:az)(key:aq)(hw:w.length<=1048576)(hm:m.length<=1048576)(hf:iO.nh s):c (rs w) (rs m) (rr s) a key=ai/\v (rs w) (rs m) (rr s) a key=(rs (without w key),rs (without m key),rr s,a):=by have h1:=i9.ok w m s a hw hm hf;have h2:=jB.ok w key hw;have h3:=jB.ok m key hm;exact out _ _ _ _ _ (by unfold vo b;rw[h1.1,h1.2,h2.1,h2.2,h3.1,h3.2];rfl)
end Ii

namespace o_
open Lib (rc Cl)
open dP (lh jn lid QU)
theorem ok(i0:az)(q1 q2 q3 q4:aU)(i5:az)(q6:aU)(cl:ay Cl)(i8:az)(x:Cl)(cs:cl.Pairwise λa b=>a.id<b.id)(hn:lh cl x.id=ak)(hl:cl.length<=1048576):
  c i0 q1 q2 q3 q4 i5 q6 (rc cl) i8 x.id x.k x.fe x.fr x.sta x.got x.age=ai/\v i0 q1 q2 q3 q4 i5 q6 (rc cl) i8 x.id x.k x.fe x.fr x.sta x.got x.age=(i0,q1,q2,q3,q4,i5,q6,rc (jn cl x),i8):=by
 refine out _ _ _ _ _ _ _ _ _ _ _ _ _ _ _ _ ?_;unfold vo b;have hrl:=eO cl
 have:=wz (lid x.id) (rc cl) (λm (i:aE)=>l2 Lib.cW (λFV FW DR vm Is Iu Td y24 TV TW Iv TX TY TZ T0 Te Tf=>bif(decide (0<=FV)&&decide (FV<=(↑(bP Tf):az))&&cB (bP Tf+bP (ax (aN [Ck.i ao,Ck.s,Ck.i ao,Ck.i ao,Ck.i ao,Ck.s,Ck.i ao] 1) 0 [CV.i ao Is,CV.s Iu,CV.i ao Td,CV.i ao y24,CV.i ao TV,CV.s TW,CV.i ao Iv])) 72)then(ah (FW,TX,TY,TZ,T0,DR,Te,(Pu.yr Tf (aZ FV) (ax (aN [Ck.i ao,Ck.s,Ck.i ao,Ck.i ao,Ck.i ao,Ck.s,Ck.i ao] 1) 0 [CV.i ao Is,CV.s Iu,CV.i ao Td,CV.i ao y24,CV.i ao TV,CV.s TW,CV.i ao Iv])),vm))else(aj)) m (i:az) i0 i5 i8 x.id x.k x.fe x.fr x.sta x.got x.age q1 q2 q3 q4 q6 (rc cl))
  (λa=>bif decide ((a:az)<=((rc cl).length:az))then ah (i0,q1,q2,q3,q4,i5,q6,Pu.yr (rc cl) a [Cl.row x],i8)else aj)
  (λm i h hp=>by
   have mA:decide (bZ (ar (rc cl) i 0)<x.id)=true:=by rw[Lib.dF h];exact hp
   simp only[l2,r2,Lib.du,h,aQ,Lib.cQ,aM,au,Lib.eD,mA,Lib.di h (by omega:(rc cl).length<=9223372036854775807)])
  (λm i h hp=>by
   have mA:decide (bZ (ar (rc cl) i 0)<x.id)=false:=by rw[Lib.dF h];exact hp
   simp only[l2,r2,Lib.du,h,aQ,Lib.cQ,aM,bj,o0,au,aA,Lib.eD,mA,Lib.j8,bB,Lib.cC (n:=(rc cl).length+1) (b:=72) (by omega) (by omega)];rfl)
  (λm=>by simp only[l2,r2,Lib.du,bm,bh,aQ,Lib.cQ,aM,bj,o0,au,aA,Lib.eD,Lib.j8,bB,Lib.cC (n:=(rc cl).length+1) (b:=72) (by omega) (by omega)];rfl) Lib.cW (cK (by omega))
 refine this.trans ?_;have hle:=H6 (lid x.id) (rc cl);rw[aF (by omega),au];unfold Pu.yr;rw[QU cs hn]
end o_

end Go.FG
