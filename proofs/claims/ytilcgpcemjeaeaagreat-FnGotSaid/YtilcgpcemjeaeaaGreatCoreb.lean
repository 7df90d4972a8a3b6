/- An evaluator for the part of the language that this program uses, proved sound over the model: states told as values and lists; what an evaluation tells, the call does. No condition. -/
import Derived.Calls
import Derived.Orders
import Derived.Below
import Derived.Laws.AppendOwn
import Derived.Laws.Slices
import Derived.Laws.StructEq
import Derived.Laws.Tables
import Derived.Laws.MakeOwn
import Derived.Laws.IdiomStrings
import Derived.Laws.BytesArg
import Derived.Laws.NewFold
import Derived.SizedLaws
import Derived.Carry
import Derived.ProofKit
import Derived.KernelRfl
import Derived.Laws.Strings
import Derived.Test.YtilcgpcemjeaeaaGreatCorea
set_option linter.unusedVariables false
set_option linter.unusedSimpArgs false
set_option maxRecDepth 100000
open Array renaming ext'->sr,length_toList->dR,getElem?_toList->cX,getElem?_eq_some_iff->dU,getElem?_extract->ea,getElem?_map->Oi,getElem?_append_left->D8,toList_map->Ak,eq_empty_of_size_eq_zero->Aj,getD_eq_getD_getElem?->eJ,getElem?_replicate->D9,replicate->AQ
open Bool renaming false->ak,true->ai,or_true->J8,and_eq_true->aL,and_true->j4,false_eq_true->dv,not_eq_true'->dx,not_eq_false'->mL,or_eq_true->dM,and_false->wm,not_false->bR,true_or->Al,or_eq_false_iff->iG
open Go renaming World->bM,Value->bk,Program->c5,Oper->fA,IntKind->nq,Operand->dz
open Go.Act renaming put->VQ
open Go.Builtin renaming firstCells->fy,lenOf->pD,append_->iu,zeroCells->fL
open Go.Exit renaming inBlock->HY
open Go.Instr renaming makeFunc->VR,loadAt->yI,sureAddr->uL
open Go.IntKind renaming u8->bf
open Go.Op renaming eqFields->Ol
open Go.Oper renaming wp->On,upon_enter->VS
open Go.Region renaming wanted->u9,binds->mN,ready->wy
open Go.Result renaming andThen_ok->bG
open Go.Sem renaming run_bind->ch,run_pure->cT,run->nr,run_ite->na
open List renaming mem_of_getElem?->aR,map_append->dh,map_cons->fB,map_nil->BI,mem_append->ba,mem_map->cU,mem_singleton->aZ,mem_append_left->bN,mem_append_right->bO,getElem?_append_left->dH,getElem?_append_right->da,length_append->bT,eq_nil_of_length_eq_zero->gb,length_map->bU,getElem?_eq_some_iff->aT,mem_cons->cy,getElem?_of_mem->bY,getElem_mem->bB,map_toArray->Du,mem_cons_self->dn,mem_cons_of_mem->c7,not_mem_nil->gA,getElem?_cons_succ->dO,mem_flatMap->bP,length_eq_one_iff->gU,getElem?_cons_zero->sA,flatMap_cons->yJ,nodup_append->eL,getElem?_map->bL,nodup_cons->kH,getD_eq_getElem?_getD->cY,nil_append->gz,all_eq_true->bn,map_map->ml,append_nil->dm,cons_append->BH,length_singleton->bA,range'->mm,length_cons->db,getElem?_eq_none->kY,append_assoc->cu,take_append_of_le_length->o0,take_length->dY,singleton_append->uO,length_nil->jO,getElem?_take->d_,countP_cons->lI,range->cw,reverse_reverse->vH,range_eq_range'->RK,find?_eq_none->WK,find?_some->u_,length_set->cB,mem_or_eq_of_mem_set->jG,mem_filter->dc,mapM_cons->WN,getD_cons_succ->vF,any_eq_true->Fw
open Nat renaming lt_of_lt_of_le->ju,mul_le_mul_right->b8,add_mul->dp,add_assoc->lZ,eq_of_beq_eq_true->aU,le_refl->cD,zero_le->bI,div_lt_iff_lt_mul->yu,mod_lt->Df,div_add_mod->JT,mul_comm->Ef,zero_add->bV,add_comm->iZ,beq->bC,le_of_ble_eq_true->cL,add_zero->yL,blt->qw,blt_eq->Ar,lt_or_ge->qU,le_trans->dg,ble_eq_true_of_le->Ke,ble->fI,sub_zero->yv
open Option renaming some->ah,getD_some->yM,none->aj
open Option.some renaming inj->aJ,injEq->jA
open Prod.mk renaming inj->bW,injEq->jf
open _root_ renaming Nat->aF,Bool->aW,List->aA,if_pos->bz,if_neg->bH,absurd->cJ,Array->dt,Int->aw,decide_eq_true_eq->bc,Option->az,cond_true->au,cond_false->ax,decide_eq_true->aE,decide_eq_false->aK,of_decide_eq_true->cm,congrArg->lM
namespace Go.FG
theorem pY{E:fO}{w:bM}{K:aF->Prop}{p:Pl}{xs:aQ}{el:aF}{te:TI}(ht:E.ty el=ah te)(hs:p.sz=te.ks.length)(mK:∀y∈xs,y.map CV.kd=te.ks)
  (h:jh w p xs (λ_ _ u x=>c_ E w K u x)) (hK:p.nil=ak->K p.blk):c_ E w K (lS p) (.l el xs):=by
 cases hq:p.nil with
 |true=>rw[nG hq,(h.nil hq).1];exact .nl _ _ _
 |false=>
  rw[e_ hq,h.n];obtain⟨vals,hb,SE,hmx,_,hc⟩:=h.mem hq;have IP:=λi y j x (h1:xs[i]? =ah y) (h2:y[j]? =ah x)=>hc i y j x h1 h2;refine .l el xs p.blk p.off p.cap te (λi j=>(vals[p.off+i*p.sz+j]?).getD undef) ht (by rw[<-h.n];exact SE) hmx (hK hq) mK (λi j y x h1 h2=> ?_) (λi j y x h1 h2=> ?_)
  ·obtain⟨u,hu,_⟩:=IP i y j x h1 h2;rw[hb.cell,<-hs,hu];rfl
  ·obtain⟨u,hu,hr⟩:=IP i y j x h1 h2;simp only[hu,yM];exact hr
theorem yq{E:fO}{w:bM}{K:aF->Prop}{G:aF->aF->Pl}{i j:aF}{u:bk}{x:CV}(h:XC E w G i j u x)(hK:ur x=ai->(G i j).nil=ak->K (G i j).blk):c_ E w K u x:=by
 cases x with
 |l e ys=>obtain⟨rfl,t,ht,hp,hs,mK,gd⟩:=h;exact pY ht hs mK (gd.frame (λ_=>rfl) (λi j y x u hi hj hr=>kQ (iq hp (mK y (aR hi)) hj) hr)) (hK rfl)
 |i=>exact kQ rfl h
 |b=>exact kQ rfl h
 |s=>exact kQ rfl h
section
variable {P:c5} {E:fO} {σ:St} {a:Act} {w:bM} {c:e9} {o:fA} {nm:aF} {e:sR}
structure J7 (E:fO) (σ:St) (w:bM) (c:e9) (te:TI) (v:bk) (Dh:aW) (xs:aQ) (b:aA aF) (p:Pl) (g:aF->aF->Pl):Prop where
 v:v=lS p
 sz:p.sz=te.ks.length
 sh:∀y∈xs,y.map CV.kd=te.ks
 at_:jh w p xs (λi j u x=>if Dh=ai then XC E w g i j u x else c_ E w c.K u x)
 inn:Dh=ai->Fv p g xs
 own:p.nil=ak->∃nm ob,nm∈b/\σ (c9 nm)= .o ob/\fJ c nm ob p.blk
 owni:Dh=ai->∀i j,gh xs i j->(g i j).nil=ak->∃nm ob,nm∈b/\σ (c9 nm)= .o ob/\fJ c nm ob (g i j).blk
 kn:∀nm∈b,∃ob,σ (c9 nm)= .o ob
def K1(σ:St)(c:e9)(D:aA (aF×Obj))(q:aF):Prop:=c.K q\/∃n e xs ob,(n,Obj.fQ e xs)∈D/\σ (c9 n)= .o ob/\fJ c n ob q
structure rk (E:fO) (σ:St) (w:bM) (c:e9) (te:TI) (b:aA aF) (AK:aW) (ys:aQ) (D:aA (aF×Obj)) (news:aA bk) (gx:aF->aF->Pl):Prop where
 sh:∀y∈ys,y.map CV.kd=te.ks
 cellX:AK=ai->∀(i:aF) (y:aA CV) (j:aF) (x:CV),ys[i]? =ah y->y[j]? =ah x->∃u:bk,news[i*te.ks.length+j]? =ah u/\XC E w gx i j u x
 cellH:AK=ak->∀(i:aF) (y:aA CV) (j:aF) (x:CV),ys[i]? =ah y->y[j]? =ah x->∃u:bk,news[i*te.ks.length+j]? =ah u/\c_ E w (K1 σ c D) u x
 own:AK=ai->∀i j,gh ys i j->(gx i j).nil=ak->∃n ob,(n,Obj.dead)∈D/\σ (c9 n)= .o ob/\fJ c n ob (gx i j).blk
 one:AK=ai->∀i j i' j',gh ys i j->gh ys i' j'->(gx i j).nil=ak->(gx i' j').nil=ak->(gx i j).blk=(gx i' j').blk->i=i'/\j=j'
 D:∀n x,(n,x)∈D->n∉b/\(∃ob,σ (c9 n)= .o ob)/\(x= .dead\/(AK=ak/\∃e xs,x= .fQ e xs/\c_ E w (K1 σ c D) (lS (c.P n)) (.l e xs)/\(c.P n).n=xs.length/\∃ti,E.ty e=ah ti/\(c.P n).sz=ti.ks.length))
theorem EH(cf:Ok E σ w c)(dK:fC E σ a w c)(hd:∀d,o.dst=ah d->d<a.tmps.size){tF el:aF}{te:TI}(ht:E.ty el=ah te)(hf:σ (c9 tF)= .jZ)(jy:tF<900000000)
  {v:bk} {Dh AK:aW} {xs ys:aQ} {b:aA aF} {p p':Pl} {g gx:aF->aF->Pl} {D2:aA (aF×Obj)} {news:aA bk} {w':bM}
  (hB:J7 E σ w c te v Dh xs b p g) (hM:rk E σ w c te b AK ys D2 news gx) (hA:adC w w' p p' ys.length news) (hr:(execOp a.eval o).run P w= .ok (.value (lS p')) w'):
  gT P E σ a w c o (oq b++(kg D2++[(c9 tF,eQ.o (.row el (Dh&&AK) (xs++ys)))])++dw o (.v ak [.own tF])):=by
 have aeF:(Dh&&AK)=ai->Dh=ai/\AK=true:=λh=>by simpa using h
 generalize aeE:(Dh&&AK)=OI at aeF;let D:aA (aF×Obj):=Ey b++(D2++[(tF, .row el OI (xs++ys))])
 have hD:oq b++(kg D2++[(c9 tF,eQ.o (.row el OI (xs++ys)))])=kg D:=by rw[B3];simp only[D,kg,dh,fB,BI]
 rw[hD];have mem:∀m x,(m,x)∈D->(m∈b/\x= .dead)\/(m,x)∈D2\/(m=tF/\x= .row el OI (xs++ys)):=by
  intro m x hm;rcases ba.1 hm with hm|hm
  ·obtain⟨q,hq,h⟩:=cU.1 hm;cases h;exact .inl ⟨hq,rfl⟩
  ·rcases ba.1 hm with hm|hm
   ·exact .inr (.inl hm)
   ·rw[aZ]at hm;cases hm;exact .inr (.inr ⟨rfl,rfl⟩)
 have M9:∀m,m∈b->uK D m:=λm hm=>⟨.dead,bN _ (cU.2 ⟨m,hm,rfl⟩)⟩
 have Sy:∀m x,(m,x)∈D2->uK D m:=λm x hm=>⟨x,bO _ (bN _ hm)⟩
 have ah_:uK D tF:=⟨_,bO _ (bO _ (aZ.2 rfl))⟩
 have F1:p'.nil=ak->p'.blk=w.heap.size\/∃m ob,m∈b/\σ (c9 m)= .o ob/\fJ c m ob p'.blk:=by
  intro hn;rcases hA.blk hn with ⟨h1,h2⟩|h
  ·rw[h2];exact .inr (hB.own h1)
  ·exact .inl h
 have Dne:∀n x ob q,(n,x)∈D2->σ (c9 n)= .o ob->fJ c n ob q->¬(p'.nil=ak/\q=p'.blk):=by
  rintro n x ob q hx mV pT ⟨hn,rfl⟩;have Xx:=wB.lt cf ⟨n,ob,mV,pT⟩;rcases F1 hn with h|⟨m,ob',h1,h2,h3⟩
  ·omega
  ·have:=cf.sep n ob m ob' _ mV h2 pT h3;subst this;exact(hM.D n x hx).1 h1
 have Kne:∀q,c.K q->¬(p'.nil=ak/\q=p'.blk):=by
  rintro q hq ⟨hn,rfl⟩;have Xx:=cf.lt _ hq;rcases F1 hn with h|⟨m,ob',h1,h2,h3⟩
  ·omega
  ·exact cf.kk m ob' _ h2 h3 hq
 have Gne:Dh=ai->∀i j,gh xs i j->(g i j).nil=ak->¬(p'.nil=ak/\(g i j).blk=p'.blk):=by
  rintro hx i j hh hn ⟨kJ,he⟩;obtain⟨m,ob,q1,q2,q3⟩:=hB.owni hx i j hh hn;have Xx:=wB.lt cf ⟨m,ob,q2,q3⟩;rcases hA.blk kJ with ⟨h1,h2⟩|h
  ·exact(hB.inn hx).out i j hh hn h1 (he.trans h2)
  ·omega
 let K':aF->Prop:=λq=>c.K q\/(OI=ak/\j5 (uK D) σ c q/\¬(p'.nil=ak/\q=p'.blk))
 have ahP:∀q,K' q->q<w.heap.size:=by
  rintro q (h|⟨_,h,_⟩)
  ·exact cf.lt q h
  ·exact wB.lt cf h.own
 have ahQ:∀q,K' q->¬(p'.nil=ak/\q=p'.blk):=by
  rintro q (h|⟨_,_,h⟩)
  ·exact Kne q h
  ·exact h
 have F3:∀q,K' q->w'.heap[q]? =w.heap[q]? :=λq hq=>hA.old q (ahP q hq) (λhn he=>ahQ q hq ⟨hn,he⟩);have F4:OI=ak->∀q,K1 σ c D2 q->K' q:=by
  rintro hR q (h|⟨n,e',zs,ob,h1,h2,h3⟩)
  ·exact .inl h
  ·exact .inr ⟨hR,⟨n,ob,Sy n _ h1,h2,h3⟩,Dne n _ ob q h1 h2 h3⟩
 have F5:OI=ak->Dh=ai->∀i j,gh xs i j->(g i j).nil=ak->K' (g i j).blk:=by intro hR hx i j hh hn;obtain⟨m,ob,q1,q2,q3⟩:=hB.owni hx i j hh hn;exact .inr ⟨hR,⟨m,ob,M9 m q1,q2,q3⟩,Gne hx i j hh hn⟩
 have F6:OI=ak->AK=ai->∀i j,gh ys i j->(gx i j).nil=ak->K' (gx i j).blk:=by intro hR hx i j hh hn;obtain⟨n,ob,q1,q2,q3⟩:=hM.own hx i j hh hn;exact .inr ⟨hR,⟨n,ob,Sy n _ q1,q2,q3⟩,Dne n _ ob _ q1 q2 q3⟩
 let G':aF->aF->Pl:=λi j=>if i<xs.length then g i j else gx (i-xs.length) j
 have G'l:∀i j,i<xs.length->G' i j=g i j:=λi j h=>bz h;have G'r:∀i j,¬i<xs.length->G' i j=gx (i-xs.length) j:=λi j h=>bH h;have SS:∀i j,i<xs.length->gh (xs++ys) i j->gh xs i j:=by rintro i j hi ⟨y,x,h1,h2,h3⟩;rw[dH hi]at h1;exact⟨y,x,h1,h2,h3⟩
 have XM:∀i j,¬i<xs.length->gh (xs++ys) i j->gh ys (i-xs.length) j:=by rintro i j hi ⟨y,x,h1,h2,h3⟩;rw[da (by omega)]at h1;exact⟨y,x,h1,h2,h3⟩
 let c':e9:=⟨λm=>if m=tF then p' else c.P m,λm=>if m=tF then G' else c.G m,K'⟩
 have hP:c'.P tF=p':=bz rfl;have hG:c'.G tF=G':=bz rfl;have hAg:jC σ c c':=λm hm=>by
  have:m≠tF:=by rintro rfl;rcases hm with h|h;exact h hf;omega
  exact⟨bH this,bH this⟩
 have aiQ:OI=ai->∀i j,gh (xs++ys) i j->(G' i j).nil=ak->¬(p'.nil=ak/\(G' i j).blk=p'.blk)/\j5 (uK D) σ c (G' i j).blk:=by
  intro hR i j hh hn;obtain⟨r1,r2⟩:=aeF hR;by_cases hi:i<xs.length
  ·rw[G'l i j hi]at hn⊢;obtain⟨m,ob,q1,q2,q3⟩:=hB.owni r1 i j (SS i j hi hh) hn;exact⟨Gne r1 i j (SS i j hi hh) hn,m,ob,M9 m q1,q2,q3⟩
  ·rw[G'r i j hi]at hn⊢;obtain⟨n,ob,q1,q2,q3⟩:=hM.own r2 _ j (XM i j hi hh) hn;exact⟨Dne n _ ob _ q1 q2 q3,n,ob,Sy n _ q1,q2,q3⟩
 have hlen:∀y∈xs++ys,y.map CV.kd=te.ks:=λy hy=>(ba.1 hy).elim (hB.sh y) (hM.sh y);refine KL cf dK hd (D:=D) (c':=c') (w':=w') hAg ?_ ?_ ?_ ?_ (λq h=> .inl h) ?_ (λq hq=>ju (ahP q hq) hA.size) ?_ hA.size hA.os hA.tape hA.output ?_ ?_ hr
 ·intro m x hm;rcases mem m x hm with ⟨_,rfl⟩|Xq|⟨rfl,rfl⟩
  ·trivial
  ·obtain⟨_,⟨ob,mV⟩,hx⟩:=hM.D m x Xq;rcases hx with rfl|⟨We,e',zs,rfl,q1,q2,q3⟩
   ·trivial
   ·have hR:OI=false:=by rw[<-aeE,We];simp
    obtain⟨a1,a2⟩:=hAg m (.inl (by rw[mV];simp));show c_ E w' K' (lS (c'.P m)) _/\(c'.P m).n=_/\_;rw[a1];exact⟨q1.frame (λq hq=>F3 q (F4 hR q hq)) (F4 hR),q2,q3⟩
  ·refine⟨⟨te,ht,by rw[hP,hA.sz];exact hB.sz,hlen⟩, ?_,λhR=> ?_⟩
   ·rw[hP,hG];refine⟨by rw[hA.n,hB.at_.n,bT],λhn=> ?_,λhn=> ?_⟩
    ·obtain⟨n1,n2,n3⟩:=hA.nil hn;refine⟨?_,n1⟩
     have e1:xs.length=0:=by rw[<-hB.at_.n];exact n2
     rw[gb e1,gb n3];rfl
    ·obtain⟨ja,m1,m2,m3,m4,m5,m6⟩:=hA.mem hn;refine⟨ja,m1,m2,m3,m4,λi y j x hy hx=> ?_⟩
     have hj:j<te.ks.length:=by rw[<-hlen y (aR hy),bU];exact(aT.1 hx).1
     by_cases hi:i<xs.length
     ·rw[dH hi]at hy;have hpn:p.nil=false:=by
       cases hq:p.nil with
       |false=>rfl
       |true=>have:=(hB.at_.nil hq).1;subst this;simp at hi
      obtain⟨vals,k1,k2,k3,k4,k5⟩:=hB.at_.mem hpn;obtain⟨u,hu,hR⟩:=k5 i y j x hy hx;have hk:i*p.sz+j<p.n*p.sz:=by have:(i+1)*p.sz<=p.n*p.sz:=b8 _ (by rw[hB.at_.n];exact hi);rw[dp]at this;rw[hB.sz]at this⊢;omega
      refine⟨u, ?_, ?_⟩
      ·rw[hA.sz,lZ];refine m5 _ u hk ?_;rw[k1.cell,<-lZ];exact hu
      ·cases hxb:Dh with
       |true=>
        rw[hxb,bz rfl]at hR;cases XH:OI with
        |true=>
         rw[bz rfl];have Qn:XC E w' g i j u x:=hR.frame (λhl kJ=>hA.old _ (by obtain⟨m,ob,_,q2,q3⟩:=hB.owni hxb i j ⟨y,x,hy,hx,hl⟩ kJ;exact wB.lt cf ⟨m,ob,q2,q3⟩) (λaeO he=>Gne hxb i j ⟨y,x,hy,hx,hl⟩ kJ ⟨aeO,he⟩));cases x with
         |l e1 z1=>simpa only[XC,G'l i j hi]using Qn
         |_=>exact Qn
        |false=>rw[bH (by simp)];have:=yq (K:=K') hR (λhl kJ=>F5 XH hxb i j ⟨y,x,hy,hx,hl⟩ kJ);exact this.frame F3 (λ_ h=>h)
       |false=>
        have XH:OI=false:=by rw[<-aeE,hxb];rfl
        rw[hxb,bH (by simp)]at hR;rw[XH,bH (by simp)];exact hR.frame (λq hq=>F3 q (.inl hq)) (λq hq=> .inl hq)
     ·rw[da (by omega)]at hy;have I_:i-xs.length<ys.length:=(aT.1 hy).1;have hk:(i-xs.length)*p.sz+j<ys.length*p.sz:=by have:(i-xs.length+1)*p.sz<=ys.length*p.sz:=b8 _ I_;rw[dp]at this;rw[hB.sz]at this⊢;omega
      have ars:p'.off+i*p'.sz+j=p'.off+p.n*p.sz+((i-xs.length)*p.sz+j):=by
       rw[hA.sz,hB.at_.n];have:i*p.sz=xs.length*p.sz+(i-xs.length)*p.sz:=by rw[<-dp];congr 1;omega
       omega
      have km:∀u,news[(i-xs.length)*te.ks.length+j]? =ah u->ja[p'.off+i*p'.sz+j]? =ah u:=λu hu=>by rw[ars,m6 _ hk,hB.sz];exact hu
      cases We:AK with
      |true=>
       obtain⟨u,hu,hX⟩:=hM.cellX We _ y j x hy hx;refine⟨u,km u hu, ?_⟩
       cases XH:OI with
       |true=>
        rw[bz rfl];have Qn:XC E w' gx (i-xs.length) j u x:=hX.frame (λhl kJ=>hA.old _ (by obtain⟨n,ob,_,q2,q3⟩:=hM.own We _ j ⟨y,x,hy,hx,hl⟩ kJ;exact wB.lt cf ⟨n,ob,q2,q3⟩) (λaeO he=>by obtain⟨n,ob,q1,q2,q3⟩:=hM.own We _ j ⟨y,x,hy,hx,hl⟩ kJ;exact Dne n _ ob _ q1 q2 q3 ⟨aeO,he⟩));cases x with
        |l e1 z1=>simpa only[XC,G'r i j hi]using Qn
        |_=>exact Qn
       |false=>rw[bH (by simp)];have:=yq (K:=K') hX (λhl kJ=>F6 XH We _ j ⟨y,x,hy,hx,hl⟩ kJ);exact this.frame F3 (λ_ h=>h)
      |false=>
       have XH:OI=false:=by rw[<-aeE,We];simp
       obtain⟨u,hu,hH⟩:=hM.cellH We _ y j x hy hx;refine⟨u,km u hu, ?_⟩
       rw[XH,bH (by simp)];exact hH.frame (λq hq=>F3 q (F4 XH q hq)) (F4 XH)
   ·rw[hP,hG];refine⟨λi j hh hn hpn he=>(aiQ hR i j hh hn).1 ⟨hpn,he⟩,λi j i' j' hh AM hn kJ he=> ?_⟩
    obtain⟨r1,r2⟩:=aeF hR;have aan:∀i j i' j',i<xs.length->¬i'<xs.length->gh (xs++ys) i j->gh (xs++ys) i' j'->(G' i j).nil=ak->(G' i' j').nil=ak->(G' i j).blk≠(G' i' j').blk:=by intro i j i' j' hi mb hh AM hn kJ he;rw[G'l i j hi]at hn he;rw[G'r i' j' mb]at kJ he;obtain⟨m,ob,q1,q2,q3⟩:=hB.owni r1 i j (SS i j hi hh) hn;obtain⟨n,ob',s1,s2,s3⟩:=hM.own r2 _ j' (XM i' j' mb AM) kJ;rw[he]at q3;have:=cf.sep m ob n ob' _ q2 s2 q3 s3;subst this;exact(hM.D m _ s1).1 q1
    by_cases hi:i<xs.length
    ·by_cases mb:i'<xs.length
     ·rw[G'l i j hi]at hn he;rw[G'l i' j' mb]at kJ he;exact(hB.inn r1).one i j i' j' (SS i j hi hh) (SS i' j' mb AM) hn kJ he
     ·exact cJ he (aan i j i' j' hi mb hh AM hn kJ)
    ·by_cases mb:i'<xs.length
     ·exact cJ he.symm (aan i' j' i j mb hi AM hh kJ hn)
     ·rw[G'r i j hi]at hn he;rw[G'r i' j' mb]at kJ he;have:=hM.one r2 _ j _ j' (XM i j hi hh) (XM i' j' mb AM) hn kJ he;exact⟨by omega,this.2⟩
 ·intro m x q hm pT;rcases mem m x hm with ⟨_,rfl⟩|Xq|⟨rfl,rfl⟩
  ·exact pT.elim
  ·obtain⟨_,_,hx⟩:=hM.D m x Xq;rcases hx with rfl|⟨_,e',zs,rfl,_⟩
   ·exact pT.elim
   ·exact pT.elim
  ·rcases pT with ⟨hn,rfl⟩|⟨hR,i,j,hh,hn,rfl⟩
   ·rw[hP]at hn⊢;refine⟨?_,λhk=>ahQ _ hk ⟨hn,rfl⟩⟩
    rcases F1 hn with h|⟨m,ob,h1,h2,h3⟩
    ·right;omega
    ·exact .inl ⟨m,ob,M9 m h1,h2,h3⟩
   ·rw[hG]at hn⊢;obtain⟨q1,q2⟩:=aiQ hR i j hh hn;refine⟨.inl q2, ?_⟩
    rintro (h|⟨h,_⟩)
    ·exact cf.Jo q2.own h
    ·rw[hR]at h;cases h
 ·intro m x m' x' q hm xA pT SB;have only:∀m x,(m,x)∈D->fJ c' m x q->m=tF:=by
   intro m x hm pT;rcases mem m x hm with ⟨_,rfl⟩|Xq|⟨rfl,rfl⟩
   ·exact pT.elim
   ·obtain⟨_,_,hx⟩:=hM.D m x Xq;rcases hx with rfl|⟨_,e',zs,rfl,_⟩
    ·exact pT.elim
    ·exact pT.elim
   ·rfl
  rw[only m x hm pT,only m' x' xA SB]
 ·intro m zs hm;rcases mem m _ hm with ⟨_,h⟩|Xq|⟨_,h⟩
  ·cases h
  ·obtain⟨_,_,hx⟩:=hM.D m _ Xq;rcases hx with h|⟨_,e',zs,h,_⟩<;>cases h
  ·cases h
 ·rintro q (h|⟨_,h,_⟩)
  ·exact .inl h
  ·exact .inr (.inl h)
 ·intro q hq Xr;refine hA.old q hq (λhn he=>Xr ?_);rcases F1 hn with h|⟨m,ob,h1,h2,h3⟩
  ·omega
  ·rw[he];exact⟨m,ob,M9 m h1,h2,h3⟩
 ·show _=lS (c'.P tF);rw[hP]
 ·intro m hm;have:m=tF:=by simpa [cM,bQ]using hm
  subst this;exact .inr ah_
end
end Go.FG

namespace Go.FG
theorem Jg:∀{l:aA aF} {n:aF},n∈l->mJ n l=true:=by
 intro l;induction l with
 |nil=>intro n h;cases h
 |cons m r ih=>
  intro n h;rcases cy.1 h with rfl|h
  ·simp[mJ]
  ·simp only[mJ,ih h,J8]
theorem qo{l:aA aF}{n:aF}(h:mJ n l=ak):n∉l:=λhm=>by rw[Jg hm]at h;cases h
theorem c_.one{E:fO}{w:bM}{K:aF->Prop}{u:bk}{x:CV}(h:c_ E w K u x):u.oneCell'=true:=by cases h<;>rfl
theorem Xp(p:Pl):(lS p).oneCell'=true:=by unfold lS;split<;>rfl
theorem XC.one{E:fO}{w:bM}{G:aF->aF->Pl}{i j:aF}{u:bk}{x:CV}(h:XC E w G i j u x):u.oneCell'=true:=by
 cases x with
 |l e ys=>rw[h.1];exact Xp _
 |i=>rw[show u=_ from h.1];rfl
 |b=>rw[show u=_ from h.1];rfl
 |s=>rw[show u=_ from h.1];rfl
theorem JI{x:CV}:(PQ x).oneCell'=true:=by cases x<;>rfl
theorem wQ{α:Type}{b:aW}{x y:Rd α}(h:b=ai):(bif b then x else y)=x:=by rw[h];rfl
theorem Eu{α:Type}{b:aW}{x y:Rd α}(h:b=ak):(bif b then x else y)=y:=by rw[h];rfl
theorem sK{α β γ:Type}{σ:St}{a x:α}{b y:β}{c z:γ}(h:(Rd.ret (a,b,c)).val σ=ah (x,y,z)):a=x/\b=y/\c=z:=by obtain⟨h1,h2⟩:=bW (aJ h);obtain⟨h2,h3⟩:=bW h2;exact⟨h1,h2,h3⟩
section
variable {P:c5} {E:fO} {σ:St} {a:Act} {w:bM} {c:e9} {o:fA} {nm:aF} {e:sR}
theorem BS(cf:Ok E σ w c){el:aF}{te:TI}(ht:E.ty el=ah te){s:AV}{v:bk}(hs:eG E w c s v){Dh:aW}{xs:aQ}{b:aA aF}(h:(wP el s).val σ=ah (Dh,xs,b)):
  ∃p g,J7 E σ w c te v Dh xs b p g:=by
 have ajl:∀b,(∀m∈b,∃ob,σ (c9 m)= .o ob)->v= .slice aj 0 0->∀Dh,J7 E σ w c te v Dh [] b ⟨ai,0,0,0,0,te.ks.length⟩ (Ld E te.ks):=λb hb hv Dh=>
  ⟨hv,rfl,λy hy=>(by cases hy),⟨rfl,λ_=>⟨rfl,rfl⟩,λh=>(by cases h)⟩,λ_=>vZ (λ_ _=>rfl),λh=>(by cases h),λ_ i j ⟨y,x,h,_⟩=>(by simp at h),hb⟩
 cases s with
 |nl=>obtain⟨rfl,rfl,rfl⟩:=sK h;exact⟨_,_,ajl [] (λm hm=>by cases hm) hs ai⟩
 |own n=>
  obtain⟨ob,hg,h⟩:=Rd.bind_some h;have hg:=dA hg;cases ob with
  |row e' ex ys=>obtain⟨h1,h9⟩:=cR h;have:=aU h1;subst this;have h:=h9;obtain⟨rfl,rfl,rfl⟩:=sK h;obtain⟨⟨t2,q1,q2,q3⟩,q4,q5⟩:=cf.obj n _ hg;obtain rfl:te=t2:=aJ (ht.symm.trans q1);exact⟨c.P n,c.G n,hs,q2,q3,q4,q5,λhn=>⟨n,_,by simp,hg, .inl ⟨hn,rfl⟩⟩,λhx i j hh hn=>⟨n,_,by simp,hg, .inr ⟨hx,i,j,hh,hn,rfl⟩⟩,λm hm=>by rw[aZ]at hm;subst hm;exact⟨_,hg⟩⟩
  |_=>simp at h
 |vw n lo hi=>
  obtain⟨ob,hg,h⟩:=Rd.bind_some h;have hg:=dA hg;cases ob with
  |row e' ex ys=>
   obtain⟨h1,h9⟩:=cR h;have:=aU h1;subst this;have h:=h9;obtain⟨rfl,rfl,rfl⟩:=sK h;obtain⟨⟨t2,q1,q2,q3⟩,q4,q5⟩:=cf.obj n _ hg;obtain rfl:te=t2:=aJ (ht.symm.trans q1);obtain⟨v1,v2,v3,v4⟩:=hs;have hle:hi<=ys.length:=by rw[<-q4.n];exact v2
   have hvl:=mB (xs:=ys) (lo:=lo) hle;have hb:∀m∈[n],∃ob,σ (c9 m)= .o ob:=λm hm=>by rw[aZ]at hm;subst hm;exact⟨_,hg⟩
   cases hq:(c.P n).nil with
   |true=>
    have hy:=(q4.nil hq).1;subst hy;have Qm:e8 ([]:aQ) lo hi=[]:=by unfold e8;simp
    rw[Qm];exact⟨_,_,ajl [n] hb (v3 hq) ex⟩
   |false=>
    obtain⟨vals,k1,k2,k3,k4,k5⟩:=q4.mem hq;rcases v4 hq with ⟨u1,hv⟩|⟨u1,oo,u2,hv⟩
    ·have XL:∀i j,gh (e8 ys lo hi) i j->gh ys (lo+i) j:=by
      rintro i j ⟨y,x,h1,h2,h3⟩;rw[tY]at h1;split at h1
      ·exact⟨y,x,h1,h2,h3⟩
      ·cases h1
     refine⟨⟨ak,(c.P n).blk,(c.P n).off+lo*(c.P n).sz,(c.P n).cap-lo,hi-lo,(c.P n).sz⟩,λi j=>c.G n (lo+i) j,hv,q2,λy hy=>q3 y (Cs hy),⟨hvl.symm,λh=>(by cases h),λ_=>⟨vals,k1,by show hi-lo<=(c.P n).cap-lo;omega,by show(c.P n).cap-lo<=maxLen;omega, ?_,λi y j x h1 h2=> ?_⟩⟩,λhx=>⟨λi j hh hn _=>(q5 hx).out _ j (XL i j hh) hn hq,λi j i' j' hh AM hn kJ he=> ?_⟩,λ_=>⟨n,_,by simp,hg, .inl ⟨hq,rfl⟩⟩,λhx i j hh hn=>⟨n,_,by simp,hg, .inr ⟨hx,lo+i,j,XL i j hh,hn,rfl⟩⟩,hb⟩
     ·show(c.P n).off+lo*(c.P n).sz+((c.P n).cap-lo)*(c.P n).sz<=vals.size;have:lo*(c.P n).sz+((c.P n).cap-lo)*(c.P n).sz=(c.P n).cap*(c.P n).sz:=by rw[<-dp];congr 1;omega
      omega
     ·rw[tY]at h1;split at h1
      ·obtain⟨u,hu,hr⟩:=k5 (lo+i) y j x h1 h2;refine⟨u, ?_, ?_⟩
       ·show vals[(c.P n).off+lo*(c.P n).sz+i*(c.P n).sz+j]? =ah u;rw[<-hu];congr 1;rw[dp];omega
       ·split at hr
        ·rename_i hx;rw[bz hx];cases x with
         |l e1 z1=>exact hr
         |_=>exact hr
        ·rename_i hx;rw[bH hx];exact hr
      ·cases h1
     ·have:=(q5 hx).one _ j _ j' (XL i j hh) (XL i' j' AM) hn kJ he;exact⟨by omega,this.2⟩
    ·have h0:hi-lo=0:=by omega
     have Qm:e8 ys lo hi=[]:=gb (hvl.trans h0);rw[Qm];exact⟨⟨ak,(c.P n).blk,oo,0,0,(c.P n).sz⟩,Ld E te.ks,hv,q2,λy hy=>(by cases hy),⟨rfl,λh=>(by cases h),λ_=>⟨vals,k1,cD _,bI _,by show oo+0*(c.P n).sz<=vals.size;rw[Nat.zero_mul];omega,λi y j x h=>(by simp at h)⟩⟩,λ_=>vZ (λ_ _=>rfl),λ_=>⟨n,_,by simp,hg, .inl ⟨hq,rfl⟩⟩,λ_ i j ⟨y,x,h,_⟩=>(by simp at h),hb⟩
  |_=>simp at h
 |_=>simp[wP]at h
theorem rI{u:aF}(hu:(∃e',P.underlying u=ah (.slice e'))\/P.underlying u=ah .string){z:dt bk}{v:bk}{ys:aQ}{ks:aA Ck}(lj:0<ks.length){R:aF->aF->bk->CV->Prop}(hs:oj w v ys ks.length R)(mK:∀y∈ys,y.map CV.kd=ks)(h1:∀i j u x,R i j u x->u.oneCell'=ai):
  ∃news,App P w u v z ks.length ys.length news/\∀(i:aF) (y:aA CV) (j:aF) (x:CV),ys[i]? =ah y->y[j]? =ah x->∃u:bk,news[i*ks.length+j]? =ah u/\R i j u x:=by
 have hl:∀y∈ys,y.length=ks.length:=λy hy=>by rw[<-mK y hy];simp
 obtain⟨A,cp,news,rfl,n1,n2,n3⟩:=hs.list hl;have first:∀W:bM,(∀q,W.cell? q=w.cell? q)->(fy ks.length ys.length (.slice A ys.length cp)).run P W= .ok news.toArray W:=by
  intro W hW;rcases n2 with h|⟨b,oo,rfl,h⟩
  ·subst h;have hn:news=[]:=gb (by rw[n1];simp);subst hn;cases A with
   |none=>exact run_firstCells_none _ _ _ _ _
   |some a=>exact run_firstCells_some W ks.length 0 a _ _ [] (by simp) (λj v hj=>by simp at hj)
  ·exact run_firstCells_some W ks.length ys.length _ _ _ news n1 (λj v hj=>by rw[hW,Addr.n7];exact h j v hj)
 refine⟨news,⟨.inl ⟨hu,by simp[pD],first w (λ_=>rfl),first w.drew (λ_=>rfl)⟩,n1,λv hv=> ?_⟩,n3⟩
 obtain⟨q,hq⟩:=bY hv;have Xx:q<ys.length*ks.length:=by rw[<-n1];exact(aT.1 hq).1
 have hi:q/ks.length<ys.length:=by rw[yu lj];exact Xx
 have hj:q%ks.length<ys[q/ks.length].length:=by rw[hl _ (bB hi)];exact Df _ lj
 obtain⟨u',sg,hr⟩:=n3 (q/ks.length) ys[q/ks.length] (q%ks.length) (ys[q/ks.length][q%ks.length]) (by simp[hi]) (by simp[hj]);have:q/ks.length*ks.length+q%ks.length=q:=by have:=JT q ks.length;rw[Ef]at this;exact this
 rw[this,hq]at sg;cases sg;exact h1 _ _ _ _ hr
theorem TD(hE:eB P E)(cf:Ok E σ w c){tF el:aF}{te:TI}(ht:E.ty el=ah te)(lj:0<te.ks.length){u:aF}(hu:(∃e',P.underlying u=ah (.slice e'))\/P.underlying u=ah .string){z:dt bk}{b:aA aF}{x:AV}{v:bk}(hx:eG E w c x v)
  {AK:aW} {ys:aQ} {w2:aA (aF×eQ)} (h:(TC E tF el te.ks b x).val σ=ah (AK,ys,w2)):
  ∃D news gx,w2=kg D/\App P w u v z te.ks.length ys.length news/\rk E σ w c te b AK ys D news gx:=by
 have inK:∀D q,c.K q->K1 σ c D q:=λD q h=> .inl h;have PL:plain te.ks=ai->∀ys,oj w v ys te.ks.length (λ_ _ u x=>Sc u x)->(∀y∈ys,y.map CV.kd=te.ks)->∃D news gx,([]:aA (aF×eQ))=kg D/\App P w u v z te.ks.length ys.length news/\rk E σ w c te b ai ys D news gx:=by
  intro hp ys hs mK;obtain⟨news,n1,n2⟩:=rI (P:=P) (z:=z) hu lj hs mK (λi j u x hr=>by rw[hr.1];exact JI);refine⟨[],news,λ_ _=>⟨ai,0,0,0,0,0⟩,rfl,n1,mK,λ_ i y j x hy hx=> ?_,λh=>(by cases h),λ_ i j _ hn=>(by cases hn),λ_ i j _ _ _ _ hn=>(by cases hn),λn x hn=>(by cases hn)⟩
  obtain⟨u,hu,hr⟩:=n2 i y j x hy hx;exact⟨_,hu,uE (iq hp (mK y (aR hy)) hx) hr⟩
 have PLr:plain te.ks=ai->∀ys,(mE E x).val σ=ah (el,ys)->∃D news gx,([]:aA (aF×eQ))=kg D/\App P w u v z te.ks.length ys.length news/\rk E σ w c te b ai ys D news gx:=by intro hp ys hr;obtain⟨q1,q2,_⟩:=Ai cf hx hr ht hp;exact PL hp ys q1 q2
 have SH:∀ys,oj w v ys te.ks.length (λ_ _ u x=>c_ E w c.K u x)->(∀y∈ys,y.map CV.kd=te.ks)->∃D news gx,([]:aA (aF×eQ))=kg D/\App P w u v z te.ks.length ys.length news/\rk E σ w c te b ak ys D news gx:=by
  intro ys hs mK;obtain⟨news,n1,n2⟩:=rI (P:=P) (z:=z) hu lj hs mK (λi j u x hr=>hr.one);refine⟨[],news,λ_ _=>⟨ai,0,0,0,0,0⟩,rfl,n1,mK,λh=>(by cases h),λ_ i y j x hy hx=> ?_,λh=>(by cases h),λh=>(by cases h),λn x hn=>(by cases hn)⟩
  obtain⟨u,hu,hr⟩:=n2 i y j x hy hx;exact⟨_,hu,hr.frame (λ_ _=>rfl) (inK [])⟩
 have SHv:∀ys,c_ E w c.K v (.l el ys)->∃D news gx,([]:aA (aF×eQ))=kg D/\App P w u v z te.ks.length ys.length news/\rk E σ w c te b ak ys D news gx:=by intro ys hh;obtain⟨q1,q2⟩:=zL ht hh;exact SH ys q1 q2
 have HP:∀ys,c_ E w c.K v (.l el ys)->(mE E x).val σ=ah (el,ys)->∃D news gx,([]:aA (aF×eQ))=kg D/\App P w u v z te.ks.length ys.length news/\rk E σ w c te b (plain te.ks) ys D news gx:=by
  intro ys hh hr;cases hp:plain te.ks with
  |true=>exact PLr hp ys hr
  |false=>exact SHv ys hh
 have FZ:∀n xs lo hi,σ (c9 n)= .o (.row el ai xs)->n∉b->wO (c.P n) lo hi v->∃D news gx,[(c9 n,eQ.o (.fQ el xs))]=kg D/\App P w u v z te.ks.length (e8 xs lo hi).length news/\rk E σ w c te b ak (e8 xs lo hi) D news gx:=by
  intro n xs lo hi hg KV hv;obtain⟨⟨t2,q1,q2,q3⟩,q4,q5⟩:=cf.obj n _ hg;obtain rfl:te=t2:=aJ (ht.symm.trans q1);obtain⟨t3,r1,r2,r3⟩:=xN cf hg hv;obtain rfl:te=t3:=aJ (ht.symm.trans r1);let D:aA (aF×Obj):=[(n, .fQ el xs)]
  have kin:∀i j,gh xs i j->(c.G n i j).nil=ak->K1 σ c D (c.G n i j).blk:=λi j hh hn=> .inr ⟨n,el,xs,_,aZ.2 rfl,hg, .inr ⟨rfl,i,j,hh,hn,rfl⟩⟩;have gd:jh w (c.P n) xs (λ_ _ u x=>c_ E w (K1 σ c D) u x):=q4.frame (λ_=>rfl) (λi j y x u hy hx hr=>by rw[bz rfl]at hr;exact yq hr (λhl hn=>kin i j ⟨y,x,hy,hx,hl⟩ hn));have DT:oj w v (e8 xs lo hi) te.ks.length (λ_ _ u x=>c_ E w (K1 σ c D) u x):=by have:=LN gd hv;rwa[q2]at this
  obtain⟨news,n1,n2⟩:=rI (P:=P) (z:=z) hu lj DT r2 (λi j u x hr=>hr.one);refine⟨D,news,λ_ _=>⟨ai,0,0,0,0,0⟩,rfl,n1,r2,λh=>(by cases h),λ_=>n2,λh=>(by cases h),λh=>(by cases h),λm y hm=> ?_⟩
  rw[aZ]at hm;cases hm;exact⟨KV,⟨_,hg⟩, .inr ⟨rfl,el,xs,rfl,pY ht q2 q3 gd (λhn=> .inr ⟨n,el,xs,_,aZ.2 rfl,hg, .inl ⟨hn,rfl⟩⟩),q4.n,te,ht,q2⟩⟩
 cases x with
 |s s=>
  obtain⟨h1,h⟩:=cR h;obtain⟨rfl,rfl,rfl⟩:=sK h;have hk:te.ks=[.i .u8]:=by
   unfold u8s at h1;split at h1
   ·assumption
   ·cases h1
  have hv:v= .string s:=hx.1;subst hv;refine⟨[],(s.data.map λb=>Value.int .u8 b.toNat).toList,λ_ _=>⟨ai,0,0,0,0,0⟩,rfl,⟨.inl ⟨hu, ?_, ?_, ?_⟩, ?_, ?_⟩,by rw[hk];exact Jz s,λ_ i y j x hy hx=> ?_,λh=>(by cases h),λ_ i j _ hn=>(by cases hn),λ_ i j _ _ _ _ hn=>(by cases hn),λn x hn=>(by cases hn)⟩
  ·simp[pD,mc]
  ·simp[fy,mc];apply sr;simp
  ·simp[fy,mc];apply sr;simp
  ·rw[hk,mc];simp
  ·intro v hv;have hv:∃b,b∈s.data/\Value.int bf (b.toNat:aw)=v:=by simpa using hv
   obtain⟨b,_,rfl⟩:=hv;rfl
  ·obtain⟨rfl,b,hb,rfl⟩:=Hj hy hx;refine⟨.int .u8 b.toNat, ?_,rfl,trivial⟩
   rw[hk];simp[hb]
 |nl=>obtain⟨rfl,rfl,rfl⟩:=sK h;have hv:v= .slice aj 0 0:=hx;subst hv;refine⟨[],[],λ_ _=>⟨ai,0,0,0,0,0⟩,rfl,⟨.inl ⟨hu,by simp[pD],run_firstCells_none _ _ _ _ _,run_firstCells_none _ _ _ _ _⟩,by simp,λv hv=>(by cases hv)⟩,λy hy=>(by cases hy),λ_ i y j x hy=>(by simp at hy),λh=>(by cases h),λ_ i j _ hn=>(by cases hn),λ_ i j _ _ _ _ hn=>(by cases hn),λn x hn=>(by cases hn)⟩
 |sh e' xs=>obtain⟨h1,h9⟩:=cR h;have:=aU h1;subst this;have h:=h9;obtain⟨rfl,rfl,rfl⟩:=sK h;exact HP xs hx rfl
 |own n=>
  obtain⟨ob,hg,h⟩:=Rd.bind_some h;have hg:=dA hg;have hv:v=lS (c.P n):=hx;cases ob with
  |row e' ex xs=>
   obtain⟨h1,h9⟩:=cR h;have:=aU h1;subst this;have h:=h9;have I8:(mE E (.own n)).val σ=ah (el,xs):=by simp[mE,jL,hg]
   have hvw:wO (c.P n) 0 xs.length v:=by rw[hv];exact wa cf hg
   cases hp:plain te.ks with
   |true=>rw[wQ (by rw[hp];rfl)]at h;obtain⟨rfl,rfl,rfl⟩:=sK h;rw[hp];exact PLr hp xs I8
   |false=>
    cases ex with
    |false=>rw[wQ (by simp)]at h;obtain⟨rfl,rfl,rfl⟩:=sK h;rw[hp];obtain⟨t3,r1,r2,r3⟩:=xN cf hg hvw;obtain rfl:te=t3:=aJ (ht.symm.trans r1);rw[qS]at r2 r3;exact SH xs (r3.imp λi y j x u _ _ hr=>by simpa using hr) r2
    |true=>
     rw[Eu (by rw[hp];rfl)]at h;cases hm:mJ n b with
     |true=>rw[hm]at h;simp at h
     |false=>
      have KV:=qo hm;rw[hm]at h;cases GX:E.tk tF with
      |true=>rw[GX]at h;obtain⟨rfl,rfl,rfl⟩:=sK h;have:=FZ n xs 0 xs.length hg KV hvw;rwa[qS]at this
      |false=>
       rw[GX]at h;obtain⟨rfl,rfl,rfl⟩:=sK h;obtain⟨t3,r1,r2,r3⟩:=xN cf hg hvw;obtain rfl:te=t3:=aJ (ht.symm.trans r1);rw[qS]at r2 r3;have r3':=r3.imp (R':=λi j u x=>XC E w (c.G n) i j u x) (λi y j x u _ _ hr=>by rw[bz rfl,bV]at hr;exact hr);obtain⟨news,n1,n2⟩:=rI (P:=P) (z:=z) hu lj r3' r2 (λi j u x hr=>hr.one);refine⟨[(n, .dead)],news,c.G n,rfl,n1,r2,λ_=>n2,λh=>(by cases h),λ_ i j hh hn=>⟨n,_,aZ.2 rfl,hg, .inr ⟨rfl,i,j,hh,hn,rfl⟩⟩,λ_=>((cf.obj n _ hg).inn rfl).one,λm y hm=> ?_⟩
       rw[aZ]at hm;cases hm;exact⟨KV,⟨_,hg⟩, .inl rfl⟩
  |fQ e' xs=>obtain⟨h1,h9⟩:=cR h;have:=aU h1;subst this;have h:=h9;obtain⟨rfl,rfl,rfl⟩:=sK h;refine HP xs ?_ (by simp[mE,jL,hg]);rw[hv];exact(cf.obj n _ hg).1
  |_=>simp at h
 |vw n lo hi=>
  obtain⟨ob,hg,h⟩:=Rd.bind_some h;have hg:=dA hg;cases ob with
  |row e' ex xs=>
   obtain⟨h1,h9⟩:=cR h;have:=aU h1;subst this;have h:=h9;have I8:(mE E (.vw n lo hi)).val σ=ah (el,e8 xs lo hi):=by simp[mE,jL,hg]
   cases hp:plain te.ks with
   |true=>rw[wQ (by rw[hp];rfl)]at h;obtain⟨rfl,rfl,rfl⟩:=sK h;rw[hp];exact PLr hp _ I8
   |false=>
    cases ex with
    |false=>rw[wQ (by simp)]at h;obtain⟨rfl,rfl,rfl⟩:=sK h;rw[hp];obtain⟨t3,r1,r2,r3⟩:=xN cf hg hx;obtain rfl:te=t3:=aJ (ht.symm.trans r1);exact SH _ (r3.imp λi y j x u _ _ hr=>by simpa using hr) r2
    |true=>
     rw[Eu (by rw[hp];rfl)]at h;cases hm:mJ n b with
     |true=>rw[hm]at h;simp at h
     |false=>
      have KV:=qo hm;rw[hm]at h;cases GX:E.tk tF with
      |true=>rw[GX]at h;obtain⟨rfl,rfl,rfl⟩:=sK h;exact FZ n xs lo hi hg KV hx
      |false=>rw[GX]at h;simp at h
  |fQ e' xs=>obtain⟨h1,h9⟩:=cR h;have:=aU h1;subst this;have h:=h9;obtain⟨rfl,rfl,rfl⟩:=sK h;exact HP _ (pq cf hg hx) (by simp[mE,jL,hg])
  |_=>simp at h
 |inn n i j=>obtain⟨h1,h⟩:=cR h;obtain⟨⟨e',xs⟩,h2,h⟩:=Rd.bind_some h;obtain⟨h3,h9⟩:=cR h;have:=aU h3;subst this;have h:=h9;obtain⟨rfl,rfl,rfl⟩:=sK h;exact PLr h1 xs h2
 |_=>simp[TC]at h
theorem Pq(hE:eB P E)(cf:Ok E σ w c)(dK:fC E σ a w c)(hd:∀d,o.dst=ah d->d<a.tmps.size){cl:Call}(ho:o.op= .call cl)(hb:cl.callee= .builtin .append)(h:(me E nm o).val σ=ah e)(hc:e.cond=ai):gT P E σ a w c o e.ws:=by
 simp only[me,ho,hb]at h;split at h
 ·rename_i s x t u se aeU;obtain⟨ku,h1,h⟩:=Rd.bind_some h;obtain⟨sv,h2,h⟩:=Rd.bind_some h;obtain⟨xv,h3,h⟩:=Rd.bind_some h;obtain⟨es,_⟩:=iY dK h2;obtain⟨ex,_⟩:=iY dK h3;have se:=C4 se;have aeU:=C4 aeU;have exec:∀{r w'},(iu #[t,u] o.type #[a.eval s,a.eval x]).run P w= .ok r w'->(execOp a.eval o).run P w= .ok (.value r) w':=by intro r w' hr;obtain⟨cs,HO⟩:=mS (P:=P) (a:=a) (w:=w) ho hb;rw[HO,se,aeU];simp only[builtin,Du,fB,BI];exact iW hr
  have APP:((∃e',P.underlying u=ah (.slice e'))\/P.underlying u=ah .string)->∀b v wl,(Gq E nm t sv xv).val σ=ah (b,v,wl)->b=ai->gT P E σ a w c o (wl++dw o (.v ak [v])):=by
   intro hu b v wl h hbt;obtain⟨ti,k1,h⟩:=Rd.bind_some h;have k1:=dW k1;split at h
   ·rename_i el uq AO;obtain⟨te,k2,h⟩:=Rd.bind_some h;have k2:=dW k2;obtain⟨zr,h⟩:=cR h;obtain⟨⟨Dh,xs,bl⟩,k3,h⟩:=Rd.bind_some h;obtain⟨⟨AK,ys,w2⟩,k4,h⟩:=Rd.bind_some h;obtain⟨_,k5,h⟩:=Rd.bind_some h;obtain⟨rfl,rfl,rfl⟩:=sK h;obtain⟨hf,jy⟩:=kI k5;have ht:=pe hE k1 uq AO;obtain⟨inf,hi,gf,hby,lj,hz⟩:=hE.info el te k2;obtain⟨z,JY,DV,_⟩:=hz zr;obtain⟨p,g,hB⟩:=BS cf k2 es k3;obtain⟨D,news,gx,rfl,hA,hM⟩:=TD (P:=P) (z:=z.cells) hE cf k2 lj hu ex k4;simp only[cC,aL,bc]at hbt;obtain⟨p',w',hr,hAd⟩:=tN (P:=P) (w:=w) (ty:=o.type) (p:=p) (x:=a.eval x) ht hi JY (by rw[DV,hB.sz];simp) (by rw[gf,hB.sz]) (λhn=>by rw[hB.at_.n,(hB.at_.nil hn).1];rfl) (λhn=>by obtain⟨vals,m1,m2,m3,m4,_⟩:=hB.at_.mem hn;exact⟨vals,m1,m2,m3,m4⟩) (by rw[hB.sz];exact hA) (by rw[hB.at_.n,hby];exact hbt.1) (by rw[hB.at_.n];exact hbt.2);rw[<-hB.v]at hr;exact EH cf dK hd k2 hf jy hB hM hAd (exec hr)
   ·simp at h
  have ZER:∀k,P.underlying u=ah (.int k)->∀(kn:nq) (n:aw),a.eval x= .int kn n->∀b v wl,(VN E nm t sv n).val σ=ah (b,v,wl)->b=ai->gT P E σ a w c o (wl++dw o (.v ak [v])):=by
   intro k hu kn n hxn b v wl h hbt;obtain⟨ti,k1,h⟩:=Rd.bind_some h;have k1:=dW k1;split at h
   ·rename_i el uq AO;obtain⟨te,k2,h⟩:=Rd.bind_some h;have k2:=dW k2;obtain⟨Qk,h⟩:=cR h;simp only[aL]at Qk;obtain⟨zr,M_⟩:=Qk;obtain⟨⟨Dh,xs,bl⟩,k3,h⟩:=Rd.bind_some h;obtain⟨_,k5,h⟩:=Rd.bind_some h;obtain⟨rfl,rfl,rfl⟩:=sK h;obtain⟨hf,jy⟩:=kI k5;have ht:=pe hE k1 uq AO;obtain⟨inf,hi,gf,hby,lj,hz⟩:=hE.info el te k2;obtain⟨z,JY,DV,_⟩:=hz zr;obtain⟨p,g,hB⟩:=BS cf k2 es k3;simp only[cC,aL,bc]at hbt;obtain⟨⟨c0,c1,c2⟩,c3⟩:=hbt;have K2:(aP te.ks n.toNat).length=n.toNat:=by simp[aP]
    have hzc:fL z.cells n.toNat=madeCells (te.ks.map iJ).toArray (n.toNat*te.ks.length):=by rw[DV];show madeCells _ (n.toNat*(te.ks.map iJ).toArray.size)=_;simp
    have hA:App P w u (a.eval x) z.cells te.ks.length (aP te.ks n.toNat).length (fL z.cells n.toNat).toList:=by
     refine⟨.inr ⟨⟨k,hu⟩,⟨kn, ?_⟩, ?_⟩, ?_,λv hv=> ?_⟩
     ·rw[hxn,K2,Int.toNat_of_nonneg c0]
     ·rw[K2]
     ·rw[K2,dR,size_zeroCells,DV];simp
     ·rw[hzc]at hv;obtain⟨q,hq⟩:=bY hv;have Xx:q<n.toNat*te.ks.length:=by have:=(aT.1 hq).1;simpa [size_madeCells]using this
      have h1:q/te.ks.length<n.toNat:=by rw[yu lj];exact Xx
      have h2:q%te.ks.length<te.ks.length:=Df _ lj;have:=lT (n:=n.toNat) h1 (show te.ks[q%te.ks.length]? =ah te.ks[q%te.ks.length]by simp[h2]);rw[show q/te.ks.length*te.ks.length+q%te.ks.length=q by have:=JT q te.ks.length;rw[Ef]at this;exact this]at this;rw[cX,this]at hq;cases hq;cases te.ks[q%te.ks.length]<;>rfl
    have hM:rk E σ w c te bl ai (aP te.ks n.toNat) [] (fL z.cells n.toNat).toList (Ld E te.ks):=by
     refine⟨yr zr _,λ_ i y j x hy hx=> ?_,λh=>(by cases h),λ_ i j _ hn=>(by cases hn),λ_ i j _ _ _ _ hn=>(by cases hn),λn x hn=>(by cases hn)⟩
     obtain⟨gq,k,hk,rfl⟩:=uH hy hx;refine⟨iJ k, ?_,Og M_ zr hk⟩
     rw[hzc,cX];exact lT gq hk
    obtain⟨p',w',hr,hAd⟩:=tN (P:=P) (w:=w) (ty:=o.type) (p:=p) (x:=a.eval x) ht hi JY (by rw[DV,hB.sz];simp) (by rw[gf,hB.sz]) (λhn=>by rw[hB.at_.n,(hB.at_.nil hn).1];rfl) (λhn=>by obtain⟨vals,m1,m2,m3,m4,_⟩:=hB.at_.mem hn;exact⟨vals,m1,m2,m3,m4⟩) (by rw[hB.sz];exact hA) (by rw[hB.at_.n,hby,K2];exact c1) (by rw[hB.at_.n,K2];exact c2);rw[<-hB.v]at hr;have:=EH cf dK hd k2 hf jy hB hM hAd (exec hr);rw[j4]at this;exact this
   ·simp at h
  cases ku with
  |i k=>
   cases xv with
   |i k' n=>obtain⟨⟨b,v,wl⟩,h4,h⟩:=Rd.bind_some h;obtain rfl:=aJ h;exact ZER k (zv hE h1) k' n ex b v wl h4 hc
   |_=>simp at h
  |l e'=>obtain⟨⟨b,v,wl⟩,h4,h⟩:=Rd.bind_some h;obtain rfl:=aJ h;exact APP (.inl ⟨e',kL hE h1⟩) b v wl h4 hc
  |s=>obtain⟨⟨b,v,wl⟩,h4,h⟩:=Rd.bind_some h;obtain rfl:=aJ h;exact APP (.inr (ll hE h1)) b v wl h4 hc
  |b=>simp at h
  |o=>simp at h
 ·simp at h
end
end Go.FG

namespace Go.FG
section
variable {P:c5} {E:fO} {σ:St} {a:Act} {w:bM} {c:e9} {o:fA} {nm:aF} {e:sR}
theorem W2:∀{xs:aA AV} {cs:aA CV},(R6.aea xs).val σ=ah cs->cs.length=xs.length/\∀(vals:dt bk),fX E w c vals xs->∀(q:aF) (x:CV),cs[q]? =ah x->∃u:bk,vals[q]? =ah u/\c_ E w c.K u x:=by
 intro xs;induction xs with
 |nil=>intro cs h;obtain rfl:=aJ h;exact⟨rfl,λ_ _ q x hq=>by simp at hq⟩
 |cons a xs ih=>
  intro cs h;obtain⟨l,h1,h⟩:=Rd.bind_some h;obtain⟨i1,i2⟩:=ih h1;have main:∀cv,(∀u,eG E w c a u->c_ E w c.K u cv)->cs=cv::l->cs.length=(a::xs).length/\∀(vals:dt bk),fX E w c vals (a::xs)->∀(q:aF) (x:CV),cs[q]? =ah x->∃u:bk,vals[q]? =ah u/\c_ E w c.K u x:=by
   rintro cv hcv rfl;refine⟨by simp[i1],λvals hv q x hq=> ?_⟩
   cases q with
   |zero=>cases hq;obtain⟨u,hu,ha⟩:=hv.2 0 a rfl;exact⟨u,hu,hcv u ha⟩
   |succ q=>
    have Nd:fX E w c (vals.extract 1 vals.size) xs:=by
     refine⟨by simp;have:=hv.1;simp at this;omega,λj b hj=> ?_⟩
     obtain⟨u,hu,hb⟩:=hv.2 (j+1) b hj;refine⟨u, ?_,hb⟩
     have:=(dU.1 hu).1;rw[ea,bz (by omega),iZ];exact hu
    obtain⟨u,r1,r2⟩:=i2 _ Nd q x hq;refine⟨u, ?_,r2⟩
    rw[ea]at r1;split at r1
    ·rw[iZ];exact r1
    ·cases r1
  cases a with
  |i k n=>exact main (.i k n) (λu hu=>by rw[show u=_ from hu];exact .i _ _) (aJ h).symm
  |b x=>exact main (.b x) (λu hu=>by rw[show u=_ from hu];exact .b _) (aJ h).symm
  |s x=>exact main (.s x) (λu hu=>by rw[show u=_ from hu.1];exact .s _ hu.2) (aJ h).symm
  |sh e xs=>exact main (.l e xs) (λu hu=>hu) (aJ h).symm
  |_=>simp at h
def ag5(E:fO)(σ:St)(w:bM)(c:e9)(D:aA (aF×Obj))(cs:aA CV)(v:bk):Prop:=
 ∃n,v= .pointer (ah (ad (c.P n).blk 0))/\(((n,Obj.n9 cs)∈D)\/σ (c9 n)= .o (.n9 cs))
theorem W3(cf:Ok E σ w c)(dK:fC E σ a w c):∀{xs:aA dz} {l:aA (aA CV)} {ws:aA (aF×eQ)},(R6 xs).val σ=ah (l,ws)->l.length=xs.length/\∃D,ws=kg D/\
  (∀n x,(n,x)∈D->∃cs ys,x= .n9 cs/\σ (c9 n)= .o (.box ys)/\∀(q:aF) (y:CV),cs[q]? =ah y->∃u:bk,w.cell? (ad (c.P n).blk q)=ah u/\c_ E w c.K u y)/\
  ∀(q:aF) (cs:aA CV),l[q]? =ah cs->∃x,xs[q]? =ah x/\ag5 E σ w c D cs (a.eval x):=by
 intro xs;induction xs with
 |nil=>intro l ws h;obtain⟨rfl,rfl⟩:=bW (aJ h);exact⟨rfl,[],rfl,λn x h=>(by cases h),λq cs h=>by simp at h⟩
 |cons x xs ih=>
  intro l ws h;obtain⟨v,h1,h⟩:=Rd.bind_some h;have hv:=(iY dK h1).1;split at h
  ·rename_i n;obtain⟨ob,hg,h⟩:=Rd.bind_some h;have hg:=dA hg;have hv:a.eval x= .pointer (ah (ad (c.P n).blk 0)):=hv;cases ob with
   |box ys=>
    obtain⟨cs,h2,h⟩:=Rd.bind_some h;obtain⟨⟨l',D6⟩,h3,h⟩:=Rd.bind_some h;obtain⟨rfl,rfl⟩:=bW (aJ h);obtain⟨i1,D,rfl,i2,i3⟩:=ih h3;obtain⟨_,c2⟩:=W2 (E:=E) (w:=w) (c:=c) h2;obtain⟨vals,hb,gf,hcv⟩:=cf.obj n _ hg;refine⟨by simp[i1],(n, .n9 cs)::D,rfl,λm y hm=> ?_,λq cs' hq=> ?_⟩
    ·rcases cy.1 hm with hm|hm
     ·cases hm;refine⟨cs,ys,rfl,hg,λq y hq=> ?_⟩
      obtain⟨u,hu,hh⟩:=c2 vals ⟨gf,hcv⟩ q y hq;exact⟨u,(hb.cell q).trans hu,hh⟩
     ·exact i2 m y hm
    ·cases q with
     |zero=>cases hq;exact⟨x,rfl,n,hv, .inl (dn ..)⟩
     |succ q=>obtain⟨x',pF,m,e1,e2⟩:=i3 q cs' hq;exact⟨x',pF,m,e1,e2.imp (c7 _) id⟩
   |n9 cs=>
    obtain⟨⟨l',D6⟩,h3,h⟩:=Rd.bind_some h;obtain⟨rfl,rfl⟩:=bW (aJ h);obtain⟨i1,D,rfl,i2,i3⟩:=ih h3;refine⟨by simp[i1],D,rfl,i2,λq cs' hq=> ?_⟩
    cases q with
    |zero=>cases hq;exact⟨x,rfl,n,hv, .inr hg⟩
    |succ q=>exact i3 q cs' hq
   |_=>simp at h
  ·simp at h
theorem Jq(cf:Ok E σ w c)(dK:fC E σ a w c)(hd:∀d,o.dst=ah d->d<a.tmps.size){fn:Fn}{first iT:dt dz}(ho:o.op= .makeFunc fn first iT)(h:(me E nm o).val σ=ah e):gT P E σ a w c o e.ws:=by
 cases fn with
 |func f=>
  simp only[me,ho]at h;obtain⟨h1,h⟩:=cR h;obtain⟨⟨l,ws⟩,h2,h⟩:=Rd.bind_some h;obtain rfl:=aJ h;obtain⟨hl,D,rfl,hD,OX⟩:=W3 cf dK h2;have JW:first= #[]:=by simpa using h1
  let K':aF->Prop:=λb=>c.K b\/∃n x,(n,x)∈D/\b=(c.P n).blk;let c':e9:=⟨c.P,c.G,K'⟩
  have kin:∀b,c.K b->K' b:=λb h=> .inl h;have own:∀n x,(n,x)∈D->j5 (uK D) σ c (c.P n).blk:=λn x hm=>by obtain⟨cs,ys,_,hg,_⟩:=hD n x hm;exact⟨n,_,⟨x,hm⟩,hg,rfl⟩
  have fb:∀n cs,(n,Obj.n9 cs)∈D->FB E w K' (c.P n).blk cs:=λn cs hm=>by obtain⟨cs',ys,hx,hg,hc⟩:=hD n _ hm;cases hx;exact⟨.inr ⟨n,_,hm,rfl⟩,λq x hq=>by obtain⟨u,hu,hh⟩:=hc q x hq;exact⟨u,hu,hh.frame (λ_ _=>rfl) kin⟩⟩
  refine KL cf dK hd (c':=c') (w':=w) (v:= .func (.func f) #[] (iT.map a.eval)) (λm _=>⟨rfl,rfl⟩) ?_ ?_ ?_ ?_ kin ?_ ?_ (λb _ _=>rfl) (cD _) rfl rfl rfl ?_ ?_ ?_
  ·intro n x hm;obtain⟨cs,ys,rfl,hg,hc⟩:=hD n x hm;exact fb n cs hm
  ·intro n x b hm hf;obtain⟨cs,ys,rfl,_⟩:=hD n x hm;exact hf.elim
  ·intro n x n' x' b hm _ hf;obtain⟨cs,ys,rfl,_⟩:=hD n x hm;exact hf.elim
  ·intro n xs hm;obtain⟨cs,ys,hx,_⟩:=hD n _ hm;cases hx
  ·rintro b (h|⟨n,x,hm,rfl⟩)
   ·exact .inl h
   ·exact .inr (.inl (own n x hm))
  ·rintro b (h|⟨n,x,hm,rfl⟩)
   ·exact cf.lt b h
   ·exact wB.lt cf (own n x hm).own
  ·refine⟨iT.map a.eval,rfl,by simp[hl],λq cs hq=> ?_⟩
   obtain⟨x,hx,n,hv,hor⟩:=OX q cs hq;rw[cX]at hx;refine⟨(c.P n).blk,by rw[Oi,hx,<-hv];rfl, ?_⟩
   rcases hor with hm|hg
   ·exact fb n cs hm
   ·exact FB.frame (cf.obj n _ hg) (λ_ _=>rfl) kin
  ·intro n hn;simp[cM,bQ]at hn
  ·unfold execOp;rw[ho,JW];refine iW (s:=VR (.func f) ((#[]:dt dz).map a.eval) (iT.map a.eval)) ?_;simp[VR]
 |_=>simp[me,ho]at h
end
end Go.FG

namespace Go.FG
theorem nU:∀{l:aA (aF×eQ)} {k:aF} {c:eQ},fK l k=c->c≠ .jZ->(k,c)∈l:=by
 intro l;induction l with
 |nil=>intro k c h hc;exact cJ h.symm hc
 |cons d l ih=>
  obtain⟨k',c'⟩:=d;intro k c h hc;unfold fK at h;cases hb:bC k k' with
  |true=>rw[hb]at h;have:=aU hb;subst this;have:c'=c:=h;subst this;exact dn ..
  |false=>rw[hb]at h;exact c7 _ (ih h hc)
theorem rZ:∀{l:aA (aF×eQ)} {k:aF} {c:eQ},(k,c)∈l->(∀d∈l,d.2≠ .jZ)->fK l k≠ .jZ:=by
 intro l;induction l with
 |nil=>intro k c h;cases h
 |cons d l ih=>
  obtain⟨k',c'⟩:=d;intro k c h hn;unfold fK;cases hb:bC k k' with
  |true=>exact hn _ (dn ..)
  |false=>
   rcases cy.1 h with h|h
   ·cases h;simp at hb
   ·exact ih h (λd hd=>hn d (c7 _ hd))
theorem Pn{nm:aF}{a:AA}{k:aF}{c:eQ}:(k,c)∈EM nm a↔∃e ex xs,a= .ow e ex xs/\k=c9 nm/\c= .o (.row e ex xs):=by
 cases a with
 |ow e ex xs=>simp only[EM,aZ,jf];exact⟨λ⟨h1,h2⟩=>⟨e,ex,xs,rfl,h1,h2⟩,λ⟨e',uo,LY,h,h1,h2⟩=>by cases h;exact⟨h1,h2⟩⟩
 |_=>simp[EM]
theorem Cq:∀{xs:aA AA} {nm:aF} {k:aF} {c:eQ},(k,c)∈tw nm xs↔∃j e ex ys,xs[j]? =ah (.ow e ex ys)/\k=c9 (nm+j)/\c= .o (.row e ex ys):=by
 intro xs;induction xs with
 |nil=>intro nm k c;simp[tw]
 |cons a xs ih=>
  intro nm k c;simp only[tw,ba,Pn,ih];constructor
  ·rintro (⟨e,ex,ys,rfl,h1,h2⟩|⟨j,e,ex,ys,h0,h1,h2⟩)
   ·exact⟨0,e,ex,ys,rfl,h1,h2⟩
   ·exact⟨j+1,e,ex,ys,h0,by rw[h1];congr 1;omega,h2⟩
  ·rintro ⟨j,e,ex,ys,h0,h1,h2⟩;cases j with
   |zero=>cases h0;exact .inl ⟨e,ex,ys,rfl,h1,h2⟩
   |succ j=>exact .inr ⟨j,e,ex,ys,h0,by rw[h1];congr 1;omega,h2⟩
theorem iy{p:aF}{a:fj}{k:aF}{c:eQ}:(k,c)∈vj p a↔(∃xs,a= .pt xs/\k=c9 (dS p 900)/\c= .o (.box (gu (dS p 0) xs)))\/∃xs j e ex ys,((∃g,a= .v g xs)\/a= .pt xs)/\xs[j]? =ah (.ow e ex ys)/\k=c9 (dS p j)/\c= .o (.row e ex ys):=by
 have hn:∀j,dS p 0+j=dS p j:=λj=>by unfold dS;omega
 cases a with
 |v g xs=>
  simp only[vj,Cq,hn];constructor
  ·rintro ⟨j,e,ex,ys,h⟩;exact .inr ⟨xs,j,e,ex,ys, .inl ⟨g,rfl⟩,h⟩
  ·rintro (⟨LY,h,_⟩|⟨LY,j,e,ex,ys,h,h'⟩)
   ·cases h
   ·rcases h with ⟨g',h⟩|h<;>cases h;exact⟨j,e,ex,ys,h'⟩
 |pt xs=>
  simp only[vj,cy,Cq,hn,jf];constructor
  ·rintro (⟨h1,h2⟩|⟨j,e,ex,ys,h⟩)
   ·exact .inl ⟨xs,rfl,h1,h2⟩
   ·exact .inr ⟨xs,j,e,ex,ys, .inr rfl,h⟩
  ·rintro (⟨LY,h,h1,h2⟩|⟨LY,j,e,ex,ys,h,h'⟩)
   ·cases h;exact .inl ⟨h1,h2⟩
   ·rcases h with ⟨g',h⟩|h<;>cases h;exact .inr ⟨j,e,ex,ys,h'⟩
 |fb xs=>
  simp only[vj,gA,false_iff];rintro (⟨LY,h,_⟩|⟨LY,j,e,ex,ys,h,h'⟩)
  ·cases h
  ·rcases h with ⟨g',h⟩|h<;>cases h
theorem lU:∀{l:aA fj} {q:aF} {k:aF} {c:eQ},(k,c)∈K3 q l↔∃p a,l[p]? =ah a/\((k=qq (q+p)/\c= .v (tz (q+p) a))\/(k,c)∈vj (q+p) a):=by
 intro l;induction l with
 |nil=>intro q k c;simp[K3]
 |cons a l ih=>
  intro q k c;simp only[K3,cy,ba,ih,jf];constructor
  ·rintro ((⟨h1,h2⟩|h)|⟨p,b,h0,h⟩)
   ·exact⟨0,a,rfl, .inl ⟨h1,h2⟩⟩
   ·exact⟨0,a,rfl, .inr h⟩
   ·exact⟨p+1,b,h0,by rw[show q+(p+1)=q+1+p by omega];exact h⟩
  ·rintro ⟨p,b,h0,h⟩;cases p with
   |zero=>
    cases h0;rcases h with ⟨h1,h2⟩|h
    ·exact .inl (.inl ⟨h1,h2⟩)
    ·exact .inl (.inr h)
   |succ p=>exact .inr (⟨p,b,h0,by rw[show q+1+p=q+(p+1)by omega];exact h⟩)
theorem Ja{l:aA fj}{q:aF}:∀d∈K3 q l,d.2≠ .jZ:=by
 rintro ⟨k,c⟩ h;obtain⟨p,a,_,h⟩:=lU.1 h;rcases h with ⟨_,h⟩|h
 ·rw[h];simp
 ·rcases iy.1 h with ⟨_,_,_,h⟩|⟨_,_,_,_,_,_,_,_,h⟩<;>rw[h]<;>simp
theorem Bh{args:aA fj}{m:aF}{ob:Obj}(h:inj args (c9 m)= .o ob):∃p a,args[p]? =ah a/\((∃xs,a= .pt xs/\m=dS p 900/\ob= .box (gu (dS p 0) xs))\/∃xs j e ex ys,((∃g,a= .v g xs)\/a= .pt xs)/\xs[j]? =ah (.ow e ex ys)/\m=dS p j/\ob= .row e ex ys):=by
 obtain⟨p,a,h0,h⟩:=lU.1 (nU h (by simp));rw[bV]at h;refine⟨p,a,h0, ?_⟩
 rcases h with ⟨h,_⟩|h
 ·exact cJ h (mq _ _)
 ·rcases iy.1 h with ⟨xs,h1,h2,h3⟩|⟨xs,j,e,ex,ys,h1,h2,h3,h4⟩
  ·cases h3;exact .inl ⟨xs,h1,jU h2,rfl⟩
  ·cases h4;exact .inr ⟨xs,j,e,ex,ys,h1,h2,jU h3,rfl⟩
theorem Jc{args:aA fj}{n:aF}:(∃a,args[n]? =ah a/\slot (inj args) n=tz n a)\/slot (inj args) n= .un:=by
 unfold slot;cases h:inj args (qq n)with
 |v x=>
  obtain⟨p,a,h0,h⟩:=lU.1 (nU h (by simp));rw[bV]at h;rcases h with ⟨h1,h2⟩|h
  ·have:=Hp h1;subst this;cases h2;exact .inl ⟨a,h0,rfl⟩
  ·rcases iy.1 h with ⟨_,_,h,_⟩|⟨_,_,_,_,_,_,_,h,_⟩<;>exact cJ h (rX _ _)
 |o=>exact .inr rfl
 |jZ=>exact .inr rfl
theorem qK{args:aA fj}{p:aF}{a:fj}(h:args[p]? =ah a):(∀xs,a= .pt xs->inj args (c9 (dS p 900))≠ .jZ)/\∀xs j e ex ys,((∃g,a= .v g xs)\/a= .pt xs)->xs[j]? =ah (.ow e ex ys)->inj args (c9 (dS p j))≠ .jZ:=by
 constructor
 ·intro xs hx;exact rZ (lU.2 ⟨p,a,h, .inr (iy.2 (.inl ⟨xs,hx,by rw[bV],rfl⟩))⟩) Ja
 ·intro xs j e ex ys hx hj;exact rZ (lU.2 ⟨p,a,h, .inr (iy.2 (.inr ⟨xs,j,e,ex,ys,hx,hj,by rw[bV],rfl⟩))⟩) Ja
theorem iB:∀{xs:aA AA} {nm j:aF},(gu nm xs)[j]? =(xs[j]?).map (lB (nm+j)):=by
 intro xs;induction xs with
 |nil=>intro nm j;simp[gu]
 |cons a xs ih=>
  intro nm j;cases j with
  |zero=>rfl
  |succ j=>simp only[gu,dO,ih];congr 2;omega
theorem iS:∀{xs:aA AA} {nm:aF},(gu nm xs).length=xs.length:=by
 intro xs;induction xs with
 |nil=>intro nm;rfl
 |cons a xs ih=>intro nm;simp[gu,ih]
theorem tE{nm:aF}{a:AA}{n:aF}(h:n∈bQ (lB nm a)):n=nm/\∃e ex ys,a= .ow e ex ys:=by cases a<;>simp[lB,bQ]at h;exact⟨h,_,_,_,rfl⟩
theorem Jb{args:aA fj}(n:aF):mO (inj args) (slot (inj args) n):=by
 rcases Jc (args:=args) (n:=n)with ⟨a,h0,h⟩|h
 ·rw[h];intro m hm;have cells:∀xs,((∃g,a= .v g xs)\/a= .pt xs)->m∈(gu (dS n 0) xs).flatMap bQ->inj args (c9 m)≠ .jZ:=by
   intro xs hx hm;obtain⟨v,hv,hm⟩:=bP.1 hm;obtain⟨j,hj⟩:=bY hv;rw[iB]at hj;cases hy:xs[j]? with
   |none=>rw[hy]at hj;cases hj
   |some y=>
    rw[hy]at hj;cases hj;obtain⟨rfl,e,ex,ys,rfl⟩:=tE hm;have:=(qK h0).2 xs j e ex ys hx hy;have hn:dS n 0+j=dS n j:=by unfold dS;omega
    rw[hn];exact this
  cases a with
  |v g xs=>exact cells xs (.inl ⟨g,rfl⟩) hm
  |pt xs=>
   have:m=dS n 900:=by simpa [tz,cM,bQ]using hm
   rw[this];exact(qK h0).1 xs rfl
  |fb xs=>simp[tz,cM,bQ]at hm
 ·rw[h];intro m hm;simp[cM]at hm
theorem GY{args:aA fj}{nm:aF}{xs:aA AV}(h:inj args (c9 nm)= .o (.box xs)):∀a∈xs,jg (inj args) a:=by
 obtain⟨p,a,h0,hh⟩:=Bh h;rcases hh with ⟨ys,rfl,_,hb⟩|⟨_,_,_,_,_,_,_,_,hb⟩
 ·cases hb;intro v hv m hm;obtain⟨j,hj⟩:=bY hv;rw[iB]at hj;cases hy:ys[j]? with
  |none=>rw[hy]at hj;cases hj
  |some y=>
   rw[hy]at hj;cases hj;obtain⟨rfl,e,ex,zs,rfl⟩:=tE hm;have:=(qK h0).2 ys j e ex zs (.inr rfl) hy;have hn:dS p 0+j=dS p j:=by unfold dS;omega
   rw[hn];exact this
 ·cases hb
end Go.FG

namespace Go.FG
theorem uz{p j:aF}(h:j<1000):(dS p j-900000000)/1000=p/\(dS p j-900000000)%1000=j:=by unfold dS;omega
theorem Cx(p j:aF):900000000<=dS p j:=by unfold dS;omega
theorem uA{p j p' j':aF}(h:j<1000)(h':j'<1000)(e:dS p j=dS p' j'):p=p'/\j=j':=by unfold dS at e;omega
section
variable {P:c5} {E:fO} {σ:St} {a:Act} {w:bM} {c:e9} {o:fA} {nm:aF} {e:sR}
theorem rW(cf:Ok E σ w c){n el:aF}{ex:aW}{xs:aQ}(hg:σ (c9 n)= .o (.row el ex xs)){K:aF->Prop}(hK:∀b,c.K b->K b)(hF:∀b,fJ c n (.row el ex xs) b->K b):c_ E w K (lS (c.P n)) (.l el xs):=by
 obtain⟨⟨t2,q1,q2,q3⟩,q4,q5⟩:=cf.obj n _ hg;refine pY q1 q2 q3 (q4.frame (λ_=>rfl) (λi j y x u hy hx hr=> ?_)) (λhn=>hF _ (.inl ⟨hn,rfl⟩));split at hr
 ·rename_i pF;exact yq hr (λhl hn=>hF _ (.inr ⟨pF,i,j,⟨y,x,hy,hx,hl⟩,hn,rfl⟩))
 ·exact hr.frame (λ_ _=>rfl) hK
theorem E_(cf:Ok E σ w c){n el:aF}{ex:aW}{xs:aQ}(hg:σ (c9 n)= .o (.row el ex xs)){K:aF->Prop}(hK:∀b,c.K b->K b)(hF:∀b,fJ c n (.row el ex xs) b->K b){lo hi:aF}{v:bk}(hv:wO (c.P n) lo hi v):c_ E w K v (.l el (e8 xs lo hi)):=by obtain⟨⟨t2,q1,q2,q3⟩,q4,q5⟩:=cf.obj n _ hg;exact I6 q1 (rW cf hg hK hF) q4.n q2 hv
def K1r(σ:St)(c:e9)(nI:aA aF)(b:aF):Prop:=c.K b\/∃n∈nI,∃o,σ (c9 n)= .o o/\fJ c n o b
def vI(T:Tab)(σ:St)(w:bM)(c:e9)(nI:aA aF)(k:Pk)(u:bk):Prop:=
 match k.src with
 | .own nm e ex=>∃xs,σ (c9 nm)= .o (.row e ex xs)/\k.a= .ow e ex xs/\u=lS (c.P nm)
 | .no=>(∀c1:e9,(∀b,K1r σ c nI b->c1.K b)->∀nm,eG T w c1 (lB nm k.a) u)/\∀e ex xs,k.a≠ .ow e ex xs
theorem vI.mono{T:Tab}{nI Ux:aA aF}{k:Pk}{u:bk}(h:vI T σ w c nI k u)(hs:∀n∈nI,n∈Ux):vI T σ w c Ux k u:=by
 unfold vI at h⊢;split
 ·rename_i hk;rw[hk]at h;exact h
 ·rename_i hk;rw[hk]at h;exact⟨λc1 h1=>h.1 c1 (λb hb=>h1 b (hb.imp id (λ⟨n,hn,hh⟩=>⟨n,hs n hn,hh⟩))),h.2⟩
theorem CH(cf:Ok E σ w c){mt:aW}{x:AV}{k:Pk}{u:bk}(h:(Af E mt x).val σ=ah k)(hx:eG E w c x u):vI E σ w c k.rd k u:=by
 have rd:∀{n el:aF} {ex:aW} {xs:aQ},σ (c9 n)= .o (.row el ex xs)->∀c1:e9,(∀b,K1r σ c [n] b->c1.K b)->(∀b,c.K b->c1.K b)/\∀b,fJ c n (.row el ex xs) b->c1.K b:=λhg c1 h=>⟨λb hb=>h b (.inl hb),λb hb=>h b (.inr ⟨_,aZ.2 rfl,_,hg,hb⟩)⟩
 cases x with
 |i=>obtain rfl:=aJ h;exact⟨λc1 _ _=>hx,λ_ _ _ hh=>by cases hh⟩
 |b=>obtain rfl:=aJ h;exact⟨λc1 _ _=>hx,λ_ _ _ hh=>by cases hh⟩
 |s=>obtain rfl:=aJ h;exact⟨λc1 _ _=>hx,λ_ _ _ hh=>by cases hh⟩
 |nl=>obtain rfl:=aJ h;exact⟨λc1 _ _=>hx,λ_ _ _ hh=>by cases hh⟩
 |sh e xs=>obtain rfl:=aJ h;exact⟨λc1 h1 _=>c_.frame hx (λ_ _=>rfl) (λb hb=>h1 b (.inl hb)),λ_ _ _ hh=>by cases hh⟩
 |fn f iT=>obtain rfl:=aJ h;exact⟨λc1 h1 _=>eG.frame (a:= .fn f iT) hx (λ_ _=>rfl) (λb hb=>h1 b (.inl hb)) (λn hn=>by simp[bQ]at hn),λ_ _ _ hh=>by cases hh⟩
 |own n=>
  obtain⟨ob,hg,h⟩:=Rd.bind_some h;have hg:=dA hg;have hx:u=lS (c.P n):=hx;cases ob with
  |row el ex xs=>
   cases mt with
   |true=>obtain rfl:=aJ h;exact⟨xs,hg,rfl,hx⟩
   |false=>
    obtain rfl:=aJ h;refine⟨λc1 h1 _=> ?_,λ_ _ _ hh=>by cases hh⟩
    obtain⟨r1,r2⟩:=rd hg c1 h1;rw[hx];exact rW cf hg r1 r2
  |fQ el xs=>
   obtain rfl:=aJ h;refine⟨λc1 h1 _=> ?_,λ_ _ _ hh=>by cases hh⟩
   rw[hx];exact c_.frame (cf.obj n _ hg).1 (λ_ _=>rfl) (λb hb=>h1 b (.inl hb))
  |_=>simp at h
 |vw n lo hi=>
  cases mt with
  |true=>simp[Af]at h
  |false=>
  obtain⟨ob,hg,h⟩:=Rd.bind_some h;have hg:=dA hg;cases ob with
  |row el ex xs=>
   obtain rfl:=aJ h;refine⟨λc1 h1 _=> ?_,λ_ _ _ hh=>by cases hh⟩
   obtain⟨r1,r2⟩:=rd hg c1 h1;exact E_ cf hg r1 r2 hx
  |fQ el xs=>
   obtain rfl:=aJ h;refine⟨λc1 h1 _=> ?_,λ_ _ _ hh=>by cases hh⟩
   exact c_.frame (pq cf hg hx) (λ_ _=>rfl) (λb hb=>h1 b (.inl hb))
  |_=>simp at h
 |inn n i j=>
  obtain⟨ob,hg,h⟩:=Rd.bind_some h;have hg:=dA hg;cases ob with
  |row el ex xs=>
   cases ex with
   |false=>simp at h
   |true=>
   obtain⟨te,ht,h⟩:=Rd.bind_some h;have ht:=dW ht;split at h
   ·rename_i e2 Aa;obtain⟨t2,GW,h⟩:=Rd.bind_some h;obtain⟨_,h⟩:=cR h;obtain rfl:=aJ h;obtain⟨⟨hi,hx⟩,_⟩:=hx;obtain⟨zs,y,t3,q1,q2,q3,q4,q5,q6,q7,q8⟩:=Bi cf hg ht Aa hi;refine⟨λc1 h1 _=> ?_,λ_ _ _ hh=>by cases hh⟩
    show c_ E w c1.K u (.l e2 (jv (ar xs i j)));rw[fE q1 q2,hx];obtain⟨r1,r2⟩:=rd hg c1 h1;exact pY q3 q5 q6 (q7.frame (λ_=>rfl) (λi' j' y' x' u' hy' pF hr=>kQ (iq q4 (q6 y' (aR hy')) pF) hr)) (λhn=>r2 _ (.inr ⟨rfl,i,j,⟨y,_,q1,q2,rfl⟩,hn,rfl⟩))
   ·simp at h
  |_=>simp at h
 |_=>simp[Af]at h
theorem EZ(cf:Ok E σ w c){mt:aW}:∀{xs:aA AV} {l:aA Pk},(CI E mt xs).val σ=ah l->l.length=xs.length/\∀(j:aF) (k:Pk),l[j]? =ah k->∃x,xs[j]? =ah x/\(Af E mt x).val σ=ah k:=by
 intro xs;induction xs with
 |nil=>intro l h;obtain rfl:=aJ h;exact⟨rfl,λj k h=>by simp at h⟩
 |cons x xs ih=>
  intro l h;obtain⟨k,h1,h⟩:=Rd.bind_some h;obtain⟨l',h2,h⟩:=Rd.bind_some h;obtain rfl:=aJ h;obtain⟨i1,i2⟩:=ih h2;refine⟨by simp[i1],λj k' hj=> ?_⟩
  cases j with
  |zero=>cases hj;exact⟨x,rfl,h1⟩
  |succ j=>exact i2 j k' hj
structure Au (T:Tab) (σ:St) (w:bM) (c:e9) (nI:aA aF) (pa:Pa) (v:bk):Prop where
 len:pa.cs.length<=100
 val:pa.box=aj->∃agg,pa.arg= .v agg (pa.cs.map (·.a))/\((agg=ak/\∃k,pa.cs=[k]/\vI T σ w c nI k v)\/(agg=ai/\∃vals:dt bk,v= .agg vals/\vals.size=pa.cs.length/\∀(j:aF) (k:Pk),pa.cs[j]? =ah k->∃u:bk,vals[j]? =ah u/\vI T σ w c nI k u))
 box:∀n xs,pa.box=ah (n,xs)->pa.arg= .pt (pa.cs.map (·.a))/\v= .pointer (ah (ad (c.P n).blk 0))/\σ (c9 n)= .o (.box xs)/\pa.cs.length=xs.length/\
  (∃vals,nW w (c.P n).blk vals/\vals.size=xs.length/\∀(j:aF) (k:Pk),pa.cs[j]? =ah k->∃u:bk,vals[j]? =ah u/\vI T σ w c nI k u)/\
  ∀(j:aF) (k:Pk) (nm e:aF) (ex:aW),pa.cs[j]? =ah k->k.src= .own nm e ex->xs[j]? =ah (.own nm)
theorem G7{pa:Pa}{j:aF}{k:Pk}(h:pa.cs[j]? =ah k):∀n∈k.rd,n∈pa.nI:=λn hn=>bP.2 ⟨k,aR h,hn⟩
theorem Pz{mt:aW}{x:AV}{k:Pk}(h:(Af E mt x).val σ=ah k){nm e:aF}{ex:aW}(hs:k.src= .own nm e ex):x= .own nm:=by
 cases x with
 |own n=>
  obtain⟨ob,hg,h⟩:=Rd.bind_some h;cases ob with
  |row el uo xs=>
   cases mt with
   |true=>obtain rfl:=aJ h;cases hs;rfl
   |false=>obtain rfl:=aJ h;cases hs
  |fQ el xs=>obtain rfl:=aJ h;cases hs
  |_=>simp at h
 |vw n lo hi=>
  cases mt with
  |true=>simp[Af]at h
  |false=>
  obtain⟨ob,hg,h⟩:=Rd.bind_some h;cases ob with
  |row=>obtain rfl:=aJ h;cases hs
  |fQ=>obtain rfl:=aJ h;cases hs
  |_=>simp at h
 |inn n i j=>
  obtain⟨ob,hg,h⟩:=Rd.bind_some h;cases ob with
  |row el ex xs=>
   cases ex with
   |false=>simp at h
   |true=>
   obtain⟨te,ht,h⟩:=Rd.bind_some h;split at h
   ·obtain⟨t2,GW,h⟩:=Rd.bind_some h;obtain⟨_,h⟩:=cR h;obtain rfl:=aJ h;cases hs
   ·simp at h
  |_=>simp at h
 |i=>obtain rfl:=aJ h;cases hs
 |b=>obtain rfl:=aJ h;cases hs
 |s=>obtain rfl:=aJ h;cases hs
 |nl=>obtain rfl:=aJ h;cases hs
 |sh=>obtain rfl:=aJ h;cases hs
 |fn=>obtain rfl:=aJ h;cases hs
 |_=>simp[Af]at h
theorem WW(cf:Ok E σ w c){mt:aW}{x:SV}{pa:Pa}{v:bk}(h:(ad4 E mt x).val σ=ah pa)(hl:pa.cs.length<=100)(hx:ji E w c x v):Au E σ w c pa.nI pa v:=by
 have gen:∀agg xs,x= .v agg xs->((CI E mt xs).bind λl=>Rd.ret (⟨.v agg (l.map (·.a)),aj,l⟩:Pa)).val σ=ah pa->Au E σ w c pa.nI pa v:=by
  rintro agg xs rfl h;obtain⟨l,h1,h⟩:=Rd.bind_some h;obtain rfl:=aJ h;obtain⟨i1,i2⟩:=EZ cf h1;refine⟨hl,λ_=>⟨agg,rfl, ?_⟩,λn ys hb=>by cases hb⟩
  replace hx:qj E w c agg xs v:=hx;unfold qj at hx;split at hx
  ·rename_i y;left;obtain⟨k,rfl⟩:=gU.1 (i1.trans rfl);obtain⟨y',hy,hk⟩:=i2 0 k rfl;cases hy;exact⟨rfl,k,rfl,(CH cf hk hx).mono (G7 (j:=0) (pa:=⟨.v ak ([k].map (·.a)),aj,[k]⟩) rfl)⟩
  ·obtain⟨vals,rfl,hs,hv⟩:=hx;right;refine⟨rfl,vals,rfl,by rw[hs];exact i1.symm,λj k hj=> ?_⟩
   obtain⟨y,hy,hk⟩:=i2 j k hj;obtain⟨u,hu,ha⟩:=hv j y hy;exact⟨u,hu,(CH cf hk ha).mono (G7 (j:=j) (pa:=⟨.v ai (l.map (·.a)),aj,l⟩) hj)⟩
  ·exact hx.elim
 unfold ad4 at h;split at h
 ·rename_i n;obtain⟨_,h⟩:=cR h;obtain⟨ob,hg,h⟩:=Rd.bind_some h;have hg:=dA hg;cases ob with
  |box xs=>
   obtain⟨l,h1,h⟩:=Rd.bind_some h;obtain rfl:=aJ h;obtain⟨i1,i2⟩:=EZ cf h1;obtain⟨vals,hb,hs,hv⟩:=cf.obj n _ hg;refine⟨hl,λhb=>(by cases hb),λm ys Qi=> ?_⟩
   cases Qi;refine⟨rfl,hx,hg,i1,⟨vals,hb,hs,λj k hj=> ?_⟩,λj k nm e ex hj DT=> ?_⟩
   ·obtain⟨y,hy,hk⟩:=i2 j k hj;obtain⟨u,hu,ha⟩:=hv j y hy;exact⟨u,hu,(CH cf hk ha).mono (G7 (j:=j) (pa:=⟨.pt (l.map (·.a)),ah (n,xs),l⟩) hj)⟩
   ·obtain⟨y,hy,hk⟩:=i2 j k hj;rw[hy,Pz hk DT]
  |_=>simp at h
 ·rename_i agg xs _;exact gen _ _ rfl h
 ·simp at h
theorem Ns{T:Tab}{k:Ck}{y:AV}{u:bk}(h:eG T w c y u):eG T w c (YW k y) u:=by
 unfold YW;split
 ·rename_i e;have:u= .slice aj 0 0:=h;subst this;exact .nl _ _ _
 ·exact h
theorem Jm:∀(ks:aA Ck) (xs:aA AV),(Cw ks xs).length=xs.length
 |[],[]=>rfl
 |[],_::_=>rfl
 |_::_,[]=>rfl
 |k::ks,y::r=>by simp[Cw,Jm ks r]
theorem Nt{T:Tab}:∀(ks:aA Ck) (xs:aA AV) (j:aF) (y:AV),(Cw ks xs)[j]? =ah y->∃z,xs[j]? =ah z/\∀u,eG T w c z u->eG T w c y u
 |[],xs,j,y,h=>⟨y,by simpa [Cw]using h,λ_ h=>h⟩
 |_::_,[],j,y,h=>by simp[Cw]at h
 |k::ks,x::r,0,y,h=>by
  simp only[Cw,sA,jA]at h;subst h;exact⟨x,rfl,λu hu=>Ns hu⟩
 |k::ks,x::r,j+1,y,h=>by simp only[Cw,dO]at h;exact Nt ks r j y h
theorem afx{T:Tab}{t:az aF}{s:SV}{v:bk}(h:ji T w c s v):ji T w c (nlz T t s) v:=by
 unfold nlz;split
 ·exact h
 ·split
  ·rename_i ti g xs _;have h:qj T w c g xs v:=h;show qj T w c g (Cw ti.ks xs) v;unfold qj at h;split at h
   ·rename_i y;cases hk:ti.ks with
    |nil=>exact h
    |cons k ks=>
     have e:∀z,Cw (k::ks) [z]=[YW k z]:=λz=>by cases ks<;>rfl
     rw[e];exact Ns h
   ·obtain⟨vals,h1,h2,h3⟩:=h;refine⟨vals,h1,by rw[Jm];exact h2,λj y hj=> ?_⟩
    obtain⟨z,hz,hy⟩:=Nt (T:=T) (w:=w) (c:=c) ti.ks _ j y hj;obtain⟨u,hu,ha⟩:=h3 j z hz;exact⟨u,hu,hy u ha⟩
   ·cases h
  ·exact h
theorem RZ(cf:Ok E σ w c)(dK:fC E σ a w c){f:aF}{Qq:az (aA aF)}:∀{xs:aA dz} {p:aF} {ps:aA Pa},(RY E f Qq p xs).val σ=ah ps->ps.length=xs.length/\∀(q:aF) (pa:Pa),ps[q]? =ah pa->∃x,xs[q]? =ah x/\Au E σ w c pa.nI pa (a.eval x):=by
 intro xs;induction xs with
 |nil=>intro p ps h;obtain rfl:=aJ h;exact⟨rfl,λq pa h=>by simp at h⟩
 |cons x xs ih=>
  intro p ps h;obtain⟨v,h1,h⟩:=Rd.bind_some h;obtain⟨pa,h2,h⟩:=Rd.bind_some h;obtain⟨hl,h⟩:=cR h;obtain⟨l,h3,h⟩:=Rd.bind_some h;obtain rfl:=aJ h;obtain⟨i1,i2⟩:=ih h3;refine⟨by simp[i1],λq pa' hq=> ?_⟩
  cases q with
  |zero=>
   cases hq;refine⟨x,rfl,WW cf h2 (cL hl) ?_⟩
   cases E.mode f p with
   |true=>exact(mr dK h1).1
   |false=>exact afx (mr dK h1).1
  |succ q=>exact i2 q pa' hq
theorem Au.mono{T:Tab}{nI Ux:aA aF}{pa:Pa}{v:bk}(h:Au T σ w c nI pa v)(hs:∀n∈nI,n∈Ux):Au T σ w c Ux pa v:=by
 refine⟨h.len,λhb=> ?_,λn xs hb=> ?_⟩
 ·obtain⟨agg,h1,h2⟩:=h.val hb;refine⟨agg,h1, ?_⟩
  rcases h2 with ⟨h3,k,h4,h5⟩|⟨h3,vals,h4,h5,h6⟩
  ·exact .inl ⟨h3,k,h4,h5.mono hs⟩
  ·exact .inr ⟨h3,vals,h4,h5,λj k hj=>by obtain⟨u,hu,hk⟩:=h6 j k hj;exact⟨u,hu,hk.mono hs⟩⟩
 ·obtain⟨h1,h2,h3,h4,⟨vals,h5,h6,h7⟩,h8⟩:=h.box n xs hb;exact⟨h1,h2,h3,h4,⟨vals,h5,h6,λj k hj=>by obtain⟨u,hu,hk⟩:=h7 j k hj;exact⟨u,hu,hk.mono hs⟩⟩,h8⟩
end
end Go.FG

namespace Go.FG
theorem lV{α:Type}{f:α->aA aF}:∀{l:aA α},(l.flatMap f).Nodup->(∀(i j:aF) (x y:α) (z:aF),l[i]? =ah x->l[j]? =ah y->z∈f x->z∈f y->i=j)/\∀x∈l,(f x).Nodup:=by
 intro l;induction l with
 |nil=>intro _;exact⟨λi j x y z h=>by simp at h,λx h=>by cases h⟩
 |cons a l ih=>
  intro h;rw[yJ]at h;obtain⟨h1,h2,h3⟩:=eL.1 h;obtain⟨i1,i2⟩:=ih h2;refine⟨λi j x y z hi hj hx hy=> ?_,λx hx=> ?_⟩
  ·cases i with
   |zero=>
    cases hi;cases j with
    |zero=>rfl
    |succ j=>exact cJ rfl (h3 z hx z (bP.2 ⟨y,aR hj,hy⟩))
   |succ i=>
    cases j with
    |zero=>cases hj;exact cJ rfl (h3 z hy z (bP.2 ⟨x,aR hi,hx⟩))
    |succ j=>rw[i1 i j x y z hi hj hx hy]
  ·rcases cy.1 hx with rfl|hx
   ·exact h1
   ·exact i2 x hx
def loc(ps:aA Pa)(m:aF):az aF:=
 match ps[(m-900000000)/1000]? with
 |none=>aj
 |some pa=>if(m-900000000)%1000=900 then pa.box.map (·.1)else(pa.cs[(m-900000000)%1000]?).bind λk=>match k.src with| .own nm _ _=>ah nm| .no=>aj
theorem G5{ps:aA Pa}{p j:aF}{pa:Pa}{k:Pk}{nm e:aF}{ex:aW}(hp:ps[p]? =ah pa)(hj:pa.cs[j]? =ah k)(hs:k.src= .own nm e ex)(hl:j<900):loc ps (dS p j)=ah nm:=by obtain⟨h1,h2⟩:=uz (p:=p) (j:=j) (by omega);unfold loc;rw[h1,h2,hp];simp only;rw[bH (by omega),hj];simp only[Option.bind_some,hs]
theorem Bj{ps:aA Pa}{p n:aF}{pa:Pa}{xs:aA AV}(hp:ps[p]? =ah pa)(hb:pa.box=ah (n,xs)):loc ps (dS p 900)=ah n:=by obtain⟨h1,h2⟩:=uz (p:=p) (j:=900) (by omega);unfold loc;rw[h1,h2,hp];simp[hb]
def qI(σ:St)(c:e9)(ps:aA Pa):e9:=
 ⟨λm=>match loc ps m with|some n=>c.P n|none=>⟨ai,0,0,0,0,0⟩,λm=>match loc ps m with|some n=>c.G n|none=>λ_ _=>⟨ai,0,0,0,0,0⟩,K1r σ c (ps.flatMap (·.nI))⟩
theorem uk{σ:St}{c:e9}{ps:aA Pa}{m n:aF}(h:loc ps m=ah n):(qI σ c ps).P m=c.P n/\(qI σ c ps).G m=c.G n:=by unfold qI;simp only[h];exact⟨trivial,trivial⟩
section
variable {P:c5} {E:fO} {σ:St} {a:Act} {w:bM} {c:e9} {o:fA} {nm:aF} {e:sR}
structure Handed (T:Tab) (σ:St) (w:bM) (c:e9) (ps:aA Pa) (Bc:aA (aA CV)) (vs:dt bk):Prop where
 size:vs.size=ps.length+Bc.length
 at_:∀(q:aF) (pa:Pa),ps[q]? =ah pa->∃v,vs[q]? =ah v/\Au T σ w c (ps.flatMap (·.nI)) pa v
 fb:∀(q:aF) (cs:aA CV),Bc[q]? =ah cs->∃b,vs[ps.length+q]? =ah (.pointer (ah (ad b 0)))/\FB T w c.K b cs
 nd:(ps.flatMap (·.uw)).Nodup
 ap:∀n∈ps.flatMap (·.uw),n∉ps.flatMap (·.nI)
def jK(ps:aA Pa)(Bc:aA (aA CV)):aA fj:=ps.map (·.arg)++Bc.map fj.fb
theorem vR{ps:aA Pa}{Bc:aA (aA CV)}{p:aF}{x:fj}(h:(jK ps Bc)[p]? =ah x):(∃pa,ps[p]? =ah pa/\x=pa.arg)\/(ps.length<=p/\∃cs,Bc[p-ps.length]? =ah cs/\x= .fb cs):=by
 unfold jK at h;by_cases hp:p<ps.length
 ·rw[dH (by simpa using hp),bL]at h;cases hq:ps[p]? with
  |none=>rw[hq]at h;cases h
  |some pa=>rw[hq]at h;cases h;exact .inl ⟨pa,rfl,rfl⟩
 ·rw[da (by simp;omega),bL,bU]at h;cases hq:Bc[p-ps.length]? with
  |none=>rw[hq]at h;cases h
  |some cs=>rw[hq]at h;cases h;exact .inr ⟨by omega,cs,rfl,rfl⟩
theorem Ul{T:Tab}{ps:aA Pa}{p j:aF}{pa:Pa}{k:Pk}{u:bk}(hp:ps[p]? =ah pa)(hj:pa.cs[j]? =ah k)(hl:j<900)(h:vI T σ w c (ps.flatMap (·.nI)) k u):eG T w (qI σ c ps) (lB (dS p j) k.a) u:=by
 unfold vI at h;split at h
 ·rename_i n e ex hs;obtain⟨xs,h1,h2,h3⟩:=h;rw[h2];show u=lS ((qI σ c ps).P (dS p j));rw[(uk (G5 hp hj hs hl)).1];exact h3
 ·exact h.1 _ (λb hb=>hb) _
theorem Uj{T:Tab}{nI:aA aF}{pa:Pa}{v:bk}(h:Au T σ w c nI pa v){xs:aA AA}(hx:(∃g,pa.arg= .v g xs)\/pa.arg= .pt xs):xs=pa.cs.map (·.a)/\∀(j:aF) (k:Pk),pa.cs[j]? =ah k->∃u,vI T σ w c nI k u:=by
 cases hb:pa.box with
 |none=>
  obtain⟨agg,h1,h2⟩:=h.val hb;rw[h1]at hx;have:xs=pa.cs.map (·.a):=by rcases hx with ⟨g,hx⟩|hx<;>cases hx;rfl
  refine⟨this,λj k hj=> ?_⟩
  rcases h2 with ⟨_,k',hk,hp⟩|⟨_,vals,_,_,hp⟩
  ·rw[hk]at hj;cases j with
   |zero=>cases hj;exact⟨_,hp⟩
   |succ j=>simp at hj
  ·obtain⟨u,_,hu⟩:=hp j k hj;exact⟨u,hu⟩
 |some nx=>
  obtain⟨n,ys⟩:=nx;obtain⟨h1,_,_,_,⟨vals,_,_,hp⟩,_⟩:=h.box n ys hb;rw[h1]at hx;have:xs=pa.cs.map (·.a):=by rcases hx with ⟨g,hx⟩|hx<;>cases hx;rfl
  exact⟨this,λj k hj=>by obtain⟨u,_,hu⟩:=hp j k hj;exact⟨u,hu⟩⟩
theorem xC(cf:Ok E σ w c){ps:aA Pa}{Bc:aA (aA CV)}{vs:dt bk}(hh:Handed E σ w c ps Bc vs){m:aF}{ob:Obj}(h:inj (jK ps Bc) (c9 m)= .o ob):
  ∃n o p pa,loc ps m=ah n/\ps[p]? =ah pa/\n∈pa.uw/\σ (c9 n)= .o o/\pP E w (qI σ c ps) m ob/\(∀b,fJ (qI σ c ps) m ob b->fJ c n o b)/\
   ((m=dS p 900/\∃xs,pa.box=ah (n,xs))\/∃j k e ex,m=dS p j/\j<900/\pa.cs[j]? =ah k/\k.src= .own n e ex):=by
 obtain⟨p,x,h0,h⟩:=Bh h;have aup:∀cs xs,x= .fb cs->¬((∃g,x= .v g xs)\/x= .pt xs):=by rintro cs xs rfl (⟨g,h⟩|h)<;>cases h
 rcases vR h0 with ⟨pa,hp,rfl⟩|⟨_,cs,_,hx⟩
 ·obtain⟨v,hv,KW⟩:=hh.at_ p pa hp;rcases h with ⟨xs,hx,rfl,rfl⟩|⟨xs,j,e,ex,ys,hx,hj,rfl,rfl⟩
  ·cases hb:pa.box with
   |none=>obtain⟨agg,h1,_⟩:=KW.val hb;rw[h1]at hx;cases hx
   |some nx=>
    obtain⟨n,zs⟩:=nx;obtain⟨h1,h2,h3,h4,⟨vals,h5,h6,h7⟩,_⟩:=KW.box n zs hb;rw[h1]at hx;cases hx;have SD:=Bj hp hb;obtain⟨e1,e2⟩:=uk (σ:=σ) (c:=c) SD;refine⟨n,_,p,pa,SD,hp,by simp[Pa.uw,hb],h3, ?_,λb hf=>by rw[show b=_ from hf,e1];rfl, .inl ⟨rfl,zs,hb⟩⟩
    refine⟨vals,by rw[e1];exact h5,by rw[iS,bU,h6];exact h4.symm,λj y hj=> ?_⟩
    rw[iB,bL]at hj;cases hk:pa.cs[j]? with
    |none=>rw[hk]at hj;cases hj
    |some k=>
     rw[hk]at hj;cases hj;obtain⟨u,hu,Xv⟩:=h7 j k hk;have jY:j<900:=by have:=(aT.1 hk).1;have:=KW.len;omega
     refine⟨u,hu, ?_⟩
     have hn:dS p 0+j=dS p j:=by unfold dS;omega
     rw[hn];exact Ul hp hk jY Xv
  ·obtain⟨hxs,Xv⟩:=Uj KW hx;rw[hxs,bL]at hj;cases hk:pa.cs[j]? with
   |none=>rw[hk]at hj;cases hj
   |some k=>
    rw[hk]at hj;have hka:k.a= .ow e ex ys:=by simpa using hj
    obtain⟨u,hu⟩:=Xv j k hk;have jY:j<900:=by have:=(aT.1 hk).1;have:=KW.len;omega
    unfold vI at hu;split at hu
    ·rename_i n e' uo hs;obtain⟨zs,q1,q2,q3⟩:=hu;rw[hka]at q2;cases q2;have SD:=G5 hp hk hs jY;obtain⟨e1,e2⟩:=uk (σ:=σ) (c:=c) SD;refine⟨n,_,p,pa,SD,hp, ?_,q1, ?_,λb hf=>by rw[mn (c:=⟨λ_=>c.P n,λ_=>c.G n,c.K⟩) (c':=qI σ c ps) ⟨e1,e2⟩]at hf;exact hf, .inr ⟨j,k,e,ex,rfl,jY,hk,hs⟩⟩
     ·refine bO _ (bP.2 ⟨k,aR hk, ?_⟩);simp[Pk.uw,hs]
     ·have mV:=cf.obj n _ q1;obtain⟨⟨t2,r1,r2,r3⟩,r4,r5⟩:=mV;refine⟨⟨t2,r1,by rw[e1];exact r2,r3⟩, ?_,λhx=>by rw[e1,e2];exact r5 hx⟩
      rw[e1,e2];refine r4.frame (λ_=>rfl) (λi j y x u hy hx hr=> ?_);split at hr
      ·rename_i pF;rw[bz pF];exact hr
      ·rename_i pF;rw[bH pF];exact hr.frame (λ_ _=>rfl) (λb hb=> .inl hb)
    ·exact cJ hka (hu.2 _ _ _)
 ·rcases h with ⟨xs,h,_⟩|⟨xs,j,e,ex,ys,h,_⟩
  ·rw[hx]at h;cases h
  ·exact cJ h (aup cs xs hx)
theorem enter(cf:Ok E σ w c){ps:aA Pa}{Bc:aA (aA CV)}{vs:dt bk}(hh:Handed E σ w c ps Bc vs):
  Ok E (inj (jK ps Bc)) w (qI σ c ps)/\(∀(p:aF) (x:fj),(jK ps Bc)[p]? =ah x->∃v,vs[p]? =ah v/\ji E w (qI σ c ps) (tz p x) v)/\
  ∀b,wB (inj (jK ps Bc)) (qI σ c ps) b->∃n∈ps.flatMap (·.uw),∃o,σ (c9 n)= .o o/\fJ c n o b:=by
 have Jl:∀{p:aF} {pa:Pa} {n:aF},ps[p]? =ah pa->n∈pa.uw->n∈ps.flatMap (·.uw):=λhp hn=>bP.2 ⟨_,aR hp,hn⟩;obtain⟨nd1,nd2⟩:=lV hh.nd;refine⟨⟨λm ob h=> ?_,λm ob m' ob' b h h' hf ve=> ?_,λm ob b h hf hk=> ?_,λb hb=> ?_,λm xs h=>GY h⟩,λp x hx=> ?_, ?_⟩
 ·obtain⟨n,o,p,pa,_,_,_,_,h,_⟩:=xC cf hh h;exact h
 ·obtain⟨n,o,p,pa,_,hp,hn,ho,_,pT,lj⟩:=xC cf hh h;obtain⟨n',o',p',pa',_,mI,kJ,vi,_,SB,aaG⟩:=xC cf hh h';have:=cf.sep n o n' o' b ho vi (pT b hf) (SB b ve);subst this;have:=nd1 p p' pa pa' n hp mI hn kJ;subst this;rw[hp]at mI;cases mI;have ndm:=nd2 pa (aR hp);unfold Pa.uw at ndm;obtain⟨_,m2,m3⟩:=eL.1 ndm;have aiP:∀(j:aF) (k:Pk) (e:aF) (ex:aW),pa.cs[j]? =ah k->k.src= .own n e ex->n∈pa.cs.flatMap (·.uw):=λj k e ex hk hs=>bP.2 ⟨k,aR hk,by simp[Pk.uw,hs]⟩;rcases lj with ⟨rfl,xs,hb⟩|⟨j,k,e,ex,rfl,hj,hk,hs⟩
  ·rcases aaG with ⟨rfl,_⟩|⟨j',k',e',uo,rfl,JX,vh,hs'⟩
   ·rfl
   ·exact cJ rfl (m3 n (by simp[hb]) n (aiP _ _ _ _ vh hs'))
  ·rcases aaG with ⟨rfl,xs,hb⟩|⟨j',k',e',uo,rfl,JX,vh,hs'⟩
   ·exact cJ rfl (m3 n (by simp[hb]) n (aiP _ _ _ _ hk hs))
   ·have:=(lV m2).1 j j' k k' n hk vh (by simp[Pk.uw,hs]) (by simp[Pk.uw,hs']);rw[this]
 ·obtain⟨n,o,p,pa,_,hp,hn,ho,_,pT,_⟩:=xC cf hh h;rcases hk with hk|⟨n',kJ,o',vi,ve⟩
  ·exact cf.kk n o b ho (pT b hf) hk
  ·have:=cf.sep n o n' o' b ho vi (pT b hf) ve;subst this;exact hh.ap n (Jl hp hn) kJ
 ·rcases hb with hb|⟨n',kJ,o',vi,ve⟩
  ·exact cf.lt b hb
  ·exact wB.lt cf ⟨n',o',vi,ve⟩
 ·rcases vR hx with ⟨pa,hp,rfl⟩|⟨hle,cs,HO,rfl⟩
  ·obtain⟨v,hv,KW⟩:=hh.at_ p pa hp;refine⟨v,hv, ?_⟩
   have small:∀{j:aF} {k:Pk},pa.cs[j]? =ah k->j<900:=λhj=>by have:=(aT.1 hj).1;have:=KW.len;omega
   cases hb:pa.box with
   |none=>
    obtain⟨agg,h1,h2⟩:=KW.val hb;rw[h1];rcases h2 with ⟨rfl,k,hk,Xv⟩|⟨rfl,vals,rfl,hs,hc⟩
    ·rw[hk];have:=Ul (j:=0) hp (by rw[hk];rfl) (by omega) Xv;exact this
    ·refine⟨vals,rfl,by rw[iS,bU];exact hs,λj y hj=> ?_⟩
     rw[iB,bL]at hj;cases hk:pa.cs[j]? with
     |none=>rw[hk]at hj;cases hj
     |some k=>
      rw[hk]at hj;cases hj;obtain⟨u,hu,Xv⟩:=hc j k hk;refine⟨u,hu, ?_⟩
      have hn:dS p 0+j=dS p j:=by unfold dS;omega
      rw[hn];exact Ul hp hk (small hk) Xv
   |some nx=>obtain⟨n,zs⟩:=nx;obtain⟨h1,h2,_⟩:=KW.box n zs hb;rw[h1];show v= .pointer (ah (ad ((qI σ c ps).P (dS p 900)).blk 0));rw[(uk (Bj hp hb)).1];exact h2
  ·obtain⟨b,hv,hf⟩:=hh.fb (p-ps.length) cs HO;rw[show ps.length+(p-ps.length)=p by omega]at hv;exact⟨_,hv,b,rfl,hf.frame (λ_ _=>rfl) (λb hb=> .inl hb)⟩
 ·rintro b ⟨m,ob,h,hf⟩;obtain⟨n,o,p,pa,_,hp,hn,ho,_,pT,_⟩:=xC cf hh h;exact⟨n,Jl hp hn,o,ho,pT b hf⟩
end
end Go.FG

namespace Go.FG
def tI(p j:aF)(a:AA):AV:=match a with| .kp _=> .own (dS p j)|a=>lB (dS p (100+j)) a
def oa(p:aF):aF->aA AA->aA AV
 |_,[]=>[]|j,a::r=>tI p j a::oa p (j+1) r
def Jv(p j:aF)(a b:AA):aA (aF×eQ):=
 match b with
 | .kp ys=>(match a with| .ow e ex _=>[(c9 (dS p j), .o (.row e ex ys))]|_=>[])
 | .ow e ex ys=>[(c9 (dS p (100+j)), .o (.row e ex ys))]
 |_=>[]
def tJ(p:aF):aF->aA AA->aA AA->aA (aF×eQ)
 |_,_,[]=>[]|j,as,b::r=>Jv p j (as.headD .nl) b++tJ p (j+1) as.tail r
def CE(p:aF)(a:fj)(l:aA AA):aA (aF×eQ):=
 match a with
 | .v _ xs=>tJ p 0 xs l
 | .pt xs=>(c9 (dS p 900), .o (.box (oa p 0 l)))::tJ p 0 xs l
 | .fb _=>[]
def Lq:aF->aA fj->aA (aA AA)->aA (aF×eQ)
 |_,[],_=>[]|p,a::r,l=>CE p a (l.headD [])++Lq (p+1) r l.tail
def Lx:aF->aA fj->aA (aF×eQ)
 |_,[]=>[]|q,a::r=>vj q a++Lx (q+1) r
def ot(args:aA fj)(r:dB):St:=fK (Lx 500 r.rs++Lq 0 args r.outs)
def Gr(q:aF)(a:fj):aW×aA AV:=match a with| .v g xs=>(g,gu (dS q 0) xs)| .pt _=>(ak,[.bp (dS q 900) 0])| .fb xs=>(ak,[.fp xs 0])
def lC:aF->aA fj->aA (aW×aA AV)
 |_,[]=>[]|q,a::r=>Gr q a::lC (q+1) r
def Zj(rs:aA fj):SV:=sj (lC 500 rs)
def RO(T:Tab)(args:aA fj)(r:dB)(c1:e9)(w:bM)(v:bk)(w':bM):Prop:=
 ∃c3,Ok T (ot args r) w' c3/\ov (inj args) c1 w (ot args r) c3 w'/\(∀m,inj args (c9 m)≠ .jZ->c3.P m=c1.P m/\c3.G m=c1.G m)/\ji T w' c3 (Zj r.rs) v
def b9(P:c5)(T:Tab)(g:aF)(spec:aA fj->az (aW×dB)):Prop:=
 ∀args r,spec args=ah (ai,r)->∀(w:bM) (c1:e9) (vs:dt bk),Ok T (inj args) w c1->vs.size=args.length->(∀(p:aF) (x:fj),args[p]? =ah x->∃v,vs[p]? =ah v/\ji T w c1 (tz p x) v)->
  (∃fn,P.funcs[g]? =ah fn/\fn.body.isSome=ai/\(fn.name== "runtime.NumGoroutine")=ak)/\Calls P g vs w (λ| .returned v,w'=>RO T args r c1 w v w'|_,_=>False)
abbrev Dp:=aF×az aF×Obj
def find(L:aA Dp)(m:aF):az aF:=
 match L with
 |[]=>aj
 |(n,t,_)::r=>if m=n then t else find r m
theorem II{L:aA Dp}{m x:aF}(h:find L m=ah x):∃ob,(m,ah x,ob)∈L:=by
 induction L with
 |nil=>cases h
 |cons d L ih=>
  obtain⟨n,t,ob⟩:=d;unfold find at h;split at h
  ·rename_i hm;subst hm;rw[h];exact⟨ob,dn ..⟩
  ·obtain⟨ob,h⟩:=ih h;exact⟨ob,c7 _ h⟩
theorem Xg{L:aA Dp}{m:aF}{t:az aF}{ob:Obj}(h:(m,t,ob)∈L)(hn:(L.map (·.1)).Nodup):find L m=t:=by
 induction L with
 |nil=>cases h
 |cons d L ih=>
  obtain⟨n,t',ob'⟩:=d;rw[fB,kH]at hn;unfold find;rcases cy.1 h with h'|h'
  ·cases h';rw[bz rfl]
  ·have iw:m≠n:=λe=>hn.1 (cU.2 ⟨_,h',e⟩);rw[bH iw];exact ih h' hn.2
def lY(ok:aW)(L:aA Dp)(v v3:AV):Prop:=
 (v=v3/\match v with| .i _ _=>True| .b _=>True| .s _=>True| .nl=>True| .sh _ _=>ok=ai|_=>False)\/∃n x ob,v= .own n/\v3= .own x/\(n,ah x,ob)∈L
def ZL(L:aA Dp)(v v3:AV):Prop:=∃n x ob,v= .bp n 0/\v3= .bp x 0/\(n,ah x,ob)∈L
def nM(ok:aW)(L:aA Dp)(vs vs3:aA AV):Prop:=vs.length=vs3.length/\∀(j:aF) (v v3:AV),vs[j]? =ah v->vs3[j]? =ah v3->lY ok L v v3
def ArgRel(ok:aW)(L:aA Dp)(s s3:aW×aA AV):Prop:=s.1=s3.1/\s.2.length=s3.2.length/\∀(j:aF) (v v3:AV),s.2[j]? =ah v->s3.2[j]? =ah v3->lY ok L v v3\/ZL L v v3
def Fh(ok:aW)(L:aA Dp)(s s3:aA (aW×aA AV)):Prop:=s.length=s3.length/\∀(j:aF) (x x3:aW×aA AV),s[j]? =ah x->s3[j]? =ah x3->ArgRel ok L x x3
structure ZT (σ σ3:St) (c c3:e9) (ok:aW) (uw:aA aF) (L:aA Dp) (n:aF) (t:az aF) (ob:Obj):Prop where
 old:σ (c9 n)≠ .jZ->n∈uw
 new:σ (c9 n)= .jZ->n<900000000
 dead:t=aj->ob= .dead
 some_:∀x,t=ah x->(σ (c9 n)≠ .jZ->c3.P x=c.P n/\c3.G x=c.G n)/\
  ((∃e ex ys,ob= .row e ex ys/\σ3 (c9 x)= .o (.row e ex ys)/\(ex=ai\/ok=ai))\/∃vs vs3,ob= .box vs/\σ3 (c9 x)= .o (.box vs3)/\nM ok L vs vs3)
section
variable {P:c5} {E:fO} {σ:St} {a:Act} {w:bM} {c:e9} {o:fA} {nm:aF} {e:sR}
theorem leave(cf:Ok E σ w c)(dK:fC E σ a w c)(hd:∀d,o.dst=ah d->d<a.tmps.size){ps:aA Pa}{Bc:aA (aA CV)}{vs:dt bk}(hh:Handed E σ w c ps Bc vs)
  {r:dB} {v:bk} {w':bM} {c3:e9} (GU:Ok E (ot (jK ps Bc) r) w' c3) (yw:ov (inj (jK ps Bc)) (qI σ c ps) w (ot (jK ps Bc) r) c3 w') (yx:ji E w' c3 (Zj r.rs) v)
  {ok:aW} {L:aA Dp} {Fz:aA (aF×Obj)} (hL:∀n t ob,(n,t,ob)∈L->ZT σ (ot (jK ps Bc) r) c c3 ok (ps.flatMap (·.uw)) L n t ob) (I5:(L.map (·.1)).Nodup)
  (art:∀n n' x ob ob',(n,ah x,ob)∈L->(n',ah x,ob')∈L->n=n') (nT:∀n∈ps.flatMap (·.uw),∃t ob,(n,t,ob)∈L)
  (hFz:∀n x,(n,x)∈Fz->ok=ai/\n∈ps.flatMap (·.nI)/\∃el ex xs,σ (c9 n)= .o (.row el ex xs)/\x= .fQ el xs) (hFa:ok=ai->∀n∈ps.flatMap (·.nI),∃x,(n,x)∈Fz)
  {ss:aA (aW×aA AV)} (hss:Fh ok L ss (lC 500 r.rs)):
  ∃c',Ok E (wr σ (kg (Fz++L.map λt=>(t.1,t.2.2))++dw o (sj ss))) w' c'/\fC E (wr σ (kg (Fz++L.map λt=>(t.1,t.2.2))++dw o (sj ss))) (a.put o.dst v) w' c'/\ov σ c w (wr σ (kg (Fz++L.map λt=>(t.1,t.2.2))++dw o (sj ss))) c' w'/\jC σ c c':=by
 obtain⟨SF,_,aiF⟩:=enter cf hh;let D:aA (aF×Obj):=Fz++L.map λt=>(t.1,t.2.2)
 have TA:∀n x,(n,x)∈D->(n,x)∈Fz\/∃t,(n,t,x)∈L:=by
  intro n x hm;rcases ba.1 hm with h|h
  ·exact .inl h
  ·obtain⟨⟨n',t,ob⟩,h1,h2⟩:=cU.1 h;cases h2;exact .inr ⟨t,h1⟩
 have inD:∀n t ob,(n,t,ob)∈L->(n,ob)∈D:=λn t ob h=>bO _ (cU.2 ⟨_,h,rfl⟩);have aun:∀n,n∈ps.flatMap (·.uw)->uK D n:=λn hn=>by obtain⟨t,ob,h⟩:=nT n hn;exact⟨ob,inD n t ob h⟩
 have Lu:∀b,wB (inj (jK ps Bc)) (qI σ c ps) b->j5 (uK D) σ c b:=λb hb=>by obtain⟨n,hn,ob,h1,h2⟩:=aiF b hb;exact⟨n,ob,aun n hn,h1,h2⟩
 let K':aF->Prop:=λb=>if ok=ai then c3.K b else c.K b
 let c':e9:=⟨λm=>match find L m with|some x=>c3.P x|none=>c.P m,λm=>match find L m with|some x=>c3.G x|none=>c.G m,K'⟩
 have at_:∀n x ob,(n,ah x,ob)∈L->c'.P n=c3.P x/\c'.G n=c3.G x:=λn x ob h=>by have:=Xg h I5;simp only[c',this];exact⟨trivial,trivial⟩
 have ajj:∀n,find L n=aj->c'.P n=c.P n/\c'.G n=c.G n:=λn h=>by simp only[c',h];exact⟨trivial,trivial⟩
 have hA:jC σ c c':=by
  intro m hm;cases hf:find L m with
  |none=>exact ajj m hf
  |some x=>
   obtain⟨ob,hx⟩:=II hf;obtain⟨e1,e2⟩:=at_ m x ob hx;have he:=hL m _ ob hx;rw[e1,e2];by_cases hn:σ (c9 m)= .jZ
   ·have:=he.new hn;rcases hm with h|h
    ·exact cJ hn h
    ·omega
   ·exact(he.some_ x rfl).1 hn
 have Kok:ok=ai->∀b,K' b↔c3.K b:=λh b=>by simp only[K',h,if_true]
 have Kno:ok=ak->∀b,K' b↔c.K b:=λh b=>by simp only[K',h];simp
 have K13:∀b,(qI σ c ps).K b->c3.K b:=yw.K;have cK1:∀b,c.K b->(qI σ c ps).K b:=λb hb=> .inl hb;have hK:∀b,c.K b->K' b:=λb hb=>by
  cases h:ok with
  |true=>exact(Kok h b).2 (K13 b (cK1 b hb))
  |false=>exact(Kno h b).2 hb
 have V8:∀b,K' b->c.K b\/j5 (uK D) σ c b\/w.heap.size<=b:=λb hb=>by
  cases h:ok with
  |true=>
   rcases yw.kn b ((Kok h b).1 hb)with h1|h1|h1
   ·rcases h1 with h1|⟨n,hn,ob,h2,h3⟩
    ·exact .inl h1
    ·obtain⟨x,hx⟩:=hFa h n hn;exact .inr (.inl ⟨n,ob,⟨x,bN _ hx⟩,h2,h3⟩)
   ·exact .inr (.inl (Lu b h1))
   ·exact .inr (.inr h1)
  |false=>exact .inl ((Kno h b).1 hb)
 have GQ:∀b,K' b->b<w'.heap.size:=λb hb=>by
  cases h:ok with
  |true=>exact GU.lt b ((Kok h b).1 hb)
  |false=>exact ju (cf.lt b ((Kno h b).1 hb)) yw.size
 have Su:∀n x ob b,(n,ah x,ob)∈L->fJ c' n ob b->∃o3,ot (jK ps Bc) r (c9 x)= .o o3/\fJ c3 x o3 b:=by
  intro n x ob b hm hf;obtain⟨e1,e2⟩:=at_ n x ob hm;rcases((hL n _ ob hm).some_ x rfl).2 with ⟨e,ex,ys,rfl,h3,_⟩|⟨us,us3,rfl,h3,_⟩
  ·refine⟨_,h3, ?_⟩
   simp only[fJ,e1,e2]at hf⊢;exact hf
  ·refine⟨_,h3, ?_⟩
   simp only[fJ,e1]at hf⊢;exact hf
 have R8:∀{v v3:AV} {u:bk},lY ok L v v3->eG E w' c3 v3 u->eG E w' c' v u/\∀n∈bQ v,uK D n:=by
  rintro v v3 u (⟨rfl,h⟩|⟨n,x,ob,rfl,rfl,hm⟩) hu
  ·cases v with
   |sh e xs=>exact⟨c_.frame hu (λ_ _=>rfl) (λb hb=>(Kok h b).2 hb),λn hn=>by simp[bQ]at hn⟩
   |i=>exact⟨hu,λn hn=>by simp[bQ]at hn⟩
   |b=>exact⟨hu,λn hn=>by simp[bQ]at hn⟩
   |s=>exact⟨hu,λn hn=>by simp[bQ]at hn⟩
   |nl=>exact⟨hu,λn hn=>by simp[bQ]at hn⟩
   |_=>exact h.elim
  ·refine⟨?_,λm xA=> ?_⟩
   ·show u=lS (c'.P n);rw[(at_ n x ob hm).1];exact hu
   ·have:m=n:=by simpa [bQ]using xA
    subst this;exact⟨ob,inD _ _ _ hm⟩
 have aqP:∀{v v3:AV} {u:bk},ZL L v v3->eG E w' c3 v3 u->eG E w' c' v u/\∀n∈bQ v,uK D n:=by
  rintro v v3 u ⟨n,x,ob,rfl,rfl,hm⟩ hu;refine⟨?_,λm xA=> ?_⟩
  ·show u= .pointer (ah (ad (c'.P n).blk 0));rw[(at_ n x ob hm).1];exact hu
  ·have:m=n:=by simpa [bQ]using xA
   subst this;exact⟨ob,inD _ _ _ hm⟩
 have aak:∀{s s3:aW×aA AV} {u:bk},ArgRel ok L s s3->qj E w' c3 s3.1 s3.2 u->qj E w' c' s.1 s.2 u/\∀n∈s.2.flatMap bQ,uK D n:=by
  rintro ⟨g,xs⟩ ⟨g3,xs3⟩ u ⟨h1,h2,h3⟩ hu;have h1:g=g3:=h1;subst h1;have one:∀(j:aF) (y:AV) (uu:bk),xs[j]? =ah y->(∀y3,xs3[j]? =ah y3->eG E w' c3 y3 uu)->eG E w' c' y uu/\∀n∈bQ y,uK D n:=by
   intro j y uu hj hu3;have jY:j<xs3.length:=by rw[<-h2];exact(aT.1 hj).1
   have M8:=h3 j y xs3[j] hj (by simp[jY]);have sg:=hu3 xs3[j] (by simp[jY]);rcases M8 with h|h
   ·exact R8 h sg
   ·exact aqP h sg
  replace hu:qj E w' c3 g xs3 u:=hu;unfold qj at hu;split at hu
  ·rename_i y3;obtain⟨y,rfl⟩:=gU.1 (show xs.length=1 from h2);obtain⟨k1,k2⟩:=one 0 y u rfl (λy3' h=>by cases h;exact hu);exact⟨k1,λn hn=>k2 n (by simpa using hn)⟩
  ·obtain⟨vals,rfl,hs,hv⟩:=hu;have cell:∀(j:aF) (y:AV),xs[j]? =ah y->∃uu:bk,vals[j]? =ah uu/\eG E w' c' y uu/\∀n∈bQ y,uK D n:=by
    intro j y hj;have jY:j<xs3.length:=by rw[<-h2];exact(aT.1 hj).1
    obtain⟨uu,hu,ha⟩:=hv j xs3[j] (by simp[jY]);obtain⟨k1,k2⟩:=one j y uu hj (λy3' h=>by simp[jY]at h;rw[<-h];exact ha);exact⟨uu,hu,k1,k2⟩
   refine⟨⟨vals,rfl,by rw[hs];exact h2.symm,λj y hj=> ?_⟩,λn hn=> ?_⟩
   ·obtain⟨uu,k1,k2,_⟩:=cell j y hj;exact⟨uu,k1,k2⟩
   ·obtain⟨y,hy,hn⟩:=bP.1 hn;obtain⟨j,hj⟩:=bY hy;obtain⟨uu,_,_,k3⟩:=cell j y hj;exact k3 n hn
  ·exact hu.elim
 have alG:ji E w' c' (sj ss) v/\∀n∈cM (sj ss),uK D n:=by
  obtain⟨hl,hr⟩:=hss;have j_:∀(l l3:aA (aW×aA AV)),l=ss->l3=lC 500 r.rs->ji E w' c3 (.j_ l3) v->ji E w' c' (.j_ l) v/\∀n∈cM (.j_ l),uK D n:=by
   rintro l l3 rfl rfl ⟨us,rfl,hs,hv⟩;have cell:∀(j:aF) (x:aW×aA AV),l[j]? =ah x->∃u:bk,us[j]? =ah u/\qj E w' c' x.1 x.2 u/\∀n∈x.2.flatMap bQ,uK D n:=by
    intro j x hj;have jY:j<(lC 500 r.rs).length:=by rw[<-hl];exact(aT.1 hj).1
    have h3:(lC 500 r.rs)[j]? =ah ((lC 500 r.rs)[j].1,(lC 500 r.rs)[j].2):=by simp[jY]
    obtain⟨u,hu,ha⟩:=hv j _ _ h3;obtain⟨k1,k2⟩:=aak (hr j x _ hj h3) ha;exact⟨u,hu,k1,k2⟩
   refine⟨⟨us,rfl,by rw[hs];exact hl.symm,λj g xs hj=> ?_⟩,λn hn=> ?_⟩
   ·obtain⟨u,k1,k2,_⟩:=cell j (g,xs) hj;exact⟨u,k1,k2⟩
   ·obtain⟨x,hx,hn⟩:=bP.1 hn;obtain⟨j,hj⟩:=bY hx;obtain⟨u,_,_,k3⟩:=cell j x hj;exact k3 n hn
  unfold Zj at yx;cases h3:lC 500 r.rs with
  |nil=>rw[h3]at yx hl;have:ss=[]:=gb hl;subst this;exact j_ [] [] rfl h3.symm yx
  |cons x l=>
   cases l with
   |nil=>obtain⟨g,xs⟩:=x;rw[h3]at yx hl;obtain⟨⟨g',LY⟩,rfl⟩:=gU.1 (show ss.length=1 from hl);exact aak (s3:=(g,xs)) (hr 0 _ _ rfl (by rw[h3];rfl)) yx
   |cons y l=>
    rw[h3]at yx hl;match ss,hl with
    |s1::s2::st,_=>exact j_ _ (x::y::l) rfl h3.symm yx
    |[_],hl=>simp at hl
    |[],hl=>simp at hl
 refine⟨c', ?_⟩
 have:=Ip cf dK hd (D:=D) (s:=sj ss) (v:=v) (w':=w') (c':=c') hA ?_ ?_ ?_ ?_ hK V8 GQ ?_ yw.size yw.os yw.tape yw.output alG.1 (λn hn=> .inr (alG.2 n hn))
 ·exact⟨this.1,this.2.1,this.2.2,hA⟩
 ·intro n x hm;rcases TA n x hm with hm|⟨t,hm⟩
  ·obtain⟨SG,hn,el,ex,xs,hg,rfl⟩:=hFz n x hm;have aiB:find L n=none:=by
    cases hf:find L n with
    |none=>rfl
    |some x=>obtain⟨ob,hx⟩:=II hf;have:=(hL n _ ob hx).old (by rw[hg];simp);exact cJ hn (hh.ap n this)
   obtain⟨e1,_⟩:=ajj n aiB;obtain⟨h1,h2,ti,h3,h4⟩:=lu cf hg;show c_ E w' K' (lS (c'.P n)) _/\(c'.P n).n=_/\_;rw[e1];refine⟨?_,h1,ti,h3,h4.1⟩
   have:=rW cf hg (K:=(qI σ c ps).K) cK1 (λb hb=> .inr ⟨n,hn,_,hg,hb⟩);exact this.frame (yw.ZW SF) (λb hb=>(Kok SG b).2 (K13 b hb))
  ·have he:=hL n t x hm;cases t with
   |none=>rw[he.dead rfl];trivial
   |some y=>
    obtain⟨e1,e2⟩:=at_ n y x hm;rcases(he.some_ y rfl).2 with ⟨el,ex,ys,rfl,h3,hor⟩|⟨us,us3,rfl,h3,hl,hc⟩
    ·obtain⟨⟨t2,r1,r2,r3⟩,r4,r5⟩:=GU.obj y _ h3;refine⟨⟨t2,r1,by rw[e1];exact r2,r3⟩, ?_,λhx=>by rw[e1,e2];exact r5 hx⟩
     rw[e1,e2];refine r4.frame (λ_=>rfl) (λi j yy xx u hy hx hr=> ?_);split at hr
     ·rename_i pF;rw[bz pF];exact hr
     ·rename_i pF;rw[bH pF];have SG:=hor.resolve_left pF;exact hr.frame (λ_ _=>rfl) (λb hb=>(Kok SG b).2 hb)
    ·obtain⟨vals,hb,hs,hv⟩:=GU.obj y _ h3;refine⟨vals,by rw[e1];exact hb,by rw[hs];exact hl.symm,λj yy hj=> ?_⟩
     have jY:j<us3.length:=by rw[<-hl];exact(aT.1 hj).1
     obtain⟨u,hu,ha⟩:=hv j us3[j] (by simp[jY]);exact⟨u,hu,(R8 (hc j yy us3[j] hj (by simp[jY])) ha).1⟩
 ·intro n x b hm hf;rcases TA n x hm with hm|⟨t,hm⟩
  ·obtain⟨_,_,el,ex,xs,_,rfl⟩:=hFz n x hm;exact hf.elim
  ·cases t with
   |none=>rw[(hL n _ x hm).dead rfl]at hf;exact hf.elim
   |some y=>
    obtain⟨o3,h3,hf3⟩:=Su n y x b hm hf;have vW:j5 (uK D) σ c b\/w.heap.size<=b:=(yw.own b ⟨y,o3,h3,hf3⟩).imp (Lu b) id;refine⟨vW,λhk=> ?_⟩
    cases h:ok with
    |true=>exact GU.kk y o3 b h3 hf3 ((Kok h b).1 hk)
    |false=>
     have hk:=(Kno h b).1 hk;rcases vW with vW|vW
     ·exact cf.Jo vW.own hk
     ·have:=cf.lt b hk;omega
 ·intro n x n' x' b hm xA hf ve;rcases TA n x hm with hm|⟨t,hm⟩
  ·obtain⟨_,_,el,ex,xs,_,rfl⟩:=hFz n x hm;exact hf.elim
  ·rcases TA n' x' xA with xA|⟨t',xA⟩
   ·obtain⟨_,_,el,ex,xs,_,rfl⟩:=hFz n' x' xA;exact ve.elim
   ·cases t with
    |none=>rw[(hL n _ x hm).dead rfl]at hf;exact hf.elim
    |some y=>
     cases t' with
     |none=>rw[(hL n' _ x' xA).dead rfl]at ve;exact ve.elim
     |some y'=>obtain⟨o3,h3,hf3⟩:=Su n y x b hm hf;obtain⟨o3',M8,ard⟩:=Su n' y' x' b xA ve;have:=GU.sep y o3 y' o3' b h3 M8 hf3 ard;subst this;exact art n n' y x x' hm xA
 ·intro n xs hm y hy m hmm;rcases TA n _ hm with hm|⟨t,hm⟩
  ·obtain⟨_,_,el,ex,zs,_,h⟩:=hFz n _ hm;cases h
  ·have he:=hL n t _ hm;cases t with
   |none=>have:=he.dead rfl;cases this
   |some z=>
    rcases(he.some_ z rfl).2 with ⟨el,ex,ys,h,_⟩|⟨us,us3,h,h3,hl,hc⟩
    ·cases h
    ·cases h;obtain⟨j,hj⟩:=bY hy;have jY:j<us3.length:=by rw[<-hl];exact(aT.1 hj).1
     rcases hc j y us3[j] hj (by simp[jY])with ⟨h1,h2⟩|⟨n',x',ob',h1,_,h2⟩
     ·exfalso;subst h1;cases h:us3[j]<;>rw[h]at hmm h2<;>first|(simp[bQ]at hmm;done)|exact h2
     ·rw[h1]at hmm;have:m=n':=by simpa [bQ]using hmm
      subst this;exact .inr ⟨ob',inD _ _ _ h2⟩
 ·intro b hb Xr;exact yw.same b hb (λho=>Xr (Lu b ho))
end
end Go.FG

namespace Go.FG
def L9(a:fj)(xs:aA AA):Prop:=(∃g,a= .v g xs)\/a= .pt xs
inductive Bv (args:aA fj) (r:dB):aF->eQ->Prop
 |rb (q xs):r.rs[q]? =ah (.pt xs)->Bv args r (dS (500+q) 900) (.o (.box (gu (dS (500+q) 0) xs)))
 |rr (q a xs j e ex ys):r.rs[q]? =ah a->L9 a xs->xs[j]? =ah (.ow e ex ys)->Bv args r (dS (500+q) j) (.o (.row e ex ys))
 |ob (p xs):args[p]? =ah (.pt xs)->Bv args r (dS p 900) (.o (.box (oa p 0 (r.outs.getD p []))))
 |kp (p a xs j e ex z ys):args[p]? =ah a->L9 a xs->xs[j]? =ah (.ow e ex z)->(r.outs.getD p [])[j]? =ah (.kp ys)->Bv args r (dS p j) (.o (.row e ex ys))
 |nw (p a xs j e ex ys):args[p]? =ah a->L9 a xs->(r.outs.getD p [])[j]? =ah (.ow e ex ys)->Bv args r (dS p (100+j)) (.o (.row e ex ys))
theorem Jj:∀{l:aA fj} {q:aF} {k:aF} {c:eQ},(k,c)∈Lx q l↔∃i a,l[i]? =ah a/\(k,c)∈vj (q+i) a:=by
 intro l;induction l with
 |nil=>intro q k c;simp[Lx]
 |cons a l ih=>
  intro q k c;simp only[Lx,ba,ih];constructor
  ·rintro (h|⟨i,b,h0,h⟩)
   ·exact⟨0,a,rfl,h⟩
   ·exact⟨i+1,b,h0,by rw[show q+(i+1)=q+1+i by omega];exact h⟩
  ·rintro ⟨i,b,h0,h⟩;cases i with
   |zero=>cases h0;exact .inl h
   |succ i=>exact .inr ⟨i,b,h0,by rw[show q+1+i=q+(i+1)by omega];exact h⟩
theorem Ji:∀{l:aA fj} {p:aF} {os:aA (aA AA)} {k:aF} {c:eQ},(k,c)∈Lq p l os↔∃i a,l[i]? =ah a/\(k,c)∈CE (p+i) a (os.getD i []):=by
 intro l;induction l with
 |nil=>intro p os k c;simp[Lq]
 |cons a l ih=>
  intro p os k c;have h0:os.headD []=os.getD 0 []:=by cases os<;>rfl
  have h1:∀i,os.tail.getD i []=os.getD (i+1) []:=λi=>by cases os<;>simp
  simp only[Lq,ba,ih,h0,h1];constructor
  ·rintro (h|⟨i,b,hb,h⟩)
   ·exact⟨0,a,rfl,h⟩
   ·exact⟨i+1,b,hb,by rw[show p+(i+1)=p+1+i by omega];exact h⟩
  ·rintro ⟨i,b,hb,h⟩;cases i with
   |zero=>cases hb;exact .inl h
   |succ i=>exact .inr ⟨i,b,hb,by rw[show p+1+i=p+(i+1)by omega];exact h⟩
theorem zC{p j:aF}{a b:AA}{k:aF}{c:eQ}:(k,c)∈Jv p j a b↔(∃e ex z ys,a= .ow e ex z/\b= .kp ys/\k=c9 (dS p j)/\c= .o (.row e ex ys))\/∃e ex ys,b= .ow e ex ys/\k=c9 (dS p (100+j))/\c= .o (.row e ex ys):=by
 cases b with
 |kp ys=>
  cases a with
  |ow e ex z=>
   constructor
   ·intro h;have h:=aZ.1 h;cases h;exact .inl ⟨e,ex,z,ys,rfl,rfl,rfl,rfl⟩
   ·rintro (⟨e',uo,z',Dm,h1,h2,h3,h4⟩|⟨_,_,_,h,_⟩)
    ·cases h1;cases h2;rw[h3,h4];exact aZ.2 rfl
    ·cases h
  |_=>simp[Jv]
 |ow e ex ys=>
  constructor
  ·intro h;have h:=aZ.1 h;cases h;exact .inr ⟨e,ex,ys,rfl,rfl,rfl⟩
  ·rintro (⟨_,_,_,_,_,h,_⟩|⟨e',uo,Dm,h2,h3,h4⟩)
   ·cases h
   ·cases h2;rw[h3,h4];exact aZ.2 rfl
 |_=>simp[Jv]
theorem La{p:aF}:∀{l:aA AA} {j:aF} {as:aA AA} {k:aF} {c:eQ},(k,c)∈tJ p j as l↔∃i b,l[i]? =ah b/\(k,c)∈Jv p (j+i) (as.getD i .nl) b:=by
 intro l;induction l with
 |nil=>intro j as k c;simp[tJ]
 |cons b l ih=>
  intro j as k c;have h0:as.headD .nl=as.getD 0 .nl:=by cases as<;>rfl
  have h1:∀i,as.tail.getD i .nl=as.getD (i+1) .nl:=λi=>by cases as<;>simp
  simp only[tJ,ba,ih,h0,h1];constructor
  ·rintro (h|⟨i,b',hb,h⟩)
   ·exact⟨0,b,rfl,h⟩
   ·exact⟨i+1,b',hb,by rw[show j+(i+1)=j+1+i by omega];exact h⟩
  ·rintro ⟨i,b',hb,h⟩;cases i with
   |zero=>cases hb;exact .inl h
   |succ i=>exact .inr ⟨i,b',hb,by rw[show j+1+i=j+(i+1)by omega];exact h⟩
theorem GO{xs:aA AA}{i e:aF}{ex:aW}{z:aQ}:xs.getD i .nl= .ow e ex z↔xs[i]? =ah (.ow e ex z):=by
 rw[cY];cases h:xs[i]? with
 |none=>simp
 |some x=>simp
theorem qL{p:aF}{a:fj}{l:aA AA}{k:aF}{c:eQ}:(k,c)∈CE p a l↔(∃xs,a= .pt xs/\k=c9 (dS p 900)/\c= .o (.box (oa p 0 l)))\/∃xs,L9 a xs/\((∃j e ex z ys,xs[j]? =ah (.ow e ex z)/\l[j]? =ah (.kp ys)/\k=c9 (dS p j)/\c= .o (.row e ex ys))\/∃j e ex ys,l[j]? =ah (.ow e ex ys)/\k=c9 (dS p (100+j))/\c= .o (.row e ex ys)):=by
 have cells:∀xs,(k,c)∈tJ p 0 xs l↔((∃j e ex z ys,xs[j]? =ah (.ow e ex z)/\l[j]? =ah (.kp ys)/\k=c9 (dS p j)/\c= .o (.row e ex ys))\/∃j e ex ys,l[j]? =ah (.ow e ex ys)/\k=c9 (dS p (100+j))/\c= .o (.row e ex ys)):=by
  intro xs;rw[La];constructor
  ·rintro ⟨i,b,hb,h⟩;rw[bV]at h;rcases zC.1 h with ⟨e,ex,z,ys,h1,rfl,h2,h3⟩|⟨e,ex,ys,rfl,h2,h3⟩
   ·exact .inl ⟨i,e,ex,z,ys,GO.1 h1,hb,h2,h3⟩
   ·exact .inr ⟨i,e,ex,ys,hb,h2,h3⟩
  ·rintro (⟨i,e,ex,z,ys,h1,hb,h2,h3⟩|⟨i,e,ex,ys,hb,h2,h3⟩)
   ·exact⟨i,_,hb,zC.2 (.inl ⟨e,ex,z,ys,GO.2 h1,rfl,by rw[bV];exact h2,h3⟩)⟩
   ·exact⟨i,_,hb,zC.2 (.inr ⟨e,ex,ys,rfl,by rw[bV];exact h2,h3⟩)⟩
 cases a with
 |v g xs=>
  simp only[CE,cells];constructor
  ·intro h;exact .inr ⟨xs, .inl ⟨g,rfl⟩,h⟩
  ·rintro (⟨ys,h,_⟩|⟨ys,h|h,h'⟩)
   ·cases h
   ·obtain⟨g',h⟩:=h;cases h;exact h'
   ·cases h
 |pt xs=>
  simp only[CE,cy,cells,jf];constructor
  ·rintro (⟨h1,h2⟩|h)
   ·exact .inl ⟨xs,rfl,h1,h2⟩
   ·exact .inr ⟨xs, .inr rfl,h⟩
  ·rintro (⟨ys,h,h1,h2⟩|⟨ys,h|h,h'⟩)
   ·exact .inl ⟨h1,h2⟩
   ·obtain⟨g',h⟩:=h;cases h
   ·cases h;exact .inr h'
 |fb xs=>
  simp only[CE,gA,false_iff];rintro (⟨ys,h,_⟩|⟨ys,h|h,_⟩)
  ·cases h
  ·obtain⟨g',h⟩:=h;cases h
  ·cases h
theorem wW{args:aA fj}{r:dB}{m:aF}{c:eQ}:(c9 m,c)∈Lx 500 r.rs++Lq 0 args r.outs↔Bv args r m c:=by
 rw[ba,Jj,Ji];constructor
 ·rintro (⟨q,a,h0,h⟩|⟨p,a,h0,h⟩)
  ·rcases iy.1 h with ⟨xs,rfl,h1,rfl⟩|⟨xs,j,e,ex,ys,hx,hj,h1,rfl⟩
   ·rw[jU h1];exact .rb q xs h0
   ·rw[jU h1];exact .rr q a xs j e ex ys h0 hx hj
  ·rw[bV]at h;rcases qL.1 h with ⟨xs,rfl,h1,rfl⟩|⟨xs,hx,⟨j,e,ex,z,ys,h2,h3,h1,rfl⟩|⟨j,e,ex,ys,h3,h1,rfl⟩⟩
   ·rw[jU h1];exact .ob p xs h0
   ·rw[jU h1];exact .kp p a xs j e ex z ys h0 hx h2 h3
   ·rw[jU h1];exact .nw p a xs j e ex ys h0 hx h3
 ·intro h;cases h with
  |rb q xs h0=>exact .inl ⟨q,_,h0,iy.2 (.inl ⟨xs,rfl,rfl,rfl⟩)⟩
  |rr q a xs j e ex ys h0 hx hj=>exact .inl ⟨q,a,h0,iy.2 (.inr ⟨xs,j,e,ex,ys,hx,hj,rfl,rfl⟩)⟩
  |ob p xs h0=>exact .inr ⟨p,_,h0,qL.2 (.inl ⟨xs,rfl,by rw[bV],by rw[bV]⟩)⟩
  |kp p a xs j e ex z ys h0 hx h2 h3=>exact .inr ⟨p,a,h0,qL.2 (.inr ⟨xs,hx, .inl ⟨j,e,ex,z,ys,h2,h3,by rw[bV],rfl⟩⟩)⟩
  |nw p a xs j e ex ys h0 hx h3=>exact .inr ⟨p,a,h0,qL.2 (.inr ⟨xs,hx, .inr ⟨j,e,ex,ys,h3,by rw[bV],rfl⟩⟩)⟩
def Zl:az AA->az eQ
 |some (.ow e ex ys)=>ah (.o (.row e ex ys))|_=>aj
def kpC(a b:az AA):az eQ:=
 match a,b with|some (.ow e ex _),ah (.kp ys)=>ah (.o (.row e ex ys))|_,_=>aj
def RW:fj->aA AA| .v _ xs=>xs| .pt xs=>xs| .fb _=>[]
theorem L9.eq{a:fj}{xs:aA AA}(h:L9 a xs):RW a=xs:=by rcases h with ⟨g,rfl⟩|rfl<;>rfl
def EB(args:aA fj)(r:dB)(P J:aF):az eQ:=
 if 500<=P then(match r.rs[P-500]? with
  |some a=>if J=900 then ah (.o (.box (gu (dS P 0) (RW a))))else Zl (RW a)[J]?
  |none=>aj)
 else(match args[P]? with
  |some a=>if J=900 then ah (.o (.box (oa P 0 (r.outs.getD P []))))else if J<100 then kpC (RW a)[J]? (r.outs.getD P [])[J]? else Zl (r.outs.getD P [])[J-100]?
  |none=>aj)
structure Small (args:aA fj) (r:dB):Prop where
 a:∀(p:aF) (a:fj) (xs:aA AA),args[p]? =ah a->L9 a xs->p<500
 rl:∀(q:aF) (a:fj) (xs:aA AA),r.rs[q]? =ah a->L9 a xs->xs.length<=100
 o:∀p:aF,(r.outs.getD p []).length<=100
theorem IB{args:aA fj}{r:dB}(hs:Small args r){m:aF}{c:eQ}(h:Bv args r m c):∃P J,m=dS P J/\J<1000/\EB args r P J=ah c:=by
 cases h with
 |rb q xs h0=>exact⟨500+q,900,rfl,by omega,by simp[EB,h0,RW]⟩
 |rr q a xs j e ex ys h0 hx hj=>
  have:=hs.rl q a xs h0 hx;have jY:=(aT.1 hj).1;refine⟨500+q,j,rfl,by omega, ?_⟩
  have:j≠900:=by omega
  simp[EB,h0,hx.eq,hj,this,Zl]
 |ob p xs h0=>
  have:=hs.a p _ xs h0 (.inr rfl);have:¬500<=p:=by omega
  exact⟨p,900,rfl,by omega,by simp[EB,h0,this]⟩
 |kp p a xs j e ex z ys h0 hx h2 h3=>
  have:=hs.a p _ xs h0 hx;have h5:¬500<=p:=by omega
  have jY:=(aT.1 h3).1;have:=hs.o p;have O0:j≠900:=by omega
  have Qj:j<100:=by omega
  refine⟨p,j,rfl,by omega, ?_⟩
  simp only[EB,h0,hx.eq,h2,h3,O0,Qj,h5,if_false,if_true,kpC]
 |nw p a xs j e ex ys h0 hx h3=>
  have:=hs.a p _ xs h0 hx;have h5:¬500<=p:=by omega
  have jY:=(aT.1 h3).1;have:=hs.o p;have O0:¬100+j=900:=by omega
  have Qj:¬100+j<100:=by omega
  refine⟨p,100+j,rfl,by omega, ?_⟩
  have hj3:100+j-100=j:=by omega
  simp only[EB,h0,h3,O0,Qj,hj3,h5,if_false,Zl]
theorem zM:∀{l:aA (aF×eQ)} {k:aF} {c:eQ},(k,c)∈l->(∀c',(k,c')∈l->c'=c)->fK l k=c:=by
 intro l;induction l with
 |nil=>intro k c h;cases h
 |cons d l ih=>
  obtain⟨k',c'⟩:=d;intro k c h hu;unfold fK;cases hb:bC k k' with
  |true=>have:=aU hb;subst this;exact hu c' (dn ..)
  |false=>
   rcases cy.1 h with h|h
   ·cases h;simp at hb
   ·exact ih h (λc'' h''=>hu c'' (c7 _ h''))
theorem wV{args:aA fj}{r:dB}(hs:Small args r){m:aF}{c:eQ}(h:Bv args r m c):ot args r (c9 m)=c:=by refine zM (wW.2 h) (λc' h'=> ?_);obtain⟨P,J,h1,h2,h3⟩:=IB hs h;obtain⟨P',J',KM,OT,M8⟩:=IB hs (wW.1 h');obtain⟨rfl,rfl⟩:=uA h2 OT (h1.symm.trans KM);rw[h3]at M8;cases M8;rfl
theorem qJ{args:aA fj}{r:dB}{m:aF}{o:Obj}(h:ot args r (c9 m)= .o o):Bv args r m (.o o):=wW.1 (nU h (by simp))
theorem v9{p:aF}:∀{xs:aA AA} {j i:aF},(oa p j xs)[i]? =(xs[i]?).map (tI p (j+i)):=by
 intro xs;induction xs with
 |nil=>intro j i;simp[oa]
 |cons a xs ih=>
  intro j i;cases i with
  |zero=>rfl
  |succ i=>simp only[oa,dO,ih];congr 2;omega
theorem vk{p:aF}:∀{xs:aA AA} {j:aF},(oa p j xs).length=xs.length:=by
 intro xs;induction xs with
 |nil=>intro j;rfl
 |cons a xs ih=>intro j;simp[oa,ih]
theorem E1:∀{l:aA fj} {q i:aF},(lC q l)[i]? =(l[i]?).map (Gr (q+i)):=by
 intro l;induction l with
 |nil=>intro q i;simp[lC]
 |cons a l ih=>
  intro q i;cases i with
  |zero=>rfl
  |succ i=>simp only[lC,dO,ih];congr 2;omega
theorem xF:∀{l:aA fj} {q:aF},(lC q l).length=l.length:=by
 intro l;induction l with
 |nil=>intro q;rfl
 |cons a l ih=>intro q;simp[lC,ih]
end Go.FG

namespace Go.FG
def mz(L:aA Dp):aA (aF×eQ):=kg (L.map λt=>(t.1,t.2.2))
theorem iM(L R:aA Dp):mz (L++R)=mz L++mz R:=by simp[mz,kg]
def QB(ok:aW)(σ:St)(n:aF)(a:AA):Prop:=
 match a with
 | .ow _ ex _=>(ex=ai\/ok=ai)/\σ (c9 n)= .jZ/\n<900000000
 | .sh _ _=>ok=ai| .kp _=>False| .fn _ _=>False|_=>True
def Pp(n x:aF)(a:AA):aA Dp:=match a with| .ow e ex ys=>[(n,ah x, .row e ex ys)]|_=>[]
theorem Jh{n x:aF}{a:AA}{m:aF}{t:az aF}{ob:Obj}:(m,t,ob)∈Pp n x a↔∃e ex ys,a= .ow e ex ys/\m=n/\t=ah x/\ob= .row e ex ys:=by
 cases a with
 |ow e ex ys=>
  constructor
  ·intro h;have h:=aZ.1 h;cases h;exact⟨e,ex,ys,rfl,rfl,rfl,rfl⟩
  ·rintro ⟨e',uo,Dm,h,rfl,rfl,rfl⟩;cases h;exact aZ.2 rfl
 |_=>simp[Pp]
theorem lY.mono{ok:aW}{L L':aA Dp}{v v3:AV}(h:lY ok L v v3)(hs:∀e∈L,e∈L'):lY ok L' v v3:=h.imp id (λ⟨n,x,ob,h1,h2,h3⟩=>⟨n,x,ob,h1,h2,hs _ h3⟩)
theorem nM.mono{ok:aW}{L L':aA Dp}{v v3:aA AV}(h:nM ok L v v3)(hs:∀e∈L,e∈L'):nM ok L' v v3:=⟨h.1,λj x y hx hy=>(h.2 j x y hx hy).mono hs⟩
section
variable {P:c5} {E:fO} {σ:St} {a:Act} {w:bM} {c:e9} {o:fA} {nm:aF} {e:sR}
theorem Es{ok:aW}{n:aF}{a:AA}{v:AV}{ws:aA (aF×eQ)}(h:(rJ ok n a).val σ=ah (v,ws)):QB ok σ n a/\v=lB n a/\∀x,ws=mz (Pp n x a)/\lY ok (Pp n x a) v (lB x a):=by
 cases a with
 |i=>obtain⟨rfl,rfl⟩:=bW (aJ h);exact⟨trivial,rfl,λx=>⟨rfl, .inl ⟨rfl,trivial⟩⟩⟩
 |b=>obtain⟨rfl,rfl⟩:=bW (aJ h);exact⟨trivial,rfl,λx=>⟨rfl, .inl ⟨rfl,trivial⟩⟩⟩
 |s=>obtain⟨rfl,rfl⟩:=bW (aJ h);exact⟨trivial,rfl,λx=>⟨rfl, .inl ⟨rfl,trivial⟩⟩⟩
 |nl=>obtain⟨rfl,rfl⟩:=bW (aJ h);exact⟨trivial,rfl,λx=>⟨rfl, .inl ⟨rfl,trivial⟩⟩⟩
 |sh e xs=>obtain⟨h1,h⟩:=cR h;obtain⟨rfl,rfl⟩:=bW (aJ h);exact⟨h1,rfl,λx=>⟨rfl, .inl ⟨rfl,h1⟩⟩⟩
 |ow e ex xs=>obtain⟨h1,h⟩:=cR h;obtain⟨u,h2,h⟩:=Rd.bind_some h;obtain⟨rfl,rfl⟩:=bW (aJ h);obtain⟨f1,f2⟩:=kI h2;exact⟨⟨by simpa using h1,f1,f2⟩,rfl,λx=>⟨rfl, .inr ⟨n,x,_,rfl,rfl,aZ.2 rfl⟩⟩⟩
 |kp=>simp[rJ]at h
 |fn=>simp[rJ]at h
theorem BQ{ok:aW}{P:aF}:∀{xs:aA AA} {n j:aF} {vs:aA AV} {ws:aA (aF×eQ)},(A4 ok n xs).val σ=ah (vs,ws)->vs=gu n xs/\(∀(i:aF) (a:AA),xs[i]? =ah a->QB ok σ (n+i) a)/\
  ∃L,ws=mz L/\(∀m t ob,(m,t,ob)∈L↔∃i e ex ys,xs[i]? =ah (.ow e ex ys)/\m=n+i/\t=ah (dS P (j+i))/\ob= .row e ex ys)/\∀(i:aF) (v:AV) (a:AA),vs[i]? =ah v->xs[i]? =ah a->lY ok L v (lB (dS P (j+i)) a):=by
 intro xs;induction xs with
 |nil=>intro n j vs ws h;obtain⟨rfl,rfl⟩:=bW (aJ h);exact⟨rfl,λi a h=>by simp at h,[],rfl,λm t ob=>by simp,λi v a h=>by simp at h⟩
 |cons a xs ih=>
  intro n j vs ws h;obtain⟨⟨v,w1⟩,h1,h⟩:=Rd.bind_some h;obtain⟨⟨vr,w2⟩,h2,h⟩:=Rd.bind_some h;obtain⟨rfl,rfl⟩:=bW (aJ h);obtain⟨b1,rfl,b2⟩:=Es h1;obtain⟨rfl,b3⟩:=b2 (dS P j);obtain⟨i1,i2,L,rfl,i3,i4⟩:=ih (j:=j+1) h2;refine⟨by rw[i1];rfl,λi a' hi=> ?_,Pp n (dS P j) a++L,by rw[iM],λm t ob=> ?_,λi v' a' hv ha=> ?_⟩
  ·cases i with
   |zero=>cases hi;exact b1
   |succ i=>have:=i2 i a' hi;rwa[show n+1+i=n+(i+1)by omega]at this
  ·rw[ba,Jh,i3];constructor
   ·rintro (⟨e,ex,ys,rfl,rfl,rfl,rfl⟩|⟨i,e,ex,ys,h1,rfl,rfl,rfl⟩)
    ·exact⟨0,e,ex,ys,rfl,rfl,rfl,rfl⟩
    ·exact⟨i+1,e,ex,ys,h1,by omega,by rw[show j+1+i=j+(i+1)by omega],rfl⟩
   ·rintro ⟨i,e,ex,ys,h1,rfl,rfl,rfl⟩;cases i with
    |zero=>cases h1;exact .inl ⟨e,ex,ys,rfl,rfl,rfl,rfl⟩
    |succ i=>exact .inr ⟨i,e,ex,ys,h1,by omega,by rw[show j+1+i=j+(i+1)by omega],rfl⟩
  ·cases i with
   |zero=>cases hv;cases ha;exact b3.mono (λe he=>bN _ he)
   |succ i=>have:=(i4 i v' a' hv ha).mono (L':=Pp n (dS P j) a++L) (λe he=>bO _ he);rwa[show j+1+i=j+(i+1)by omega]at this
def H3(σ:St)(ok:aW)(b P:aF)(x:fj)(L:aA Dp)(n:aF)(t:az aF)(ob:Obj):Prop:=
 (∃xs j e ex ys,L9 x xs/\xs[j]? =ah (.ow e ex ys)/\n=b+j/\t=ah (dS P j)/\ob= .row e ex ys/\(ex=ai\/ok=ai)/\σ (c9 n)= .jZ/\n<900000000)\/
 ∃xs,x= .pt xs/\n=b+30/\t=ah (dS P 900)/\ob= .box (gu b xs)/\σ (c9 n)= .jZ/\n<900000000/\nM ok L (gu b xs) (gu (dS P 0) xs)
theorem Kn{ok:aW}{b P:aF}{x:fj}{s:aW×aA AV}{ws:aA (aF×eQ)}(h:(Gt ok b x).val σ=ah (s,ws)):∃L,ws=mz L/\(∀n t ob,(n,t,ob)∈L->H3 σ ok b P x L n t ob)/\ArgRel ok L s (Gr P x):=by
 have tF:∀j,dS P (0+j)=dS P 0+j:=λj=>by unfold dS;omega
 cases x with
 |v g xs=>
  obtain⟨⟨vs,w1⟩,h1,h⟩:=Rd.bind_some h;obtain⟨rfl,rfl⟩:=bW (aJ h);obtain⟨rfl,i2,L,rfl,i3,i4⟩:=BQ (P:=P) (j:=0) h1;refine⟨L,rfl,λn t ob hm=> ?_,rfl,by simp[Gr,iS],λj v v3 hv DU=> .inl ?_⟩
  ·obtain⟨i,e,ex,ys,h1,rfl,rfl,rfl⟩:=(i3 n t ob).1 hm;have:=i2 i _ h1;exact .inl ⟨xs,i,e,ex,ys, .inl ⟨g,rfl⟩,h1,rfl,by rw[bV],rfl,this⟩
  ·have DU:(gu (dS P 0) xs)[j]? =ah v3:=DU;rw[iB]at DU;cases hx:xs[j]? with
   |none=>rw[hx]at DU;cases DU
   |some a=>rw[hx]at DU;cases DU;have:=i4 j v a hv hx;rwa[tF]at this
 |pt xs=>
  obtain⟨⟨vs,w1⟩,h1,h⟩:=Rd.bind_some h;obtain⟨u,h2,h⟩:=Rd.bind_some h;obtain⟨rfl,rfl⟩:=bW (aJ h);obtain⟨f1,f2⟩:=kI h2;obtain⟨rfl,i2,L,rfl,i3,i4⟩:=BQ (P:=P) (j:=0) h1;have cr:nM ok L (gu b xs) (gu (dS P 0) xs):=by
   refine⟨by rw[iS,iS],λj v v3 hv DU=> ?_⟩
   rw[iB]at DU;cases hx:xs[j]? with
   |none=>rw[hx]at DU;cases DU
   |some a=>rw[hx]at DU;cases DU;have:=i4 j v a hv hx;rwa[tF]at this
  refine⟨L++[(b+30,ah (dS P 900), .box (gu b xs))],by rw[iM];rfl,λn t ob hm=> ?_,rfl,rfl,λj v v3 hv DU=> .inr ?_⟩
  ·rcases ba.1 hm with hm|hm
   ·obtain⟨i,e,ex,ys,h1,rfl,rfl,rfl⟩:=(i3 n t ob).1 hm;have:=i2 i _ h1;exact .inl ⟨xs,i,e,ex,ys, .inr rfl,h1,rfl,by rw[bV],rfl,this⟩
   ·rw[aZ]at hm;cases hm;exact .inr ⟨xs,rfl,rfl,rfl,rfl,f1,f2,cr.mono (λe he=>bN _ he)⟩
  ·cases j with
   |zero=>cases hv;cases DU;exact⟨_,_,_,rfl,rfl,bO _ (aZ.2 rfl)⟩
   |succ j=>simp at hv
 |fb xs=>simp[Gt]at h
theorem ArgRel.mono{ok:aW}{L L':aA Dp}{s s3:aW×aA AV}(h:ArgRel ok L s s3)(hs:∀e∈L,e∈L'):ArgRel ok L' s s3:=⟨h.1,h.2.1,λj x y hx hy=>(h.2.2 j x y hx hy).imp (λh=>h.mono hs) (λ⟨n,x,ob,h1,h2,h3⟩=>⟨n,x,ob,h1,h2,hs _ h3⟩)⟩
theorem H3.mono{ok:aW}{b P:aF}{x:fj}{L L':aA Dp}{n:aF}{t:az aF}{ob:Obj}(h:H3 σ ok b P x L n t ob)(hs:∀e∈L,e∈L'):H3 σ ok b P x L' n t ob:=h.imp id (λ⟨xs,h1,h2,h3,h4,h5,h6,h7⟩=>⟨xs,h1,h2,h3,h4,h5,h6,h7.mono hs⟩)
theorem Ii{ok:aW}:∀{l:aA fj} {b P:aF} {ss:aA (aW×aA AV)} {ws:aA (aF×eQ)},(BR ok b l).val σ=ah (ss,ws)->∃L,ws=mz L/\(∀n t ob,(n,t,ob)∈L->∃q x,l[q]? =ah x/\H3 σ ok (b+40*q) (P+q) x L n t ob)/\Fh ok L ss (lC P l):=by
 intro l;induction l with
 |nil=>intro b P ss ws h;obtain⟨rfl,rfl⟩:=bW (aJ h);exact⟨[],rfl,λn t ob h=>(by cases h),rfl,λj x x3 h=>by simp at h⟩
 |cons x l ih=>
  intro b P ss ws h;obtain⟨⟨v,w1⟩,h1,h⟩:=Rd.bind_some h;obtain⟨⟨vr,w2⟩,h2,h⟩:=Rd.bind_some h;obtain⟨rfl,rfl⟩:=bW (aJ h);obtain⟨L1,rfl,a1,a2⟩:=Kn (P:=P) h1;obtain⟨L2,rfl,b1,b2,b3⟩:=ih (P:=P+1) h2;refine⟨L1++L2,by rw[iM],λn t ob hm=> ?_,by simp[lC,b2],λj s s3 hs hs3=> ?_⟩
  ·rcases ba.1 hm with hm|hm
   ·exact⟨0,x,rfl,(a1 n t ob hm).mono (λe he=>bN _ he)⟩
   ·obtain⟨q,y,hq,hr⟩:=b1 n t ob hm;refine⟨q+1,y,hq, ?_⟩
    rw[show b+40*(q+1)=b+40+40*q by omega,show P+(q+1)=P+1+q by omega];exact hr.mono (λe he=>bO _ he)
  ·cases j with
   |zero=>cases hs;cases hs3;exact a2.mono (λe he=>bN _ he)
   |succ j=>exact(b3 j s s3 hs hs3).mono (λe he=>bO _ he)
end
end Go.FG

namespace Go.FG
section
variable {P:c5} {E:fO} {σ:St} {a:Act} {w:bM} {c:e9} {o:fA} {nm:aF} {e:sR}
def qY(σ:St)(ok bx:aW)(b p j:aF)(k:Pk)(a:AA)(n:aF)(t:az aF)(ob:Obj):Prop:=
 (∃e ex,k.src= .own n e ex/\t=aj/\ob= .dead)\/
 (∃e ex ys,k.src= .own n e ex/\a= .kp ys/\t=ah (dS p j)/\ob= .row e ex ys/\(ex=ai\/ok=ai))\/
 ∃e ex ys,bx=ai/\a= .ow e ex ys/\n=b+j/\t=ah (dS p (100+j))/\ob= .row e ex ys/\(ex=ai\/ok=ai)/\σ (c9 n)= .jZ/\n<900000000
theorem Uh{ok:aW}{b p j:aF}{k:Pk}{a:AA}{ws:aA (aF×eQ)}(h:(EY ok k a).val σ=ah ws):∃L,ws=mz L/\(∀n t ob,(n,t,ob)∈L->qY σ ok ak b p j k a n t ob)/\∀n e ex,k.src= .own n e ex->∃t ob,(n,t,ob)∈L:=by
 cases hs:k.src with
 |no=>
  have h:(Rd.ret []:Rd (aA (aF×eQ))).val σ=ah ws:=by unfold EY at h;rw[hs]at h;exact h
  obtain rfl:=aJ h;exact⟨[],rfl,λn t ob h=>(by cases h),λn e ex h=>by cases h⟩
 |own n e ex=>
  cases a with
  |kp ys=>
   have h:(bif ex||ok then Rd.ret [(c9 n,eQ.o (.row e ex ys))]else .fail).val σ=ah ws:=by unfold EY at h;rw[hs]at h;exact h
   obtain⟨h1,h⟩:=cR h;obtain rfl:=aJ h;refine⟨[(n,ah (dS p j), .row e ex ys)],rfl,λm t ob hm=> ?_,λm e' uo h=> ?_⟩
   ·rw[aZ]at hm;cases hm;exact .inr (.inl ⟨e,ex,ys,hs,rfl,rfl,rfl,by simpa using h1⟩)
   ·cases h;exact⟨_,_,aZ.2 rfl⟩
  |nl=>
   have h:(Rd.ret [(c9 n,eQ.o .dead)]:Rd (aA (aF×eQ))).val σ=ah ws:=by unfold EY at h;rw[hs]at h;exact h
   obtain rfl:=aJ h;refine⟨[(n,aj, .dead)],rfl,λm t ob hm=> ?_,λm e' uo h=> ?_⟩
   ·rw[aZ]at hm;cases hm;exact .inl ⟨e,ex,hs,rfl,rfl⟩
   ·cases h;exact⟨_,_,aZ.2 rfl⟩
  |_=>unfold EY at h;rw[hs]at h;simp at h
theorem Pw{ok:aW}{b p:aF}:∀{r:aA Pk} {l:aA AA} {j:aF} {ws:aA (aF×eQ)},(Lt ok r l).val σ=ah ws->∃L,ws=mz L/\(∀n t ob,(n,t,ob)∈L->∃i k,r[i]? =ah k/\qY σ ok ak b p (j+i) k (l.getD i .nl) n t ob)/\
  ∀(i:aF) (k:Pk) (n e:aF) (ex:aW),r[i]? =ah k->k.src= .own n e ex->∃t ob,(n,t,ob)∈L:=by
 intro r;induction r with
 |nil=>intro l j ws h;obtain rfl:=aJ h;exact⟨[],rfl,λn t ob h=>(by cases h),λi k n e ex h=>by simp at h⟩
 |cons k r ih=>
  intro l j ws h;obtain⟨w1,h1,h⟩:=Rd.bind_some h;obtain⟨w2,h2,h⟩:=Rd.bind_some h;obtain rfl:=aJ h;obtain⟨L1,rfl,a1,a2⟩:=Uh (b:=b) (p:=p) (j:=j) h1;obtain⟨L2,rfl,b1,b2⟩:=ih (j:=j+1) h2;have e0:l.headD .nl=l.getD 0 .nl:=by cases l<;>rfl
  have e1:∀i,l.tail.getD i .nl=l.getD (i+1) .nl:=λi=>by cases l<;>simp
  refine⟨L1++L2,by rw[iM],λn t ob hm=> ?_,λi k' n e ex hk hs=> ?_⟩
  ·rcases ba.1 hm with hm|hm
   ·exact⟨0,k,rfl,by rw[<-e0];exact a1 n t ob hm⟩
   ·obtain⟨i,k',hk,hc⟩:=b1 n t ob hm;rw[e1]at hc;exact⟨i+1,k',hk,by rw[show j+(i+1)=j+1+i by omega];exact hc⟩
  ·cases i with
   |zero=>cases hk;obtain⟨t,ob,h⟩:=a2 n e ex hs;exact⟨t,ob,bN _ h⟩
   |succ i=>obtain⟨t,ob,h⟩:=b2 i k' n e ex hk hs;exact⟨t,ob,bO _ h⟩
theorem Pt{ok:aW}{b p j:aF}{k:Pk}{v v':AV}{a:AA}{ws:aA (aF×eQ)}(hv:∀n e ex,k.src= .own n e ex->v= .own n)(h:(CD ok (b+j) k v a).val σ=ah (v',ws)):
  ∃L,ws=mz L/\(∀n t ob,(n,t,ob)∈L->qY σ ok ai b p j k a n t ob)/\(∀n e ex,k.src= .own n e ex->∃t ob,(n,t,ob)∈L)/\lY ok L v' (tI p j a):=by
 have new:∀{v':AV} {ws:aA (aF×eQ)},(rJ ok (b+j) a).val σ=ah (v',ws)->∃L,ws=mz L/\(∀n t ob,(n,t,ob)∈L->qY σ ok ai b p j k a n t ob)/\lY ok L v' (tI p j a):=by
  intro v' ws h;obtain⟨b1,rfl,b2⟩:=Es h;obtain⟨rfl,b3⟩:=b2 (dS p (100+j));refine⟨_,rfl,λn t ob hm=> ?_, ?_⟩
  ·obtain⟨e,ex,ys,rfl,rfl,rfl,rfl⟩:=Jh.1 hm;exact .inr (.inr ⟨e,ex,ys,rfl,rfl,rfl,rfl,rfl,b1⟩)
  ·have:tI p j a=lB (dS p (100+j)) a:=by cases a<;>first|rfl|exact b1.elim
   rw[this];exact b3
 cases hs:k.src with
 |no=>
  have h:(rJ ok (b+j) a).val σ=ah (v',ws):=by unfold CD at h;rw[hs]at h;exact h
  obtain⟨L,rfl,a1,a2⟩:=new h;exact⟨L,rfl,a1,λm e' uo h=>(by cases h),a2⟩
 |own n e ex=>
  have other:((rJ ok (b+j) a).bind λ(x:AV×aA (aF×eQ))=>Rd.ret (x.1,(c9 n,eQ.o .dead)::x.2)).val σ=ah (v',ws)->∃L,ws=mz L/\(∀n t ob,(n,t,ob)∈L->qY σ ok ai b p j k a n t ob)/\(∀n' e' uo,Src.own n e ex= .own n' e' uo->∃t ob,(n',t,ob)∈L)/\lY ok L v' (tI p j a):=by
   intro h;obtain⟨⟨v1,w1⟩,h1,h⟩:=Rd.bind_some h;obtain⟨rfl,rfl⟩:=bW (aJ h);obtain⟨L,rfl,a1,a2⟩:=new h1;refine⟨(n,aj, .dead)::L,rfl,λm t ob hm=> ?_,λm e' uo h=> ?_,a2.mono (λe he=>c7 _ he)⟩
   ·rcases cy.1 hm with hm|hm
    ·cases hm;exact .inl ⟨e,ex,hs,rfl,rfl⟩
    ·exact a1 m t ob hm
   ·cases h;exact⟨_,_,dn ..⟩
  cases a with
  |kp ys=>
   have h:(bif ex||ok then Rd.ret (v,[(c9 n,eQ.o (.row e ex ys))])else .fail).val σ=ah (v',ws):=by unfold CD at h;rw[hs]at h;exact h
   obtain⟨h1,h⟩:=cR h;obtain⟨rfl,rfl⟩:=bW (aJ h);refine⟨[(n,ah (dS p j), .row e ex ys)],rfl,λm t ob hm=> ?_,λm e' uo h=> ?_, .inr ⟨n,dS p j,_,hv n e ex hs,rfl,aZ.2 rfl⟩⟩
   ·rw[aZ]at hm;cases hm;exact .inr (.inl ⟨e,ex,ys,hs,rfl,rfl,rfl,by simpa using h1⟩)
   ·cases h;exact⟨_,_,aZ.2 rfl⟩
  |_=>exact other (by unfold CD at h;rw[hs]at h;exact h)
theorem Lp{ok:aW}{b p:aF}:∀{r:aA Pk} {vs:aA AV} {l:aA AA} {j:aF} {J3:aA AV} {ws:aA (aF×eQ)},(∀(i:aF) (k:Pk) (n e:aF) (ex:aW),r[i]? =ah k->k.src= .own n e ex->vs[i]? =ah (.own n))->(rT ok (b+j) r vs l).val σ=ah (J3,ws)->
  l.length=r.length/\∃L,ws=mz L/\(∀n t ob,(n,t,ob)∈L->∃i k,r[i]? =ah k/\qY σ ok ai b p (j+i) k (l.getD i .nl) n t ob)/\
  (∀(i:aF) (k:Pk) (n e:aF) (ex:aW),r[i]? =ah k->k.src= .own n e ex->∃t ob,(n,t,ob)∈L)/\J3.length=l.length/\∀(i:aF) (v:AV) (a:AA),J3[i]? =ah v->l[i]? =ah a->lY ok L v (tI p (j+i) a):=by
 intro r;induction r with
 |nil=>
  intro vs l j J3 ws hv h;cases vs with
  |cons=>cases l<;>simp[rT]at h
  |nil=>
   cases l with
   |cons=>simp[rT]at h
   |nil=>obtain⟨rfl,rfl⟩:=bW (aJ h);exact⟨rfl,[],rfl,λn t ob h=>(by cases h),λi k n e ex h=>by simp at h,rfl,λi v a h=>by simp at h⟩
 |cons k r ih=>
  intro vs l j J3 ws hv h;cases vs with
  |nil=>cases l<;>simp[rT]at h
  |cons v vs=>
   cases l with
   |nil=>simp[rT]at h
   |cons a l=>
    obtain⟨⟨v1,w1⟩,h1,h⟩:=Rd.bind_some h;obtain⟨⟨vr,w2⟩,h2,h⟩:=Rd.bind_some h;obtain⟨rfl,rfl⟩:=bW (aJ h);obtain⟨L1,rfl,a1,a2,a3⟩:=Pt (p:=p) (λn e ex hs=>by have:=hv 0 k n e ex rfl hs;simpa using this) h1;obtain⟨i0,L2,rfl,b1,b2,b3,b4⟩:=ih (j:=j+1) (λi k' n e ex hk hs=>hv (i+1) k' n e ex hk hs) h2;refine⟨by simp[i0],L1++L2,by rw[iM],λn t ob hm=> ?_,λi k' n e ex hk hs=> ?_,by simp[b3],λi v' a' hv' ha'=> ?_⟩
    ·rcases ba.1 hm with hm|hm
     ·exact⟨0,k,rfl,a1 n t ob hm⟩
     ·obtain⟨i,k',hk,hc⟩:=b1 n t ob hm;exact⟨i+1,k',hk,by rw[show j+(i+1)=j+1+i by omega];exact hc⟩
    ·cases i with
     |zero=>cases hk;obtain⟨t,ob,h⟩:=a2 n e ex hs;exact⟨t,ob,bN _ h⟩
     |succ i=>obtain⟨t,ob,h⟩:=b2 i k' n e ex hk hs;exact⟨t,ob,bO _ h⟩
    ·cases i with
     |zero=>cases hv';cases ha';exact a3.mono (λe he=>bN _ he)
     |succ i=>have:=(b4 i v' a' hv' ha').mono (L':=L1++L2) (λe he=>bO _ he);rwa[show j+1+i=j+(i+1)by omega]at this
def H0(σ:St)(ok:aW)(b p:aF)(pa:Pa)(l:aA AA)(L:aA Dp)(n:aF)(t:az aF)(ob:Obj):Prop:=
 (∃i k,pa.cs[i]? =ah k/\qY σ ok pa.box.isSome b p i k (l.getD i .nl) n t ob)\/∃xs J3,pa.box=ah (n,xs)/\t=ah (dS p 900)/\ob= .box J3/\nM ok L J3 (oa p 0 l)
theorem Ug{T:Tab}{nI:aA aF}{v:bk}{ok:aW}{b p:aF}{pa:Pa}(KW:Au T σ w c nI pa v){l:aA AA}{ws:aA (aF×eQ)}(h:(Uf ok b pa l).val σ=ah ws):
  ∃L,ws=mz L/\(∀n t ob,(n,t,ob)∈L->H0 σ ok b p pa l L n t ob)/\∀n∈pa.uw,∃t ob,(n,t,ob)∈L:=by
 have cs:∀n,n∈pa.cs.flatMap (·.uw)->∃(i:aF) (k:Pk) (e:aF) (ex:aW),pa.cs[i]? =ah k/\k.src= .own n e ex:=by
  intro n hn;obtain⟨k,hk,hn⟩:=bP.1 hn;obtain⟨i,hi⟩:=bY hk;unfold Pk.uw at hn;split at hn
  ·rename_i m e ex hs;have:=aZ.1 hn;subst this;exact⟨i,k,e,ex,hi,hs⟩
  ·cases hn
 unfold Uf at h;split at h
 ·rename_i n xs hb;obtain⟨⟨J3,w1⟩,h1,h⟩:=Rd.bind_some h;obtain rfl:=aJ h;obtain⟨_,_,_,hl,_,vW⟩:=KW.box n xs hb;obtain⟨i0,L,rfl,a1,a2,a3,a4⟩:=Lp (b:=b) (p:=p) (j:=0) vW (by rw[yL];exact h1);have cr:nM ok L J3 (oa p 0 l):=by
   refine⟨by rw[vk,a3],λi v v3 hv DU=> ?_⟩
   rw[v9]at DU;cases hx:l[i]? with
   |none=>rw[hx]at DU;cases DU
   |some y=>rw[hx]at DU;cases DU;exact a4 i v y hv hx
  refine⟨L++[(n,ah (dS p 900), .box J3)],by rw[iM];rfl,λm t ob hm=> ?_,λm hm=> ?_⟩
  ·rcases ba.1 hm with hm|hm
   ·obtain⟨i,k,hk,hc⟩:=a1 m t ob hm;rw[bV]at hc;exact .inl ⟨i,k,hk,by rw[hb];exact hc⟩
   ·rw[aZ]at hm;cases hm;exact .inr ⟨xs,J3,hb,rfl,rfl,cr.mono (λe he=>bN _ he)⟩
  ·unfold Pa.uw at hm;rw[hb]at hm;rcases ba.1 hm with hm|hm
   ·have:=aZ.1 hm;subst this;exact⟨_,_,bO _ (aZ.2 rfl)⟩
   ·obtain⟨i,k,e,ex,hk,hs⟩:=cs m hm;obtain⟨t,ob,h⟩:=a2 i k m e ex hk hs;exact⟨t,ob,bN _ h⟩
 ·rename_i hb;obtain⟨L,rfl,a1,a2⟩:=Pw (b:=b) (p:=p) (j:=0) h;refine⟨L,rfl,λm t ob hm=> ?_,λm hm=> ?_⟩
  ·obtain⟨i,k,hk,hc⟩:=a1 m t ob hm;rw[bV]at hc;exact .inl ⟨i,k,hk,by rw[hb];exact hc⟩
  ·unfold Pa.uw at hm;rw[hb,gz]at hm;obtain⟨i,k,e,ex,hk,hs⟩:=cs m hm;exact a2 i k m e ex hk hs
theorem H0.mono{ok:aW}{b p:aF}{pa:Pa}{l:aA AA}{L L':aA Dp}{n:aF}{t:az aF}{ob:Obj}(h:H0 σ ok b p pa l L n t ob)(hs:∀e∈L,e∈L'):H0 σ ok b p pa l L' n t ob:=
 h.imp id (λ⟨xs,J3,h1,h2,h3,h4⟩=>⟨xs,J3,h1,h2,h3,h4.mono hs⟩)
theorem Pv{T:Tab}{nI:aA aF}{ok:aW}:∀{ps:aA Pa} {b p:aF} {os:aA (aA AA)} {ws:aA (aF×eQ)},(∀(q:aF) (pa:Pa),ps[q]? =ah pa->∃v,Au T σ w c nI pa v)->(Ls ok b ps os).val σ=ah ws->
  ∃L,ws=mz L/\(∀n t ob,(n,t,ob)∈L->∃q pa,ps[q]? =ah pa/\H0 σ ok (b+40*q) (p+q) pa (os.getD q []) L n t ob)/\∀n∈ps.flatMap (·.uw),∃t ob,(n,t,ob)∈L:=by
 intro ps;induction ps with
 |nil=>intro b p os ws _ h;obtain rfl:=aJ h;exact⟨[],rfl,λn t ob h=>(by cases h),λn h=>(by cases h)⟩
 |cons pa ps ih=>
  intro b p os ws GV h;obtain⟨w1,h1,h⟩:=Rd.bind_some h;obtain⟨w2,h2,h⟩:=Rd.bind_some h;obtain rfl:=aJ h;obtain⟨v,KW⟩:=GV 0 pa rfl;obtain⟨L1,rfl,a1,a2⟩:=Ug (p:=p) KW h1;obtain⟨L2,rfl,b1,b2⟩:=ih (p:=p+1) (λq pa' hq=>GV (q+1) pa' hq) h2;have e0:os.headD []=os.getD 0 []:=by cases os<;>rfl
  have e1:∀i,os.tail.getD i []=os.getD (i+1) []:=λi=>by cases os<;>simp
  refine⟨L1++L2,by rw[iM],λn t ob hm=> ?_,λn hn=> ?_⟩
  ·rcases ba.1 hm with hm|hm
   ·exact⟨0,pa,rfl,by rw[<-e0];exact(a1 n t ob hm).mono (λe he=>bN _ he)⟩
   ·obtain⟨q,pa',hq,hc⟩:=b1 n t ob hm;rw[e1]at hc;refine⟨q+1,pa',hq, ?_⟩
    rw[show b+40*(q+1)=b+40+40*q by omega,show p+(q+1)=p+1+q by omega];exact hc.mono (λe he=>bO _ he)
  ·rw[yJ]at hn;rcases ba.1 hn with hn|hn
   ·obtain⟨t,ob,h⟩:=a2 n hn;exact⟨t,ob,bN _ h⟩
   ·obtain⟨t,ob,h⟩:=b2 n hn;exact⟨t,ob,bO _ h⟩
theorem Sw:∀{l:aA aF} {ws:aA (aF×eQ)},(Sv l).val σ=ah ws->∃Fz:aA (aF×Obj),ws=kg Fz/\(∀n x,(n,x)∈Fz->n∈l/\∃el ex xs,σ (c9 n)= .o (.row el ex xs)/\x= .fQ el xs)/\∀n∈l,∃x,(n,x)∈Fz:=by
 intro l;induction l with
 |nil=>intro ws h;obtain rfl:=aJ h;exact⟨[],rfl,λn x h=>(by cases h),λn h=>(by cases h)⟩
 |cons m l ih=>
  intro ws h;obtain⟨ob,hg,h⟩:=Rd.bind_some h;have hg:=dA hg;cases ob with
  |row el ex xs=>
   obtain⟨w1,h1,h⟩:=Rd.bind_some h;obtain rfl:=aJ h;obtain⟨Fz,rfl,a1,a2⟩:=ih h1;refine⟨(m, .fQ el xs)::Fz,rfl,λn x hm=> ?_,λn hn=> ?_⟩
   ·rcases cy.1 hm with hm|hm
    ·cases hm;exact⟨dn ..,el,ex,xs,hg,rfl⟩
    ·obtain⟨h1,h2⟩:=a1 n x hm;exact⟨c7 _ h1,h2⟩
   ·rcases cy.1 hn with rfl|hn
    ·exact⟨_,dn ..⟩
    ·obtain⟨x,h⟩:=a2 n hn;exact⟨x,c7 _ h⟩
  |_=>simp at h
end
end Go.FG

namespace Go.FG
section
variable {P:c5} {E:fO} {σ:St} {a:Act} {w:bM} {c:e9} {o:fA} {nm:aF} {e:sR}
theorem akV{T:Tab}{nI:aA aF}{pa:Pa}{v:bk}(h:Au T σ w c nI pa v):∃xs,L9 pa.arg xs/\xs=pa.cs.map (·.a)/\∀(j:aF) (k:Pk),pa.cs[j]? =ah k->∃u,vI T σ w c nI k u:=by
 have h1:L9 pa.arg (pa.cs.map (·.a)):=by
  cases hb:pa.box with
  |none=>obtain⟨g,h1,_⟩:=h.val hb;exact .inl ⟨g,h1⟩
  |some nx=>obtain⟨n,xs⟩:=nx;exact .inr (h.box n xs hb).1
 exact⟨_,h1,rfl,(Uj h h1).2⟩
theorem Xj{l:aA AA}{i:aF}{ys:aQ}(h:l.getD i .nl= .kp ys):l[i]? =ah (.kp ys):=by
 rw[cY]at h;cases hx:l[i]? with
 |none=>rw[hx]at h;cases h
 |some x=>rw[hx]at h;rw[<-h];rfl
theorem E3{f:aF}{fn:Func}{vs psv:dt bk}{cl:Call}{fx:dz}(ho:o.op= .call cl)(hc:cl.callee= .value fx)(hf:P.funcs[f]? =ah fn)(hb:fn.body.isSome=ai)(hn:(fn.name== "runtime.NumGoroutine")=ak)(he:a.eval fx= .func (.func f) #[] psv):
  (execOp a.eval o).run P w= .ok (.enter f (cl.args.map a.eval++psv)) w:=by
 have Qi:fn.body.isNone=false:=by cases h:fn.body<;>simp_all
 unfold execOp;rw[ho];simp only[resolve,hc,he,Deferred.ofValue,ch,cT,bG,invoke,callFunc,program,nr,hf,hn,Qi,dv,if_false,Array.empty_append]
def nameOf(nm:aF)(ps:aA Pa)(P J:aF):az aF:=
 if 500<=P then ah (if J=900 then nm+1+40*(P-500)+30 else nm+1+40*(P-500)+J)
 else if J<100\/J=900 then loc ps (dS P J)else ah (nm+400+40*P+(J-100))
theorem oP:∀{l r:aA aF},rH l r=ai->∀n∈l,n∉r
 |[],_,_,n,h=>by cases h
 |m::l,r,h,n,hn=>by
  simp only[rH,aL,dx]at h;rcases cy.1 hn with rfl|hn
  ·exact qo h.1
  ·exact oP h.2 n hn
theorem Jp(hE:eB P E)(hF:∀g,b9 P E g (E.call g))(cf:Ok E σ w c)(dK:fC E σ a w c)(hd:∀d,o.dst=ah d->d<a.tmps.size){cl:Call}{fx:dz}(ho:o.op= .call cl)(hb:cl.callee= .value fx){f:aF}{iT:aA (aA CV)}(ef:eG E w c (.fn f iT) (a.eval fx)){Qq:az (aA aF)}(h:(Gz E nm o f cl.args.toList Qq iT).val σ=ah e)(hc:e.cond=ai):gT P E σ a w c o e.ws:=by
  obtain⟨psv,he,GV,aie⟩:=ef;unfold Gz at h;obtain⟨ps,h2,h⟩:=Rd.bind_some h;obtain⟨h3,h⟩:=cR h;simp only[aL]at h3;obtain⟨hlen,KW⟩:=RZ cf dK h2;split at h
  ·rename_i cnd r IQ;obtain⟨h4,h⟩:=cR h;simp only[aL]at h4;obtain⟨w0,h5,h⟩:=Rd.bind_some h;obtain⟨w1,h6,h⟩:=Rd.bind_some h;obtain⟨⟨ss,w2⟩,h7,h⟩:=Rd.bind_some h;obtain⟨h8,h⟩:=cR h;obtain rfl:=aJ h;have hc:cnd=true:=hc;subst hc;have ayc:=cL h4.1.1;have arS:∀{q:aF} {pa:Pa},ps[q]? =ah pa->∀n∈pa.nI,n∈ps.flatMap (·.nI):=λhq n hn=>bP.2 ⟨_,aR hq,hn⟩;have hh:Handed E σ w c ps iT (cl.args.map a.eval++psv):=by
    refine⟨by simp[GV,hlen],λq pa hq=> ?_,λq cs hq=> ?_,qM h3.1,oP h3.2⟩
    ·obtain⟨x,hx,hp⟩:=KW q pa hq;rw[cX]at hx;have Xx:=(dU.1 hx).1;exact⟨a.eval x,by rw[D8 (by simpa using Xx),Oi,hx];rfl,hp.mono (arS hq)⟩
    ·obtain⟨b,Qi,hf⟩:=aie q cs hq;refine⟨b, ?_,hf⟩
     rw[Array.getElem?_append_right (by simp[hlen]),<-Qi];congr 1;simp[hlen]
   have aeQ:∀(q:aF) (pa:Pa),ps[q]? =ah pa->∃v,Au E σ w c (ps.flatMap (·.nI)) pa v:=λq pa hq=>by obtain⟨v,_,h⟩:=hh.at_ q pa hq;exact⟨v,h⟩
   obtain⟨SF,arT,_⟩:=enter cf hh;have gf:(cl.args.map a.eval++psv).size=(jK ps iT).length:=by simp[jK,GV,hlen]
   have aeB:E.call f (jK ps iT)=ah (ai,r):=IQ;obtain⟨⟨fn,g1,g2,g3⟩,KR⟩:=hF f _ r aeB w (qI σ c ps) _ SF gf arT;obtain⟨Fz,rfl,z1,z2⟩:=Sw h5;obtain⟨Lo,rfl,l1,l2⟩:=Pv (p:=0) aeQ h6;obtain⟨Lr,rfl,m1,m2⟩:=Ii (P:=500) h7;generalize aiD:(E.tk nm||(ps.flatMap (·.nI)).isEmpty)=ok at l1 m1 m2;have hsm:Small (jK ps iT) r:=by
    refine⟨λp x xs hp hx=> ?_,λq x xs hq hx=> ?_,λp=> ?_⟩
    ·rcases vR hp with ⟨pa,hq,_⟩|⟨_,cs,_,rfl⟩
     ·have:=(aT.1 hq).1;omega
     ·rcases hx with ⟨g,hx⟩|hx<;>cases hx
    ·have:=bn.1 h4.1.2 x (aR hq);have:=cL this;rcases hx with ⟨g,rfl⟩|rfl<;>(simp only[nv]at this;omega)
    ·rw[cY];cases hx:r.outs[p]? with
     |none=>simp
     |some l=>have:=bn.1 h4.2 l (aR hx);exact cL this
   have Ih:∀{q:aF} {pa:Pa},ps[q]? =ah pa->(jK ps iT)[q]? =ah pa.arg:=λ{q} {pa} hq=>by have:=(aT.1 hq).1;unfold jK;rw[dH (by simpa using this),bL,hq];rfl
   have Jl:∀{q:aF} {pa:Pa} {n:aF},ps[q]? =ah pa->n∈pa.uw->n∈ps.flatMap (·.uw):=λhp hn=>bP.2 ⟨_,aR hp,hn⟩;have ah3:∀{q i n e:aF} {ex:aW} {pa:Pa} {k:Pk},ps[q]? =ah pa->pa.cs[i]? =ah k->k.src= .own n e ex->n∈ps.flatMap (·.uw):=λhq hk hs=>Jl hq (bO _ (bP.2 ⟨_,aR hk,by simp[Pk.uw,hs]⟩));have small:∀{q i:aF} {pa:Pa} {k:Pk},ps[q]? =ah pa->pa.cs[i]? =ah k->i<100:=λhq hk=>by obtain⟨v,hv⟩:=aeQ _ _ hq;have:=(aT.1 hk).1;have:=hv.len;omega
   unfold gT;intro K Q hK;unfold On;rw[E3 (vs:=cl.args.map a.eval++psv) ho hb g1 g2 g3 he,VS];refine Calls.mono KR (λen w'' hR=> ?_);cases en with
   |panicked=>exact hR.elim
   |outgrown=>exact hR.elim
   |returned v=>
    obtain⟨c3,GU,yw,uq,yx⟩:=hR;have gd:∀m,inj (jK ps iT) (c9 m)≠ .jZ->c3.P m=(qI σ c ps).P m/\c3.G m=(qI σ c ps).G m:=uq;have hL:∀n t ob,(n,t,ob)∈Lo++Lr->ZT σ (ot (jK ps iT) r) c c3 ok (ps.flatMap (·.uw)) (Lo++Lr) n t ob/\∀x,t=ah x->∃PP J,x=dS PP J/\J<1000/\nameOf nm ps PP J=ah n:=by
     intro n t ob hm;rcases ba.1 hm with hm|hm
     ·obtain⟨q,pa,hq,vi⟩:=l1 n t ob hm;obtain⟨v0,Qm⟩:=aeQ q pa hq;obtain⟨xs,hx1,Qn,hx3⟩:=akV Qm;have Xx:=(aT.1 hq).1;rw[bV]at vi;rcases vi with ⟨i,k,hk,hco⟩|⟨ys,J3,hbx,rfl,rfl,hcr⟩
      ·have hi:=small hq hk;rcases hco with ⟨e',ex,hs,rfl,rfl⟩|⟨e',ex,ys,hs,ha,rfl,rfl,hex⟩|⟨e',ex,ys,hbx,ha,rfl,rfl,rfl,hex,hf,jy⟩
       ·refine⟨⟨λ_=>ah3 hq hk hs,λhn=> ?_,λ_=>rfl,λx hx=>(by cases hx)⟩,λx hx=>(by cases hx)⟩
        obtain⟨u,hu⟩:=hx3 i k hk;unfold vI at hu;rw[hs]at hu;obtain⟨zs,hg,_⟩:=hu;rw[hg]at hn;cases hn
       ·obtain⟨u,hu⟩:=hx3 i k hk;unfold vI at hu;rw[hs]at hu;obtain⟨zs,hg,hka,_⟩:=hu;refine⟨⟨λ_=>ah3 hq hk hs,λhn=>(by rw[hg]at hn;cases hn),λhx=>(by cases hx),λx hx=> ?_⟩,λx hx=> ?_⟩
        ·cases hx;refine⟨λ_=> ?_, .inl ⟨e',ex,ys,rfl, ?_,hex⟩⟩
         ·obtain⟨q1,q2⟩:=gd (dS q i) ((qK (Ih hq)).2 xs i e' ex zs hx1 (by rw[Qn,bL,hk];simp[hka]));obtain⟨q3,q4⟩:=uk (σ:=σ) (c:=c) (G5 hq hk hs (by omega));exact⟨q1.trans q3,q2.trans q4⟩
         ·exact wV hsm (.kp q pa.arg xs i e' ex zs ys (Ih hq) hx1 (by rw[Qn,bL,hk];simp[hka]) (Xj ha))
        ·cases hx;refine⟨q,i,rfl,by omega, ?_⟩
         unfold nameOf;rw[bH (by omega),bz (.inl hi)];exact G5 hq hk hs (by omega)
       ·have hla:=GO.1 ha;refine⟨⟨λhn=>cJ hf hn,λ_=>jy,λhx=>(by cases hx),λx hx=> ?_⟩,λx hx=> ?_⟩
        ·cases hx;exact⟨λhn=>cJ hf hn, .inl ⟨e',ex,ys,rfl,wV hsm (.nw q pa.arg xs i e' ex ys (Ih hq) hx1 hla),hex⟩⟩
        ·cases hx;refine⟨q,100+i,rfl,by omega, ?_⟩
         unfold nameOf;rw[bH (by omega),bH (by omega)];congr 1;omega
      ·obtain⟨p1,p2,p3,_⟩:=Qm.box n ys hbx;refine⟨⟨λ_=>Jl hq (by simp[Pa.uw,hbx]),λhn=>(by rw[p3]at hn;cases hn),λhx=>(by cases hx),λx hx=> ?_⟩,λx hx=> ?_⟩
       ·cases hx;refine⟨λ_=> ?_, .inr ⟨J3,_,rfl,wV hsm (.ob q _ (by rw[Ih hq,p1])),hcr.mono (λe he=>bN _ he)⟩⟩
        obtain⟨q1,q2⟩:=gd (dS q 900) ((qK (Ih hq)).1 _ p1);obtain⟨q3,q4⟩:=uk (σ:=σ) (c:=c) (Bj hq hbx);exact⟨q1.trans q3,q2.trans q4⟩
       ·cases hx;refine⟨q,900,rfl,by omega, ?_⟩
        unfold nameOf;rw[bH (by omega),bz (.inr rfl)];exact Bj hq hbx
     ·obtain⟨q,x0,hq,hra⟩:=m1 n t ob hm;rcases hra with ⟨xs,j,e',ex,ys,hx,hj,rfl,rfl,rfl,hex,hf,jy⟩|⟨xs,rfl,rfl,rfl,rfl,hf,jy,hcr⟩
      ·have jY:=(aT.1 hj).1;have:=hsm.rl q x0 xs hq hx;refine⟨⟨λhn=>cJ hf hn,λ_=>jy,λhx=>(by cases hx),λx pF=> ?_⟩,λx pF=> ?_⟩
       ·cases pF;exact⟨λhn=>cJ hf hn, .inl ⟨e',ex,ys,rfl,wV hsm (.rr q x0 xs j e' ex ys hq hx hj),hex⟩⟩
       ·cases pF;refine⟨500+q,j,rfl,by omega, ?_⟩
        unfold nameOf;rw[bz (by omega),bH (by omega),show 500+q-500=q by omega]
      ·refine⟨⟨λhn=>cJ hf hn,λ_=>jy,λhx=>(by cases hx),λx pF=> ?_⟩,λx pF=> ?_⟩
       ·cases pF;exact⟨λhn=>cJ hf hn, .inr ⟨_,_,rfl,wV hsm (.rb q xs hq),hcr.mono (λe he=>bO _ he)⟩⟩
       ·cases pF;refine⟨500+q,900,rfl,by omega, ?_⟩
        unfold nameOf;rw[bz (by omega),bz rfl,show 500+q-500=q by omega]
    have I5:((Lo++Lr).map (·.1)).Nodup:=by
     have:=qM h8;rw[<-iM]at this;unfold mz kg at this;rw[ml,ml]at this;have e1:(Lo++Lr).map (((λx:aF×eQ=>x.1)∘λd:aF×Obj=>(c9 d.1,eQ.o d.2))∘λt:Dp=>(t.1,t.2.2))=((Lo++Lr).map (·.1)).map c9:=by rw[ml];rfl
     rw[e1]at this;exact rQ this
    have SG:ok=ai->∀n∈ps.flatMap (·.nI),∃x,(n,x)∈Fz:=by
     intro hk n hn;rw[<-aiD]at hk;cases GX:E.tk nm with
     |true=>rw[GX]at z2;exact z2 n hn
     |false=>
      rw[GX]at hk;have:ps.flatMap (·.nI)=[]:=by simpa using hk
      rw[this]at hn;cases hn
    have hFz:∀n x,(n,x)∈Fz->ok=ai/\n∈ps.flatMap (·.nI)/\∃el ex xs,σ (c9 n)= .o (.row el ex xs)/\x= .fQ el xs:=by
     intro n x hn;obtain⟨y1,y2⟩:=z1 n x hn;cases GX:E.tk nm with
     |true=>rw[GX]at y1;exact⟨by rw[<-aiD,GX];rfl,y1,y2⟩
     |false=>rw[GX]at y1;cases y1
    have hws:kg Fz++(mz Lo++mz Lr)++dw o (sj ss)=kg (Fz++(Lo++Lr).map λt=>(t.1,t.2.2))++dw o (sj ss):=by rw[<-iM];simp only[mz,kg,dh]
    obtain⟨c',k1,k2,k3,k4⟩:=leave cf dK hd hh GU yw yx (L:=Lo++Lr) (Fz:=Fz) (λn t ob hm=>(hL n t ob hm).1) I5
     (λn n' x ob ob' h1 h2=>by obtain⟨P1,J1,e1,e2,e3⟩:=(hL n _ ob h1).2 x rfl;obtain⟨P2,J2,f1,f2,f3⟩:=(hL n' _ ob' h2).2 x rfl;obtain⟨rfl,rfl⟩:=uA e2 f2 (e1.symm.trans f1);rw[e3]at f3;exact aJ f3)
     (λn hn=>by obtain⟨t,ob,h⟩:=l2 n hn;exact⟨t,ob,bN _ h⟩) hFz SG
     (show Fh ok (Lo++Lr) ss (lC 500 r.rs)from⟨m2.1,λj x x3 hx hx3=>(m2.2 j x x3 hx hx3).mono (λe he=>bO _ he)⟩)
    show K (a.put o.dst v) w'';rw[<-hws]at k1 k2 k3;exact hK v w'' c' k1 k2 k3 k4.w
  ·simp at h
theorem Hf(cf:Ok E σ w c)(dK:fC E σ a w c){o:fA}(hd:∀d,o.dst=ah d->d<a.tmps.size){nm:aF}{ob ob':Obj}{s:SV}{v:bk}{w':bM}
  (hn:σ (c9 nm)= .o ob) (mV:pP E w' c nm ob') (pT:∀b,fJ c nm ob' b->fJ c nm ob b)
  (IY:∀xs,ob'= .box xs->∀a∈xs,jg σ a)
  (yx:ji E w' c s v) (AO:mO σ s)
  (hW:∀b,b<w.heap.size->¬fJ c nm ob b->w'.heap[b]? =w.heap[b]?) (gf:w.heap.size<=w'.heap.size) (O6:w'.os=w.os) (XA:w'.tape=w.tape) (Xu:w'.output=w.output):
  Ok E (wr σ ([(c9 nm, .o ob')]++dw o s)) w' c/\fC E (wr σ ([(c9 nm, .o ob')]++dw o s)) (a.put o.dst v) w' c/\ov σ c w (wr σ ([(c9 nm, .o ob')]++dw o s)) c w':=by
 let σ1:=pM σ (c9 nm) (.o ob');obtain⟨s1,s2,s3⟩:=rY σ1 o s;have key:∀m,wr σ1 (dw o s) (c9 m)=if m=nm then .o ob' else σ (c9 m):=λm=>by rw[s3];exact pZ _ _ _ _
 have iw:∀m,σ (c9 m)≠ .jZ->wr σ1 (dw o s) (c9 m)≠ .jZ:=λm hm=>by rw[key];split<;>simp_all
 have gq:∀b,fJ c nm ob b->j5 (λm=>m=nm) σ c b:=λb hb=>⟨nm,ob,rfl,hn,hb⟩
 have hh:=cf.change (σ':=wr σ1 (dw o s)) (w':=w') (c':=c) (λm=>m=nm) (λm hm=>by rw[key,bH hm]) iw (jC.refl _ _)
  (λb hb Xr=>hW b hb (λhf=>Xr (gq b hf))) gf (λ_ h=>h) (λ_ h=> .inl h) (λb hb=>ju (cf.lt b hb) gf)
  (λm x hm ho=>by subst hm;rw[key,bz rfl]at ho;cases ho;exact mV)
  (λm x b hm ho hf=>by subst hm;rw[key,bz rfl]at ho;cases ho;exact⟨.inl (gq b (pT b hf)),cf.kk _ _ b hn (pT b hf)⟩)
  (λm x m' x' b hm xA _ _ _ _=>by rw[hm,xA])
  (λm xs hm ho y hy n kJ=>by subst hm;rw[key,bz rfl]at ho;cases ho;exact iw n (IY xs rfl y hy n kJ)) O6 XA Xu
 refine⟨hh.1, ?_,hh.2⟩
 refine dK.change cf hh.2 (jC.refl _ _) iw o v (λn kJ=>by rw[s1 n kJ];exact jo _ _ _ _) (λd ho=>⟨hd d ho, ?_, ?_⟩)
 ·rw[s2 d ho];exact yx
 ·rw[s2 d ho];intro n kJ;rw[key];split
  ·simp
  ·exact AO n kJ
theorem Ll(hE:eB P E)(hF:∀g,b9 P E g (E.call g))(cf:Ok E σ w c)(dK:fC E σ a w c)(hd:∀d,o.dst=ah d->d<a.tmps.size){cl:Call}{fx x y:dz}(ho:o.op= .call cl)(hb:cl.callee= .value fx)(se:cl.args.toList=[x,y])
  {f n i j:aF} (ef:eG E w c (.fn f []) (a.eval fx)) (hx:eG E w c (.inn n i j) (a.eval x)) (h:(Co E o f n i j y).val σ=ah e) (hc:e.cond=ai):gT P E σ a w c o e.ws:=by
 unfold Co at h;obtain⟨⟨k,m⟩,h1,h⟩:=Rd.bind_some h;have ey:=pW dK h1;obtain⟨ob,h2,h⟩:=Rd.bind_some h;have hg:=dA h2;split at h
 ·rename_i el xs;obtain⟨te,h3,h⟩:=Rd.bind_some h;have h6:=dW h3;split at h
  ·rename_i e2 Aa;split at h
   ·rename_i cnd r IQ;split at h
    ·rename_i k2 m2 Dm hrs I8;obtain rfl:=aJ h;have hc:cnd=true:=hc;subst hc;obtain⟨⟨hi,hxv⟩,_⟩:=hx;obtain⟨zs,yy,t2,r1,r2,r3,r4,r5,r6,r7,r8⟩:=Bi cf hg h6 Aa hi;rw[fE r1 r2]at IQ;simp only[jv]at IQ;obtain⟨⟨t1,q1,gf,mK⟩,gd,gq⟩:=cf.obj n _ hg;obtain rfl:te=t1:=aJ (h6.symm.trans q1);have mb:i<xs.length:=(aT.1 r1).1;obtain⟨jz,pv,hpb⟩:=gd.pos hi;have DP:gh xs i j:=⟨yy,_,r1,r2,rfl⟩
     generalize hq:c.G n i j=p at r5 r7 r8 hxv;let c1:e9:=⟨λ_=>p,λ_ _ _=>⟨ai,0,0,0,0,0⟩,c.K⟩
     let args:aA fj:=[.v ak [.ow e2 ai zs], .v ak [.i k m]]
     have hO:∀q o',inj args (c9 q)= .o o'->q=dS 0 0/\o'= .row e2 ai zs:=by
      intro q o' hq';have hm:=nU hq' (by simp);simp only[args,K3,tz,vj,tw,EM,cy,dm,gz,BH,gA,or_false,jf]at hm;rcases hm with ⟨hm,_⟩|⟨hm,h⟩|⟨hm,_⟩
      ·exact cJ hm (mq _ _)
      ·exact⟨jU hm,eQ.o.inj h⟩
      ·exact cJ hm (mq _ _)
     have hX:inj args (c9 (dS 0 0))= .o (.row e2 ai zs):=rfl;have Cy:∀i j,¬gh zs i j:=by rintro i j ⟨y,x,h1,h2,h3⟩;rw[iq r4 (r6 y (aR h1)) h2]at h3;cases h3
     have IU:∀b,fJ c1 (dS 0 0) (.row e2 ai zs) b->p.nil=ak/\b=p.blk:=by
      rintro b (⟨h1,h2⟩|⟨_,i,j,h,_⟩)
      ·exact⟨h1,h2⟩
      ·exact cJ h (Cy i j)
     have hpf:p.nil=ak->fJ c n (.row el ai xs) p.blk:=λhn=> .inr ⟨rfl,i,j,DP,by rw[hq];exact hn,by rw[hq]⟩;have SF:Ok E (inj args) w c1:=by
      refine⟨?_, ?_, ?_, ?_, ?_⟩
      ·intro q o' h;obtain⟨rfl,rfl⟩:=hO q o' h;exact⟨⟨t2,r3,r5,r6⟩,r7.frame (λ_=>rfl) (λi j y x u h1 h2 hr=>by rw[bz rfl];exact uE (iq r4 (r6 y (aR h1)) h2) hr),λ_=>⟨λi j h=>cJ h (Cy i j),λi j i' j' h=>cJ h (Cy i j)⟩⟩
      ·intro q o' q' o'' b h h' _ _;rw[(hO q o' h).1,(hO q' o'' h').1]
      ·intro q o' b h hf hk;obtain⟨rfl,rfl⟩:=hO q o' h;obtain⟨hn,rfl⟩:=IU b hf;exact cf.kk _ _ _ hg (hpf hn) hk
      ·exact cf.lt
      ·intro q bs h;obtain⟨_,h⟩:=hO q _ h;cases h
     have SN:(cl.args.map a.eval).size=args.length:=by
      have:cl.args.size=2:=by rw[<-dR,se];rfl
      simp[args,this]
     have V9:cl.args.map a.eval= #[a.eval x,a.eval y]:=by apply sr;rw[Ak,se];rfl
     obtain⟨psv,he,GV,_⟩:=ef;have arK:psv= #[]:=Aj (by simpa using GV);subst arK;obtain⟨⟨fn,g1,g2,g3⟩,KR⟩:=hF f args r IQ w c1 #[a.eval x,a.eval y] SF rfl (by
      intro q arg hqa;match q with
      |0=>cases hqa;exact⟨_,rfl,hxv⟩
      |1=>cases hqa;exact⟨_,rfl,ey⟩
      |q+2=>cases hqa)
     unfold gT;intro K Q hK;unfold On;rw[E3 (vs:= #[a.eval x,a.eval y]) ho hb g1 g2 g3 he,V9,Array.append_empty,VS];refine Calls.mono KR (λen w' hR=> ?_);cases en with
     |panicked=>exact hR.elim
     |outgrown=>exact hR.elim
     |returned v=>
      obtain⟨c3,GU,yw,uq,yx⟩:=hR;obtain⟨rs,outs⟩:=r;simp only at hrs I8;subst hrs;subst I8;have hv:v= .int k2 m2:=yx;have hp3:c3.P (dS 0 0)=p:=(uq (dS 0 0) (by rw[hX];simp)).1;have hX3:ot args ⟨[.v ak [.i k2 m2]],[[.kp Dm]]⟩ (c9 (dS 0 0))= .o (.row e2 ai Dm):=rfl;obtain⟨⟨t3,u1,u2,u3⟩,u4,_⟩:=GU.obj _ _ hX3;obtain rfl:t2=t3:=aJ (r3.symm.trans u1);rw[hp3]at u2 u4;have aq4:jh w' p Dm (λ_ _ u x=>Sc u x):=u4.frame (λ_=>rfl) (λi j y x u h1 h2 hr=>by rw[bz rfl]at hr;exact uG hr (iq r4 (u3 y (aR h1)) h2));have rL:∀b,b<w.heap.size->¬(p.nil=ak/\b=p.blk)->w'.heap[b]? =w.heap[b]? :=λb hb KV=>yw.same b hb (by rintro ⟨q,o',h1,h2⟩;obtain⟨rfl,rfl⟩:=hO q o' h1;exact KV (IU b h2));have hjk:j<te.ks.length:=(aT.1 Aa).1;have aeH:[CV.l e2 Dm].map CV.kd=(te.ks.drop j).take [CV.l e2 Dm].length:=by rw[bA,List.take_one,List.head?_drop,Aa];rfl
      have sF:=xV (i:=i) (j:=j) (cs:=[CV.l e2 Dm]) mK aeH (by simp;omega) mb;have IX:=lk mK;have Ci:=lk sF;have same:∀i' j',gh (eD xs i j [CV.l e2 Dm]) i' j'->gh xs i' j':=λi' j' hx=>(IX i' j').2 (by have:=(Ci i' j').1 hx;rwa[jR]at this);have jy:∀b,fJ c n (.row el ai xs) b->b<w.heap.size:=λb hb=>wB.lt cf ⟨n,_,hg,hb⟩;have aeP:p.nil=ak->(c.P n).blk≠p.blk:=λhn e=>(gq rfl).out i j DP (by rw[hq];exact hn) jz (by rw[hq];exact e.symm);have oK:jh w' (c.P n) (eD xs i j [CV.l e2 Dm]) (λi1 j1 u1 x1=>if ai=ai then XC E w' (c.G n) i1 j1 u1 x1 else c_ E w' c.K u1 x1):=by
       obtain⟨vs,k1,k2,k3,k4,k5⟩:=gd.mem jz;refine⟨by rw[jR];exact gd.n,λhn=>(by rw[jz]at hn;cases hn),λ_=>⟨vs,k1.frame (rL _ (jy _ (.inl ⟨jz,rfl⟩)) (λh=>aeP h.1 h.2)),k2,k3,k4,λi1 y1 j1 x1 g1 g2=> ?_⟩⟩
       rw[xT r1]at g1;simp only[if_true]at k5⊢;by_cases IW:i1=i
       ·subst IW;rw[bz rfl]at g1;cases g1;have I_:yy.length=te.ks.length:=by rw[<-mK yy (aR r1)];simp
        rw[pA (by simp;omega)]at g2;by_cases hqq:j<=j1/\j1<j+[CV.l e2 Dm].length
        ·rw[bz hqq]at g2;have:j1=j:=by simp at hqq;omega
         subst this;simp at g2;subst g2;obtain⟨u,hu,hr⟩:=k5 _ _ _ _ r1 r2;refine⟨u,hu,hr.1,t2,r3,r4,by rw[hq];exact r5,u3,by rw[hq];exact aq4⟩
        ·rw[bH hqq]at g2;obtain⟨u,hu,hr⟩:=k5 _ _ _ _ r1 g2;refine⟨u,hu,hr.frame (λhl hn=>rL _ (jy _ (.inr ⟨rfl,_,_,⟨yy,x1,r1,g2,hl⟩,hn,rfl⟩)) (λe=> ?_))⟩
         have:=((gq rfl).one _ _ _ _ ⟨yy,x1,r1,g2,hl⟩ DP hn (by rw[hq];exact e.1) (by rw[hq];exact e.2)).2;simp at hqq;omega
       ·rw[bH IW]at g1;obtain⟨u,hu,hr⟩:=k5 _ _ _ _ g1 g2;exact⟨u,hu,hr.frame (λhl hn=>rL _ (jy _ (.inr ⟨rfl,_,_,⟨y1,x1,g1,g2,hl⟩,hn,rfl⟩)) (λe=>IW ((gq rfl).one _ _ _ _ ⟨y1,x1,g1,g2,hl⟩ DP hn (by rw[hq];exact e.1) (by rw[hq];exact e.2)).1))⟩
      obtain⟨z1,z2,z3⟩:=Hf cf dK hd hg (ob':= .row el ai (eD xs i j [CV.l e2 Dm])) (w':=w') (s:= .v ak [.i k2 m2]) (v:=v)
       ⟨⟨te,q1,gf,sF⟩,oK,λhx=>⟨λi1 j1 hh=>(gq hx).out i1 j1 (same i1 j1 hh),λi1 j1 i2 j2 h1 h2=>(gq hx).one i1 j1 i2 j2 (same i1 j1 h1) (same i2 j2 h2)⟩⟩
       (by
        rintro b (hb|⟨hx,i1,j1,hh,hn⟩)
        ·exact .inl hb
        ·exact .inr ⟨hx,i1,j1,same i1 j1 hh,hn⟩)
       (λzs hz=>by cases hz) hv (λn hn=>by simp[cM,bQ]at hn)
       (λb hb Qk=>rL b hb (λe=>Qk (by rw[e.2];exact hpf e.1))) yw.size yw.os yw.tape yw.output
      exact hK v w' c z1 z2 z3 (jC.refl _ _).w
    ·simp at h
   ·simp at h
  ·simp at h
 ·simp at h
theorem HB{α:Type}{x y:Rd α}{σ:St}{e:α}(h:(x.or y).val σ=ah e):x.val σ=ah e\/y.val σ=ah e:=by
 induction x with
 |ret a=>exact .inl h
 |fail=>exact .inr h
 |get k f ih=>
  have h':((f (σ k)).or y).val σ=ah e:=by rw[<-h];unfold Rd.val;simp only[Rd.or,Rd.run];rw[lx,lx]
  rcases ih (σ k) h' with h|h
  ·refine .inl ?_;rw[<-h];unfold Rd.val;simp only[Rd.run];rw[lx,lx]
  ·exact .inr h
theorem Cz(hE:eB P E)(hF:∀g,b9 P E g (E.call g))(cf:Ok E σ w c)(dK:fC E σ a w c)(hd:∀d,o.dst=ah d->d<a.tmps.size){cl:Call}{fx:dz}(ho:o.op= .call cl)(hb:cl.callee= .value fx){f:aF}{iT:aA (aA CV)}(ef:eG E w c (.fn f iT) (a.eval fx)){Qq:aA aF}(h:(MM E nm o f cl.args.toList Qq iT).val σ=ah e)(hc:e.cond=ai):gT P E σ a w c o e.ws:=by
 rcases HB h with h|h
 ·exact Jp hE hF cf dK hd ho hb ef h hc
 ·exact Jp hE hF cf dK hd ho hb ef h hc
theorem Y4(hE:eB P E)(hF:∀g,b9 P E g (E.call g))(cf:Ok E σ w c)(dK:fC E σ a w c)(hd:∀d,o.dst=ah d->d<a.tmps.size){cl:Call}{fx:dz}(ho:o.op= .call cl)(hb:cl.callee= .value fx)(h:(me E nm o).val σ=ah e)(hc:e.cond=ai):gT P E σ a w c o e.ws:=by
 simp only[me,ho,hb]at h;obtain⟨fv,h1,h⟩:=Rd.bind_some h;have ef:=(iY dK h1).1;cases fv with
 |fn f iT=>
  simp only at h;split at h
  ·rename_i x y se;obtain⟨sx,h2,h⟩:=Rd.bind_some h;split at h
   ·rename_i n i j;cases hm:E.mode f 0 with
    |true=>rw[hm,au]at h;exact Ll hE hF cf dK hd ho hb se ef (mr dK h2).1 h hc
    |false=>rw[hm,ax]at h;exact Cz hE hF cf dK hd ho hb ef h hc
   ·exact Cz hE hF cf dK hd ho hb ef h hc
  ·exact Cz hE hF cf dK hd ho hb ef h hc
 |_=>simp at h
end
end Go.FG

namespace Go.FG
section
variable {P:c5} {E:fO} {σ:St} {a:Act} {w:bM} {c:e9} {o:fA} {nm:aF} {e:sR}
theorem akU(hE:eB P E)(hF:∀g,b9 P E g (E.call g))(cf:Ok E σ w c)(dK:fC E σ a w c)(hd:∀d,o.dst=ah d->d<a.tmps.size)(h:(me E nm o).val σ=ah e)(hc:e.cond=ai):gT P E σ a w c o e.ws:=by
 cases ho:o.op with
 |move x=>exact NA cf dK hd (.inl ho) h
 |assign x=>exact NA cf dK hd (.inr ho) h
 |nilCheck x=>exact Jr cf dK hd ho h
 |pick x y z=>exact Y6 cf dK hd ho h hc
 |alloc t=>exact T7 hE cf dK hd ho h
 |box t x=>exact afF cf dK hd ho h
 |build t ps=>exact T9 hE cf dK hd ho h
 |buildSlice t n ps=>exact DY hE cf dK hd ho h hc
 |load t p=>exact Y5 hE cf dK hd ho h
 |store t p x=>exact Ud hE cf dK hd ho h
 |fieldAddr t p f=>exact G_ hE cf dK hd ho h
 |field t x f=>exact Ua hE cf dK hd ho h
 |indexAddr t x i=>exact Ha hE cf dK hd ho h hc
 |index t x i=>exact Ub hE cf dK hd ho h hc
 |binOp op t x y ty=>exact T8 hE cf dK hd ho h hc
 |unOp op t x=>exact Y7 cf dK hd ho h
 |convert s d x=>exact Lm hE cf dK hd ho h hc
 |makeSlice t l m=>exact Hb hE cf dK hd ho h hc
 |slice t x lo hi mx=>exact Uc hE cf dK hd ho h hc
 |extract x i=>exact Ln cf dK hd ho h
 |makeFunc f first iT=>exact Jq cf dK hd ho h
 |call cl=>
  cases hb:cl.callee with
  |value f=>exact Y4 hE hF cf dK hd ho hb h hc
  |builtin b=>
   cases b with
   |len=>exact afH hE cf dK hd ho hb h
   |cap=>exact afG hE cf dK hd ho hb h
   |min=>exact EW ak cf dK hd ho hb h
   |max=>exact EW ai cf dK hd ho hb h
   |clear=>exact T_ hE cf dK hd ho hb h
   |append=>exact Pq hE cf dK hd ho hb h hc
   |_=>simp[me,ho,hb]at h
  |_=>simp[me,ho,hb]at h
 |_=>simp[me,ho]at h
end
end Go.FG

namespace Go.FG
theorem C6{σ:St}{k:aF}{c:eQ}(h:σ k=c):pM σ k c=σ:=by
 funext n;by_cases hn:n=k
 ·subst hn;rw[tX,h]
 ·rw[zO σ c hn]
def VP(c c':e9):Prop:=∀m,900000000<=m->c'.P m=c.P m/\c'.G m=c.G m
theorem VP.refl(c:e9):VP c c:=λ_ _=>⟨rfl,rfl⟩
theorem VP.trans{c c1 c2:e9}(h:VP c c1)(k:VP c1 c2):VP c c2:=λm hm=>⟨(k m hm).1.trans (h m hm).1,(k m hm).2.trans (h m hm).2⟩
theorem XN{m:aF}(h:900000000<=m):zu m=false:=by
 unfold zu;cases hb:qw m 900000000 with
 |true=>have:m<900000000:=by simpa [Ar]using hb
        omega
 |false=>simp
theorem qX.aga{σ:St}{c c':e9}(h:qX σ c c'):VP c c':=λm hm=>⟨(h m (.inr hm)).1,(h m (.inr hm)).2 (XN hm)⟩
def mw(all:dt fA)(o:fA)(σ:St):az aW:=
 match o.guard with
 |none=>ah ai
 |some (g,want)=>match (all.getD g default).dst with
  |none=>aj
  |some d=>match σ (qq d)with| .v (.v ak [.b x])=>ah (x==want)| .v (.j_ [])=>ah ak|_=>aj
def pS(all:dt fA)(o:fA):aA aF:=
 match o.guard with
 |none=>[]
 |some (g,_)=>match (all.getD g default).dst with|none=>[]|some d=>[qq d]
def vd(E:fO)(all:dt fA)(nm:aF)(o:fA)(σ:St)(ws:aA (aF×eQ))(lg:Lg):Prop:=
 (mw all o σ=ah ai/\∃e l,(me E nm o).run σ []=ah (e,l)/\e.cond=ai/\ws=e.ws/\lg=⟨pS all o++l,e.ws.map (·.1)⟩)\/
 (mw all o σ=ah ak/\ws=dw o (.j_ [])/\lg=⟨pS all o,(dw o (.j_ [])).map (·.1)⟩)
def Le(oc i:aF):aF:=(oc+1)*1000000+i*1000
abbrev Tr:=aA (aA (aF×eQ)×Lg)
def wu(E:fO)(all:dt fA)(oc:aF):aF->aA fA->St->Tr->St->Prop
 |_,[],σ,tr,σ'=>tr=[]/\σ'=σ
 |i,o::os,σ,tr,σ'=>∃ws lg tr',tr=(ws,lg)::tr'/\vd E all (Le oc i) o σ ws lg/\wu E all oc (i+1) os (wr σ ws) tr' σ'
theorem Ps{R:Type}(E:fO)(all:dt fA)(oc:aF):∀(os:aA fA) (i:aF) (σ:St) (lg:aA Lg) (K:St->aA Lg->az R) (r:R),ops E all oc i os σ lg K=ah r->
  ∃tr σ',wu E all oc i os σ tr σ'/\K σ' ((tr.map (·.2)).reverse++lg)=ah r:=by
 intro os;induction os with
 |nil=>intro i σ lg K r h;exact⟨[],σ,⟨rfl,rfl⟩,by simpa [ops]using h⟩
 |cons o os ih=>
  intro i σ lg K r h;have next:∀ws l,vd E all (Le oc i) o σ ws l->ops E all oc (i+1) os (wr σ ws) (l::lg) K=ah r->∃tr σ',wu E all oc i (o::os) σ tr σ'/\K σ' ((tr.map (·.2)).reverse++lg)=ah r:=by intro ws l hs h;obtain⟨tr,σ',h1,h2⟩:=ih _ _ _ _ _ h;exact⟨(ws,l)::tr,σ',⟨ws,l,tr,rfl,hs,h1⟩,by simpa using h2⟩
  have akW:∀rs,rs=pS all o->mw all o σ=ah ai->(match (me E (Le oc i) o).run σ []with
    |some (e,l)=>bif e.cond then ops E all oc (i+1) os (wr σ e.ws) (⟨rs++l,e.ws.map (·.1)⟩::lg) K else aj
    |none=>aj)=ah r->∃tr σ',wu E all oc i (o::os) σ tr σ'/\K σ' ((tr.map (·.2)).reverse++lg)=ah r:=by
   intro rs hrs hw h
   cases hr:(me E (Le oc i) o).run σ []with
   |none=>rw[hr]at h;cases h
   |some el=>
    obtain⟨e,l⟩:=el;rw[hr]at h;cases hc:e.cond with
    |false=>simp[hc]at h
    |true=>simp only[hc,au]at h;exact next e.ws _ (.inl ⟨hw,e,l,hr,hc,rfl,by rw[hrs]⟩) h
  unfold ops at h;simp(config:={zeta:=false}) only[EG]at h;cases hg:o.guard with
  |none=>rw[hg]at h;exact akW [] (by simp[pS,hg]) (by simp[mw,hg]) h
  |some gw=>
   obtain⟨g,want⟩:=gw;rw[hg]at h;dsimp only at h;cases hd:(all.getD g default).dst with
   |none=>rw[hd]at h;cases h
   |some d=>
    rw[hd]at h;dsimp only at h;have yw:pS all o=[qq d]:=by unfold pS;rw[hg];dsimp only;rw[hd]
    cases hs:σ (qq d)with
    |v sv=>
     rw[hs]at h;cases sv with
     |v agg xs=>
      cases agg with
      |true=>cases h
      |false=>
       match xs with
       |[]=>cases h
       |_::_::_=>simp at h
       |[av]=>
        cases av with
        |b x=>
         have hwa:mw all o σ=ah (x==want):=by unfold mw;rw[hg];dsimp only;rw[hd];dsimp only;rw[hs]
         have hup:pM σ (qq d) (.v (.v ak [.b x]))=σ:=C6 hs;have skip:mw all o σ=ah ak->ops E all oc (i+1) os (wr (pM σ (qq d) (.v (.v ak [.b x]))) (dw o (.j_ []))) (⟨[qq d],(dw o (.j_ [])).map (·.1)⟩::lg) K=ah r->∃tr σ',wu E all oc i (o::os) σ tr σ'/\K σ' ((tr.map (·.2)).reverse++lg)=ah r:=by intro hw h;rw[hup]at h;exact next (dw o (.j_ [])) _ (.inr ⟨hw,rfl,by rw[yw]⟩) h
         have ab4:mw all o σ=ah ai->(match (me E (Le oc i) o).run (pM σ (qq d) (.v (.v ak [.b x]))) []with
           |some (e,l)=>bif e.cond then ops E all oc (i+1) os (wr (pM σ (qq d) (.v (.v ak [.b x]))) e.ws) (⟨qq d::l,e.ws.map (·.1)⟩::lg) K else aj
           |none=>aj)=ah r->∃tr σ',wu E all oc i (o::os) σ tr σ'/\K σ' ((tr.map (·.2)).reverse++lg)=ah r:=by
          intro hw h
          rw[hup]at h
          exact akW [qq d] yw.symm hw h
         cases x with
         |true=>
          cases want with
          |true=>exact ab4 (by rw[hwa];rfl) h
          |false=>exact skip (by rw[hwa];rfl) h
         |false=>
          cases want with
          |true=>exact skip (by rw[hwa];rfl) h
          |false=>exact ab4 (by rw[hwa];rfl) h
        |_=>simp at h
     |j_ l=>cases l with
      |nil=>
       have hwa:mw all o σ=ah false:=by unfold mw;rw[hg];dsimp only;rw[hd];dsimp only;rw[hs]
       exact next (dw o (.j_ [])) _ (.inr ⟨hwa,rfl,by rw[yw]⟩) h
      |cons=>simp at h
     |un=>simp at h
    |o x=>rw[hs]at h;cases h
    |jZ=>rw[hs]at h;cases h
section
variable {P:c5} {E:fO} {σ:St} {a:Act} {w:bM} {c:e9} {o:fA} {nm:aF} {e:sR}
theorem Fa(dK:fC E σ a w c){all:dt fA}{x:aW}(h:mw all o σ=ah x):u9 o (yielded all a.tmps)=x:=by
 unfold mw at h;unfold u9;cases hg:o.guard with
 |none=>rw[hg]at h;simp at h;simp[<-h]
 |some gw=>
  obtain⟨g,want⟩:=gw;rw[hg]at h;simp only at h⊢;cases hd:(all.getD g default).dst with
  |none=>rw[hd]at h;cases h
  |some d=>
   rw[hd]at h;have hgo:(all[g]?).bind (·.dst)=ah d:=by
    rw[eJ]at hd;cases hq:all[g]? with
    |none=>rw[hq]at hd;cases hd
    |some og=>rw[hq]at hd;exact hd
   simp only at h;split at h
   ·rename_i y hy;have h1:=dK.ok d;have:slot σ d= .v ak [.b y]:=by unfold slot;rw[hy]
    rw[this]at h1;have h1:a.eval (.tmp d)= .bool y:=h1;have ht:a.tmps[d]? =ah (.bool y):=by
     have h2:a.tmps.getD d undef= .bool y:=h1;rw[eJ]at h2;cases hq:a.tmps[d]? with
     |none=>rw[hq]at h2;cases h2
     |some v=>rw[hq]at h2;rw[show v=_ from h2]
    have I_:yielded all a.tmps g=ah y:=by unfold yielded;rw[hgo];simp[ht]
    rw[I_];simp at h;rw[<-h];cases y<;>cases want<;>rfl
   ·rename_i hy;have h1:=dK.ok d;have:slot σ d= .j_ []:=by unfold slot;rw[hy]
    rw[this]at h1;obtain⟨vs,h1,h3,_⟩:=h1;have h4:vs= #[]:=by simpa using h3
    subst h4;have ht:a.tmps.getD d undef= .tuple #[]:=h1;have I_:yielded all a.tmps g=none:=by
     unfold yielded;rw[hgo];rw[eJ]at ht;cases hq:a.tmps[d]? with
     |none=>simp[hq]
     |some v=>rw[hq]at ht;simp at ht;simp[hq,ht]
    rw[I_];have h5:ak=x:=by simpa using h
    rw[<-h5];cases want<;>rfl
   ·cases h
theorem Act.UJ(a:Act)(d:az Tmp)(v:bk):(a.put d v).tmps.size=a.tmps.size:=by cases d<;>simp[VQ]
theorem Bo(hE:eB P E)(hF:∀g,b9 P E g (E.call g))(cf:Ok E σ w c)(dK:fC E σ a w c)(hd:∀d,o.dst=ah d->d<a.tmps.size){all:dt fA}{i:aF}(hi:all[i]? =ah o){ws:aA (aF×eQ)}{lg:Lg}(h:vd E all nm o σ ws lg)
  {K:Act->bM->Prop} {Q:Exit->Act->bM->Prop} (hK:∀v w' c',Ok E (wr σ ws) w' c'->fC E (wr σ ws) (a.put o.dst v) w' c'->ov σ c w (wr σ ws) c' w'->qX σ c c'->K (a.put o.dst v) w'):wpOp P all Q i K a w:=by
 unfold wpOp;rw[hi];simp only;rcases h with ⟨hw,e,l,hr,hc,rfl,_⟩|⟨hw,rfl,_⟩
 ·rw[bz (Fa dK hw)];exact .inl (akU hE hF cf dK hd (Rd.LS hr) hc K Q hK)
 ·rw[bH (by rw[Fa dK hw];simp)];obtain⟨s1,s2,s3⟩:=rY σ o (.j_ []);obtain⟨h1,h2⟩:=cf.slot s3;refine hK undef w c h1 ?_ h2 (jC.refl _ _).w;refine dK.change cf h2 (jC.refl _ _) (λnm hn=>by rw[s3];exact hn) o undef s1 (λd ho=>⟨hd d ho, ?_, ?_⟩)
  ·rw[s2 d ho];exact⟨#[],rfl,rfl,λj agg xs hj=>by simp at hj⟩
  ·rw[s2 d ho];intro n hn;simp[cM]at hn
structure At (P:c5) (E:fO) (N:aF) (σ0:St) (c0:e9) (w0:bM) (σ:St) (a:Act) (w:bM) (c:e9):Prop where
 ok:Ok E σ w c
 sl:fC E σ a w c
 sz:a.tmps.size=N
 gr:ov σ0 c0 w0 σ c w
 ag:VP c0 c
theorem At.step{N:aF}{σ0:St}{c0:e9}{w0:bM}(h:At P E N σ0 c0 w0 σ a w c){d:az Tmp}{v:bk}{w':bM}{c':e9}{σ':St}(h1:Ok E σ' w' c')(h2:fC E σ' (a.put d v) w' c')(h3:ov σ c w σ' c' w')(h4:qX σ c c'):At P E N σ0 c0 w0 σ' (a.put d v) w' c':=
 ⟨h1,h2,by rw[Act.UJ];exact h.sz,h.gr.trans h3,h.ag.trans h4.aga⟩
theorem Ku(hE:eB P E)(hF:∀g,b9 P E g (E.call g)){N:aF}{σ0:St}{c0:e9}{w0:bM}{all:dt fA}{oc:aF}{Q:Exit->Act->bM->Prop}:∀(os:aA fA) (i:aF) (σ:St) (tr:Tr) (σ':St),wu E all oc i os σ tr σ'->(∀j o,os[j]? =ah o->all[i+j]? =ah o)->(∀o∈os,∀d,o.dst=ah d->d<N)->
  (∀a w c,At P E N σ0 c0 w0 σ' a w c->Q .normal a w)->∀a w c,At P E N σ0 c0 w0 σ a w c->wpOps P all Q (mm i os.length) a w:=by
 intro os;induction os with
 |nil=>intro i σ tr σ' h _ _ hQ a w c gd;obtain⟨_,rfl⟩:=h;exact hQ a w c gd
 |cons o os ih=>intro i σ tr σ' h nT Cg hQ a w c gd;obtain⟨ws,lg,tr',rfl,hs,V_⟩:=h;have hi:all[i]? =ah o:=nT 0 o rfl;rw[db,List.range'_succ,wpOps_cons];refine Bo hE hF gd.ok gd.sl (λd hd=>by rw[gd.sz];exact Cg o (dn ..) d hd) hi hs (λv w' c' h1 h2 h3 h4=> ?_);exact ih (i+1) _ _ _ V_ (λj o' hj=>by have:=nT (j+1) o' hj;rwa[show i+(j+1)=i+1+j by omega]at this) (λo' vi=>Cg o' (c7 _ vi)) hQ _ _ _ (gd.step h1 h2 h3 h4)
end
end Go.FG

namespace Go.FG
theorem Rd.Zm{α:Type}(m:Rd α):∀{σ:St} {l l':aA aF} {a:α},m.run σ l=ah (a,l')->∀k∈l,k∈l':=by
 induction m with
 |ret a=>intro σ l l' b h k hk;cases h;exact hk
 |fail=>intro σ l l' b h;cases h
 |get k f ih=>intro σ l l' b h k' vh;exact ih _ h k' (c7 _ vh)
theorem Rd.PN{α:Type}(m:Rd α):∀{σ σ':St} {l l':aA aF} {a:α},m.run σ l=ah (a,l')->(∀k∈l',σ' k=σ k)->m.run σ' l=ah (a,l'):=by
 induction m with
 |ret a=>intro σ σ' l l' b h _;exact h
 |fail=>intro σ σ' l l' b h;cases h
 |get k f ih=>intro σ σ' l l' b h hk;have h:(f (σ k)).run σ (k::l)=ah (b,l'):=h;have vh:σ' k=σ k:=hk k (Rd.Zm _ h k (dn ..));show(f (σ' k)).run σ' (k::l)=ah (b,l');rw[vh];exact ih _ h hk
theorem yo{all:dt fA}{o:fA}{σ σ':St}(h:∀k∈pS all o,σ' k=σ k):mw all o σ'=mw all o σ:=by
 unfold mw pS at*
 cases hg:o.guard with
 |none=>rfl
 |some gw=>
  obtain⟨g,want⟩:=gw;rw[hg]at h;dsimp only at h⊢;cases hd:(all.getD g default).dst with
  |none=>rfl
  |some d=>rw[hd]at h;dsimp only at h⊢;rw[h (qq d) (aZ.2 rfl)]
theorem vd.congr{E:fO}{all:dt fA}{nm:aF}{o:fA}{σ σ':St}{ws:aA (aF×eQ)}{lg:Lg}(h:vd E all nm o σ ws lg)(hk:∀k∈lg.rs,σ' k=σ k):vd E all nm o σ' ws lg:=by
 rcases h with ⟨h1,e,l,h2,h3,rfl,rfl⟩|⟨h1,rfl,rfl⟩
 ·refine .inl ⟨by rw[yo (λk vh=>hk k (bN _ vh))];exact h1,e,l,Rd.PN _ h2 (λk vh=>hk k (bO _ vh)),h3,rfl,rfl⟩
 ·exact .inr ⟨by rw[yo (λk vh=>hk k vh)];exact h1,rfl,rfl⟩
theorem vd.keys{E:fO}{all:dt fA}{nm:aF}{o:fA}{σ:St}{ws:aA (aF×eQ)}{lg:Lg}(h:vd E all nm o σ ws lg):lg.ws=ws.map (·.1):=by rcases h with ⟨h1,e,l,h2,h3,rfl,rfl⟩|⟨h1,rfl,rfl⟩<;>rfl
theorem pC:∀{ws:aA (aF×eQ)} {σ:St} {k:aF},k∉ws.map (·.1)->wr σ ws k=σ k:=by
 intro ws;induction ws with
 |nil=>intro σ k _;rfl
 |cons d ws ih=>obtain⟨k',c⟩:=d;intro σ k h;rw[fB,cy,not_or]at h;show wr (pM σ k' c) ws k=σ k;rw[ih h.2,zO σ c h.1]
theorem VC:∀{ws:aA (aF×eQ)} {σ σ':St} {k:aF},k∈ws.map (·.1)->wr σ ws k=wr σ' ws k:=by
 intro ws;induction ws with
 |nil=>intro σ σ' k h;cases h
 |cons d ws ih=>
  obtain⟨k',c⟩:=d;intro σ σ' k h;show wr (pM σ k' c) ws k=wr (pM σ' k' c) ws k;by_cases hk:k∈ws.map (·.1)
  ·exact ih hk
  ·have:k=k':=by
    rcases cy.1 h with h|h
    ·exact h
    ·exact cJ h hk
   subst this;rw[pC hk,pC hk,tX,tX]
theorem VB{ws:aA (aF×eQ)}{σ σ':St}{k:aF}(h:σ k=σ' k):wr σ ws k=wr σ' ws k:=by
 by_cases hk:k∈ws.map (·.1)
 ·exact VC hk
 ·rw[pC hk,pC hk];exact h
def Dk:Tr->aF->(aF->aW)->St->St
 |[],_,_,σ=>σ
 |(ws,_)::tr,i,S,σ=>Dk tr (i+1) S (bif S i then wr σ ws else σ)
theorem uF:∀{tr:Tr} {i:aF} {S S':aF->aW} {σ σ':St} {k:aF},σ k=σ' k->(∀j ws lg,tr[j]? =ah (ws,lg)->S (i+j)≠S' (i+j)->k∉ws.map (·.1))->Dk tr i S σ k=Dk tr i S' σ' k:=by
 intro tr;induction tr with
 |nil=>intro i S S' σ σ' k h _;exact h
 |cons d tr ih=>
  obtain⟨ws,lg⟩:=d;intro i S S' σ σ' k h hd;refine ih ?_ (λj D6 Dj hj iw=>hd (j+1) D6 Dj hj (by rwa[show i+(j+1)=i+1+j by omega]));by_cases hS:S i=S' i
  ·rw[hS];cases S' i
   ·exact h
   ·exact VB h
  ·have hk:=hd 0 ws lg rfl hS;cases hs:S i<;>cases hs':S' i
   ·exact cJ (hs.trans hs'.symm) hS
   ·show σ k=wr σ' ws k;rw[pC hk];exact h
   ·show wr σ ws k=σ' k;rw[pC hk];exact h
   ·exact cJ (hs.trans hs'.symm) hS
theorem C3:∀{tr:Tr} {i:aF} {S:aF->aW} {σ:St},(∀j,i<=j->S j=ak)->Dk tr i S σ=σ:=by
 intro tr;induction tr with
 |nil=>intro i S σ _;rfl
 |cons d tr ih=>obtain⟨ws,lg⟩:=d;intro i S σ h;show Dk tr (i+1) S (bif S i then wr σ ws else σ)=σ;rw[h i (cD _)];exact ih (λj hj=>h j (by omega))
theorem Vq:∀{tr:Tr} {i j:aF} {S:aF->aW} {σ:St} {ws:aA (aF×eQ)} {lg:Lg},tr[j]? =ah (ws,lg)->S (i+j)=ai->(∀q,i+j<q->S q=ak)->∃τ,Dk tr i S σ=wr τ ws:=by
 intro tr;induction tr with
 |nil=>intro i j S σ ws lg h;simp at h
 |cons d tr ih=>
  obtain⟨D6,Dj⟩:=d;intro i j S σ ws lg h hS hn;cases j with
  |zero=>
   cases h;refine⟨σ, ?_⟩
   show Dk tr (i+1) S (bif S i then wr σ D6 else σ)=wr σ D6;rw[show S i=ai from hS];exact C3 (λq hq=>hn q (by omega))
  |succ j=>exact ih (i:=i+1) h (by rwa[show i+1+j=i+(j+1)by omega]) (λq hq=>hn q (by omega))
theorem R9{E:fO}{all:dt fA}{oc:aF}:∀{os:aA fA} {i:aF} {σ σ':St} {tr:Tr},wu E all oc i os σ tr σ'->tr.length=os.length/\Dk tr i (λ_=>ai) σ=σ'/\
  ∀(j:aF) (o:fA),os[j]? =ah o->∃ws lg,tr[j]? =ah (ws,lg)/\vd E all (Le oc (i+j)) o (Dk tr i (λq=>decide (q<i+j)) σ) ws lg:=by
 intro os;induction os with
 |nil=>intro i σ σ' tr h;obtain⟨rfl,rfl⟩:=h;exact⟨rfl,rfl,λj o h=>by simp at h⟩
 |cons o os ih=>
  intro i σ σ' tr h;obtain⟨ws,lg,tr',rfl,hs,V_⟩:=h;obtain⟨h1,h2,h3⟩:=ih V_;refine⟨by simp[h1],h2,λj o' hj=> ?_⟩
  cases j with
  |zero=>
   cases hj;refine⟨ws,lg,rfl, ?_⟩
   rw[show Dk ((ws,lg)::tr') i (λq=>decide (q<i+0)) σ=σ from C3 (λq hq=>by simp;omega)];exact hs
  |succ j=>
   obtain⟨D6,Dj,q1,q2⟩:=h3 j o' hj;refine⟨D6,Dj,q1, ?_⟩
   have e1:Dk ((ws,lg)::tr') i (λq=>decide (q<i+(j+1))) σ=Dk tr' (i+1) (λq=>decide (q<i+1+j)) (wr σ ws):=by show Dk tr' (i+1) (λq=>decide (q<i+(j+1))) (bif decide (i<i+(j+1))then wr σ ws else σ)=_;rw[aE (by omega:i<i+(j+1))];rw[show i+(j+1)=i+1+j by omega];rfl
   rw[e1,show i+(j+1)=i+1+j by omega];exact q2
theorem tf{a b:Lg}(h:B2 a b=ak):(∀k∈a.ws,k∉b.ws)/\(∀k∈a.ws,k∉b.rs)/\∀k∈b.ws,k∉a.rs:=by simp only[B2,mL,aL]at h;exact⟨oP h.1.1,oP h.1.2,oP h.2⟩
theorem zA{l:aA aF}{n:aF}(h:mJ n l=ai):n∈l:=by
 induction l with
 |nil=>cases h
 |cons m r ih=>
  simp only[mJ,dM]at h;rcases h with h|h
  ·rw[aU h];exact dn ..
  ·exact c7 _ (ih h)
theorem Kp{an:aA aF}{j:aF}{a:Lg}:∀{l:aA Lg} {i:aF},A_ an j a i l=ai->∀(q:aF) (b:Lg),l[q]? =ah b->i+q∈an\/B2 a b=false:=by
 intro l;induction l with
 |nil=>intro i _ q b h;simp at h
 |cons d l ih=>
  intro i h q b hq;simp only[A_,aL,dM,dx]at h;cases q with
  |zero=>cases hq;exact h.1.imp zA id
  |succ q=>have:=ih h.2 q b hq;rwa[show i+1+q=i+(q+1)by omega]at this
theorem MO{an:aA (aA aF)}:∀{rest:aA Lg} {j:aF} {done:aA Lg},done.length=j->calm j an done rest=ai->∀(i J:aF) (a b:Lg),i<J->j<=J->(done++rest)[i]? =ah b->(done++rest)[J]? =ah a->i∈an.getD J []\/B2 a b=false:=by
 intro rest;induction rest with
 |nil=>intro j done hd _ i J a b _ hJ _ hb;rw[dm,kY (by omega)]at hb;cases hb
 |cons d rest ih=>
  intro j done hd h i J a b OZ hJ hi hb;simp only[calm,aL]at h;by_cases hJj:J=j
  ·subst hJj;rw[da (by omega),hd,Nat.sub_self]at hb;cases hb;rw[dH (by omega)]at hi;have:=Kp h.1 i b hi;rwa[bV]at this
  ·refine ih (done:=done++[d]) (by simp[hd]) h.2 i J a b OZ (by omega) ?_ ?_
   ·rw[cu];exact hi
   ·rw[cu];exact hb
theorem WT:∀{os:aA fA} {acc:aA (aA aF)},∃rest,Gn acc os=acc++rest/\rest.length=os.length/\
  ∀(t:aF) (o:fA),os[t]? =ah o->rest[t]? =ah (ddA [] (o.after.toList.flatMap λe=>bif mN .any e then e.on::((acc++rest).take (acc.length+t)).getD e.on []else [])):=by
 intro os;induction os with
 |nil=>intro acc;exact⟨[],by simp[Gn],rfl,λt o h=>by simp at h⟩
 |cons o os ih=>
  intro acc;let x:=ddA [] (o.after.toList.flatMap λe=>bif mN .any e then e.on::acc.getD e.on []else []);obtain⟨rest,h1,h2,h3⟩:=ih (acc:=acc++[x]);refine⟨x::rest, ?_,by simp[h2],λt o' ht=> ?_⟩
  ·show mU x (λx=>Gn (acc++[x]) os)=_;rw[oS,h1,cu];rfl
  ·cases t with
   |zero=>cases ht;rw[sA,yL,o0 (cD _),dY]
   |succ t=>rw[dO,h3 t o' ht];simp only[bT,bA,cu,uO,show acc.length+1+t=acc.length+(t+1)by omega]
theorem NC:∀{os:aA fA} {i:aF},Js i os=ai->∀(t:aF) (o:fA),os[t]? =ah o->∀e∈o.after,mN .any e=ai->e.on<i+t:=by
 intro os;induction os with
 |nil=>intro i _ t o h;simp at h
 |cons o os ih=>
  intro i h t o' ht e he hb;simp only[Js,aL]at h;cases t with
  |zero=>
   cases ht;have:=bn.1 h.1 e (by simpa using he);rw[hb]at this;have:qw e.on i=true:=by simpa using this
   simpa [Ar]using this
  |succ t=>have:=ih h.2 t o' ht e he hb;omega
theorem BM{os:aA fA}{S:aF->aW}(hS:∀(j:aF) (o:fA),S j=ai->os[j]? =ah o->∀e∈o.after,mN .any e=ai->S e.on=ai)(SI:Js 0 os=ai):
  ∀j,S j=ai->∀i∈(Gn [] os).getD j [],S i=true:=by
 obtain⟨rest,h1,h2,h3⟩:=WT (os:=os) (acc:=[]);rw[gz]at h1;intro j;induction j using Nat.strongRecOn with
 |_ j ih=>
  intro hj i hi;rw[h1,cY]at hi;cases ho:os[j]? with
  |none=>rw[kY (by rw[h2];exact List.getElem?_eq_none_iff.1 ho)]at hi;cases hi
  |some o=>
   rw[h3 j o ho]at hi;simp only[yM,jO,bV,gz]at hi;have hi:=(GA _ _ _ hi).elim (λh=>by cases h) id;obtain⟨e,he,hi⟩:=bP.1 hi;have he:e∈o.after:=by simpa using he
   cases hb:mN .any e with
   |false=>rw[hb]at hi;cases hi
   |true=>
    rw[hb]at hi;have jy:=NC SI j o ho e he hb;rw[bV]at jy;have hSe:=hS j o hj ho e he hb;rcases cy.1 hi with rfl|hi
    ·exact hSe
    ·refine ih e.on jy hSe i ?_;rw[h1,cY];rw[cY,d_,bz jy]at hi;exact hi
end Go.FG

namespace Go.FG
theorem Iu{p p':aF->aW}{i:aF}(hp:p i=ai)(mI:p' i=ak)(iw:∀j,j≠i->p' j=p j):∀{l:aA aF},l.Nodup->i∈l->l.countP p'+1=l.countP p:=by
 have same:∀{l:aA aF},i∉l->l.countP p'=l.countP p:=by
  intro l;induction l with
  |nil=>intro _;rfl
  |cons m l ih=>intro h;rw[cy,not_or]at h;rw[lI,lI,ih h.2,iw m (λe=>h.1 e.symm)]
 intro l;induction l with
 |nil=>intro _ h;cases h
 |cons m l ih=>
  intro hn h;rw[kH]at hn;rcases cy.1 h with rfl|h
  ·rw[lI,lI,same hn.1,hp,mI];simp
  ·have hm:m≠i:=λe=>hn.1 (e▸h);rw[lI,lI,iw m hm,<-ih hn.2 h];omega
theorem qn{dP:dt aW}{i:aF}(h:i<dP.size)(d:aW):(dP.setIfInBounds i ai).getD i d=true:=by simp[h]
section
variable {P:c5} {E:fO}
theorem OD(hE:eB P E)(hF:∀g,b9 P E g (E.call g)){N:aF}{σ0:St}{c0:e9}{w0:bM}{all:dt fA}{oc:aF}{Q:Exit->Act->bM->Prop}{σ σ':St}{tr:Tr}(V_:wu E all oc 0 all.toList σ tr σ')(aau:calm 0 (Gn [] all.toList) [] (tr.map (·.2))=ai)(SI:Js 0 all.toList=ai)
  (Cg:∀o∈all.toList,∀d,o.dst=ah d->d<N) (hQ:∀a w c,At P E N σ0 c0 w0 σ' a w c->Q .normal a w):
  ∀(fuel:aF) (dP:dt aW) (a:Act) (w:bM) (c:e9),dP.size=all.size->(∀(j:aF) (o:fA),dP.getD j ak=ai->all.toList[j]? =ah o->∀e∈o.after,mN .any e=ai->dP.getD e.on ak=ai)->
   (cw all.size).countP (λj=> !dP.getD j ak)<=fuel->At P E N σ0 c0 w0 (Dk tr 0 (λj=>dP.getD j ak) σ) a w c->wpAny P .any all Q fuel dP a w:=by
 obtain⟨t1,t2,t3⟩:=R9 V_;have hlen:all.toList.length=all.size:=dR;have done:∀(dP:dt aW) (a:Act) (w:bM) (c:e9),(∀j,j<all.size->dP.getD j ak=ai)->At P E N σ0 c0 w0 (Dk tr 0 (λj=>dP.getD j ak) σ) a w c->Q .normal a w:=by
  intro dP a w c nT gd;refine hQ a w c ?_;have:Dk tr 0 (λj=>dP.getD j ak) σ=σ':=by
   rw[<-t2];funext k;refine uF rfl (λj ws lg hj iw=> ?_);have jY:j<all.size:=by rw[<-hlen,<-t1];exact(aT.1 hj).1
   rw[bV]at iw;exact cJ (nT j jY) iw
  rw[<-this];exact gd
 have aeg:∀(dP:dt aW) (j:aF),dP.size=all.size->j<all.size->dP.getD j ai=dP.getD j false:=by
  intro dP j hs hj;rw[eJ,eJ];have:j<dP.size:=by omega
  simp[this]
 have full:∀dP:dt aW,dP.size=all.size->wy .any all dP=[]->∀j,j<all.size->dP.getD j ak=true:=by
  intro dP hs hr j;induction j using Nat.strongRecOn with
  |_ j ih=>
   intro hj;cases h:dP.getD j ak with
   |true=>rfl
   |false=>
    have ho:all[j]? =ah all[j]:=by simp[hj]
    have:j∈wy .any all dP:=by
     rw[mem_ready];refine⟨by rw[aeg dP j hs hj];exact h,all[j],ho,λe he hb=> ?_⟩
     have:=NC SI j all[j] (by rw[cX];exact ho) e he hb;rw[bV]at this;exact ih e.on this (by omega)
    rw[hr]at this;cases this
 intro fuel;induction fuel with
 |zero=>
  intro dP a w c hs _ aif gd;have nT:∀j,j<all.size->dP.getD j ak=true:=by intro j hj;have h0:=List.countP_eq_zero.1 (Nat.le_zero.1 aif) j (by simpa using hj);simpa using h0
  refine⟨?_,done dP a w c nT gd⟩
  cases hr:wy .any all dP with
  |nil=>rfl
  |cons i r=>
   have:i∈wy .any all dP:=by rw[hr];exact dn ..
   obtain⟨h0,o,ho,_⟩:=mem_ready.1 this;have hi:i<all.size:=(dU.1 ho).1;rw[aeg dP i hs hi,nT i hi]at h0;cases h0
 |succ fuel ih=>
  intro dP a w c hs oU aif gd;refine⟨λhr=>done dP a w c (full dP hs hr) gd,λi hi=> ?_⟩
  obtain⟨h0,o,ho,arJ⟩:=mem_ready.1 hi;have hil:i<all.size:=(dU.1 ho).1;rw[aeg dP i hs hil]at h0;have EK:all.toList[i]? =ah o:=by rw[cX];exact ho
  obtain⟨ws,lg,q1,q2⟩:=t3 i o EK;rw[bV]at q2;have Tj:∀{j:aF} {D6:aA (aF×eQ)} {Dj:Lg},tr[j]? =ah (D6,Dj)->(tr.map (·.2))[j]? =ah Dj/\Dj.ws=D6.map (·.1):=by
   intro j D6 Dj hj;have jY:j<all.toList.length:=by rw[<-t1];exact(aT.1 hj).1
   obtain⟨ws2,lg2,r1,r2⟩:=t3 j all.toList[j] (by simp[jY]);rw[hj]at r1;cases r1;exact⟨by rw[bL,hj];rfl,r2.keys⟩
  obtain⟨lgi,kwi⟩:=Tj q1;have aeD:∀(j:aF) (o':fA),(dP.setIfInBounds i ai).getD j ak=ai->all.toList[j]? =ah o'->∀e∈o'.after,mN .any e=ai->(dP.setIfInBounds i ai).getD e.on ak=true:=by
   intro j o' hj vi e he hb;by_cases O2:i=j
   ·subst O2;rw[EK]at vi;cases vi;exact getD_set_true (arJ e he hb)
   ·rw[getD_set_ne ak O2]at hj;exact getD_set_true (oU j o' hj vi e he hb)
  have before:∀j,j<i->dP.getD j ak=ak->∀{D6:aA (aF×eQ)} {Dj:Lg},tr[j]? =ah (D6,Dj)->B2 lg Dj=false:=by
   intro j hj hn D6 Dj hjt;rcases MO (done:=[]) rfl aau j i lg Dj hj (bI _) (Tj hjt).1 lgi with h|h
   ·have:=BM aeD SI i (qn (by omega) ak) j h;rw[getD_set_ne ak (by omega:i≠j)]at this;rw[hn]at this;cases this
   ·exact h
  have after:∀j,i<j->dP.getD j ak=ai->∀{D6:aA (aF×eQ)} {Dj:Lg},tr[j]? =ah (D6,Dj)->B2 Dj lg=false:=by
   intro j hj hn D6 Dj hjt;rcases MO (done:=[]) rfl aau i j Dj lg hj (bI _) lgi (Tj hjt).1 with h|h
   ·have:=BM oU SI j hn i h;rw[h0]at this;cases this
   ·exact h
  have aiN:vd E all (Le oc i) o (Dk tr 0 (λj=>dP.getD j ak) σ) ws lg:=by
   refine q2.congr (λk hk=>uF rfl (λj D6 Dj hj iw hkw=> ?_));rw[bV]at iw;rw[<-(Tj hj).2]at hkw;by_cases O2:j<i
   ·rw[aE O2]at iw;have hn:dP.getD j ak=false:=by simpa using iw
    exact(tf (before j O2 hn hj)).2.2 k hkw hk
   ·rw[aK O2]at iw;have hn:dP.getD j ak=true:=by simpa using iw
    have arw:i<j:=by
     rcases qU i j with h|h
     ·exact h
     ·have:j=i:=by omega
      subst this;rw[h0]at hn;cases hn
    exact(tf (after j arw hn hj)).2.1 k hkw hk
  have zq:wr (Dk tr 0 (λj=>dP.getD j ak) σ) ws=Dk tr 0 (λj=>(dP.setIfInBounds i ai).getD j ak) σ:=by
   funext k;by_cases hk:k∈ws.map (·.1)
   ·have e1:Dk tr 0 (λj=>(dP.setIfInBounds i ai).getD j ak) σ k=Dk tr 0 (λj=>(dP.setIfInBounds i ai).getD j ak&&decide (j<=i)) σ k:=by
     refine uF rfl (λj D6 Dj hj iw hkw=> ?_);rw[bV]at iw;rw[<-(Tj hj).2]at hkw;have O2:i<j:=by
      rcases qU i j with h|h
      ·exact h
      ·rw[aE h,j4]at iw;exact cJ rfl iw
     rw[aK (by omega:¬j<=i),wm,getD_set_ne ak (by omega:i≠j)]at iw;have hn:dP.getD j ak=true:=by simpa using iw
     rw[<-kwi]at hk;exact(tf (after j O2 hn hj)).1 k hkw hk
    obtain⟨τ,hτ⟩:=Vq (i:=0) (S:=λj=>(dP.setIfInBounds i ai).getD j ak&&decide (j<=i)) (σ:=σ) q1 (by rw[bV,qn (by omega) ak];simp) (λq hq=>by rw[aK (by omega:¬q<=i),wm]);rw[e1,hτ];exact VC hk
   ·rw[pC hk];refine uF rfl (λj D6 Dj hj iw hkw=> ?_);rw[bV]at iw;by_cases O2:i=j
    ·subst O2;rw[q1]at hj;cases hj;exact hk hkw
    ·rw[getD_set_ne ak O2]at iw;exact cJ rfl iw
  refine Bo hE hF gd.ok gd.sl (λd hd'=>by rw[gd.sz];exact Cg o (aR EK) d hd') ho aiN (λv w' c' h1 h2 h3 h4=> ?_);have AL:=gd.step h1 h2 h3 h4;rw[zq]at AL;refine ih (dP.setIfInBounds i ai) _ _ c' (by simp[hs]) aeD ?_ AL;have:=Iu (p:=λj=> !dP.getD j ak) (p':=λj=> !(dP.setIfInBounds i ai).getD j ak) (i:=i) (by rw[h0];rfl) (by rw[qn (by omega) ak];rfl) (λj hj=>by rw[getD_set_ne ak (λe=>hj e.symm)]) (l:=cw all.size) List.nodup_range (by simpa using hil);omega
theorem At.drawn{N:aF}{σ0 σ:St}{c0 c:e9}{w0 w:bM}{a:Act}(h:At P E N σ0 c0 w0 σ a w c)(n:aF):At P E N σ0 c0 w0 σ a {w with drawn:=n} c:=by have hh:=h.ok.change (σ':=σ) (w':={w with drawn:=n}) (c':=c) (λ_=>False) (λ_ _=>rfl) (λ_ h=>h) (jC.refl _ _) (λ_ _ _=>rfl) (cD _) (λ_ h=>h) (λ_ h=> .inl h) h.ok.lt (λ_ _ h=>h.elim) (λ_ _ _ h=>h.elim) (λ_ _ _ _ _ h=>h.elim) (λ_ _ h=>h.elim) rfl rfl rfl;refine⟨hh.1,⟨λn'=>(h.sl.ok n').frame (λ_ _=>rfl) (λ_ h=>h) (λ_ _=>⟨rfl,rfl⟩),h.sl.kn,h.sl.df⟩,h.sz,h.gr.trans hh.2,h.ag⟩
theorem PE(hE:eB P E)(hF:∀g,b9 P E g (E.call g))(hm:P.follows .mixedOrders=ai){R:Type}{N:aF}{σ0:St}{c0:e9}{w0:bM}{os:dt fA}{oc:aF}{draw:aW}{Q:Exit->Act->bM->Prop}{σ:St}{K:Ex->St->az R}{r:R}
  (h:ops E os oc 0 os.toList σ [] (λσ lg=>bif !draw||(Js 0 os.toList&&MN (Gn [] os.toList) lg.reverse)then K .normal σ else aj)=ah r) (Cg:∀o∈os.toList,∀d,o.dst=ah d->d<N)
  (hQ:∀σ' a w c,K .normal σ'=ah r->At P E N σ0 c0 w0 σ' a w c->Q .normal a w) {a:Act} {w:bM} {c:e9} (gd:At P E N σ0 c0 w0 σ a w c):(Code.region oc os draw).wp P Q a w:=by
 obtain⟨tr,σ',V_,hk⟩:=Ps E os oc _ _ _ _ _ _ h;simp only[dm,vH,R5]at hk;cases draw with
 |false=>simp only[bR,Al,au]at hk;refine wp_region ?_;rw[RK,<-dR];exact Ku hE hF os.toList 0 σ tr σ' V_ (λj o hj=>by rw[bV,<-cX];exact hj) Cg (λa w c h=>hQ σ' a w c hk h) a w c gd
 |true=>
  cases hc:(Js 0 os.toList&&calm 0 (Gn [] os.toList) [] (tr.map (·.2)))with
  |false=>simp[hc]at hk
  |true=>
   simp only[hc,J8,au]at hk;simp only[aL]at hc;refine wp_region_any hm ?_;refine OD hE hF V_ hc.2 hc.1 Cg (λa w c h=>hQ σ' a w c hk h) os.size _ a _ c (by simp) (λj o hj=> ?_) ?_ ?_
   ·exfalso;rw[eJ,D9]at hj;split at hj<;>cases hj
   ·exact dg (List.countP_le_length) (by simp)
   ·have:Dk tr 0 (λj=>(AQ os.size ak).getD j ak) σ=σ:=C3 (λj _=>by rw[eJ,D9];split<;>rfl);rw[this];exact gd.drawn _
end
end Go.FG

namespace Go.FG
theorem SQ:∀{l:aA aF} {n i:aF},n∈l->∃k,idx n i l=ah k/\i<=k/\k<i+l.length/\l[k-i]? =ah n:=by
 intro l;induction l with
 |nil=>intro n i h;cases h
 |cons m l ih=>
  intro n i h;unfold idx;cases hb:bC n m with
  |true=>have:=aU hb;subst this;exact⟨i,rfl,cD _,by simp,by simp⟩
  |false=>
   rcases cy.1 h with rfl|h
   ·simp at hb
   ·obtain⟨k,h1,h2,h3,h4⟩:=ih (i:=i+1) h;refine⟨k,h1,by omega,by simp;omega, ?_⟩
    rw[show k-i=(k-(i+1))+1 by omega,dO];exact h4
theorem XI:∀{l:aA aF} {n i k:aF},idx n i l=ah k->i<=k/\k<i+l.length/\l[k-i]? =ah n:=by
 intro l;induction l with
 |nil=>intro n i k h;cases h
 |cons m l ih=>
  intro n i k h;unfold idx at h;cases hb:bC n m with
  |true=>rw[hb]at h;have:=aU hb;subst this;cases h;exact⟨cD _,by simp,by simp⟩
  |false=>
   rw[hb]at h;obtain⟨h2,h3,h4⟩:=ih h;refine⟨by omega,by simp;omega, ?_⟩
   rw[show k-i=(k-(i+1))+1 by omega,dO];exact h4
theorem KA{f:aW}{k:aF}(h:k<900):enc f k<900000000:=by unfold enc;cases f<;>simp<;>omega
theorem XO{f:aW}{k:aF}(h:k<900):zu (enc f k)=f:=by
 cases f with
 |false=>
  show(bC (k%1000) 999&&qw k 900000000)=ak;have:bC (k%1000) 999=false:=by
   cases hb:bC (k%1000) 999 with
   |false=>rfl
   |true=>have:=aU hb;omega
  rw[this];rfl
 |true=>show(bC ((k*1000+999)%1000) 999&&qw (k*1000+999) 900000000)=ai;rw[show(k*1000+999)%1000=999 by omega,show qw (k*1000+999) 900000000=ai from Ke (by omega)];rfl
theorem W9{f f':aW}{k k':aF}(h:k<900)(h':k'<900)(he:enc f k=enc f' k'):k=k':=by unfold enc at he;cases f<;>cases f'<;>simp at he<;>omega
theorem Uz{l:aA aF}{n:aF}(h:n∈l):∃k,v_ l n=ah k:=by
 unfold v_;cases fI 900000000 n with
 |true=>exact⟨n,by simp[Jg h]⟩
 |false=>obtain⟨k,hk,_⟩:=SQ (i:=0) h;exact⟨enc (zu n) k,by simp[hk]⟩
theorem xM{l:aA aF}{n k:aF}(h:v_ l n=ah k):n∈l/\((900000000<=n/\k=n)\/(n<900000000/\∃k0,k=enc (zu n) k0/\k0<l.length/\l[k0]? =ah n)):=by
 unfold v_ at h;cases hb:fI 900000000 n with
 |true=>
  rw[hb]at h;cases hm:mJ n l with
  |true=>simp only[hm,au]at h;cases h;exact⟨zA hm, .inl ⟨cL hb,rfl⟩⟩
  |false=>simp[hm]at h
 |false=>
  rw[hb,ax]at h;cases hi:idx n 0 l with
  |none=>rw[hi]at h;cases h
  |some k0=>
   rw[hi]at h;cases h;obtain⟨_,h3,h4⟩:=XI hi;rw[yv]at h4;refine⟨aR h4, .inr ⟨?_,k0,rfl,by simpa using h3,h4⟩⟩
   rcases qU n 900000000 with h|h
   ·exact h
   ·rw[Ke h]at hb;cases hb
theorem NG{l:aA aF}(hl:l.length<=900){n k:aF}(h:v_ l n=ah k):zu k=zu n:=by
 obtain⟨_,⟨_,rfl⟩|⟨_,k0,rfl,h3,_⟩⟩:=xM h
 ·rfl
 ·exact XO (by omega)
theorem Zi{l:aA aF}(hl:l.length<=900){n n' k:aF}(h:v_ l n=ah k)(h':v_ l n'=ah k):n=n':=by
 obtain⟨_,h1⟩:=xM h;obtain⟨_,h2⟩:=xM h';rcases h1 with ⟨a,b⟩|⟨a,k0,b,d,e⟩<;>rcases h2 with ⟨a',b'⟩|⟨a',k0',b',d',e'⟩
 ·omega
 ·have:=KA (f:=zu n') (k:=k0') (by omega);omega
 ·have:=KA (f:=zu n) (k:=k0) (by omega);omega
 ·have:=W9 (f:=zu n) (f':=zu n') (k:=k0) (k':=k0') (by omega) (by omega) (b.symm.trans b');subst this;rw[e]at e';cases e';rfl
def inv(l:aA aF)(m:aF):az aF:=l.find? λn=>decide (v_ l n=ah m)
theorem ae2{l:aA aF}(hl:l.length<=900){n k:aF}(h:v_ l n=ah k):inv l k=ah n:=by
 unfold inv;cases hf:l.find? (λn=>decide (v_ l n=ah k))with
 |none=>have:=WK.1 hf n (xM h).1;simp[h]at this
 |some n'=>have:=u_ hf;rw[Zi hl h (cm this)]
theorem SU{l:aA aF}{m n:aF}(h:inv l m=ah n):v_ l n=ah m:=cm (u_ (p:=λn=>decide (v_ l n=ah m)) h)
theorem EO{l ns:aA aF}(h:zw l ns=ai):∀n∈ns,n∈l:=λn hn=>zA (bn.1 h n hn)
theorem rO{σ:St}{l:aA aF}:∀{r:aA aF} {k:aF} {x:eQ},(k,x)∈v7 σ l r↔∃n∈r,∃m,v_ l n=ah m/\k=c9 m/\x=PF l (σ (c9 n)):=by
 intro r;induction r with
 |nil=>intro k x;simp[v7]
 |cons n r ih=>
  intro k x;unfold v7;cases hr:v_ l n with
  |none=>
   simp only;rw[ih];constructor
   ·rintro ⟨n',h1,h2⟩;exact⟨n',c7 _ h1,h2⟩
   ·rintro ⟨n',h1,m,h2,h3⟩;rcases cy.1 h1 with rfl|h1
    ·rw[hr]at h2;cases h2
    ·exact⟨n',h1,m,h2,h3⟩
  |some m=>
   simp only[cy,ih];constructor
   ·rintro (h|⟨n',h1,h2⟩)
    ·cases h;exact⟨n, .inl rfl,m,hr,rfl,rfl⟩
    ·exact⟨n', .inr h1,h2⟩
   ·rintro ⟨n',h1|h1,m',h2,rfl,rfl⟩
    ·subst h1;rw[hr]at h2;cases h2;exact .inl rfl
    ·exact .inr ⟨n',h1,m',h2,rfl,rfl⟩
section
variable {P:c5} {E:fO} {σ:St} {a:Act} {w:bM} {c:e9} {o:fA} {nm:aF} {e:sR}
def xK(c:e9)(l:aA aF):e9:=
 ⟨λm=>match inv l m with|some n=>c.P n|none=>c.P m,λm=>match inv l m with|some n=>c.G n|none=>c.G m,c.K⟩
theorem xL{l:aA aF}(hl:l.length<=900){n m:aF}(h:v_ l n=ah m):(xK c l).P m=c.P n/\(xK c l).G m=c.G n:=by have:=ae2 hl h;unfold xK;simp only[this];exact⟨trivial,trivial⟩
theorem tM{T:Tab}{l:aA aF}(hl:l.length<=900){x:AV}{u:bk}(hx:eG T w c x u)(hk:∀n∈bQ x,n∈l):eG T w (xK c l) (pX l x) u/\∀m∈bQ (pX l x),∃n∈l,v_ l n=ah m:=by
 have named:∀n,n∈bQ x->∃k,v_ l n=ah k/\(xK c l).P k=c.P n/\(xK c l).G k=c.G n:=λn hn=>by obtain⟨k,h⟩:=Uz (hk n hn);exact⟨k,h,xL hl h⟩
 have nn:∀m,m∈([]:aA aF)->∃n∈l,v_ l n=ah m:=λm h=>by cases h
 cases x with
 |i=>exact⟨hx,nn⟩
 |b=>exact⟨hx,nn⟩
 |s=>exact⟨hx,nn⟩
 |nl=>exact⟨hx,nn⟩
 |sh=>exact⟨hx,nn⟩
 |sp=>exact⟨hx,nn⟩
 |fn=>exact⟨hx,nn⟩
 |fp=>exact⟨hx,nn⟩
 |own n=>obtain⟨k,h,e1,e2⟩:=named n (by simp[bQ]);simp only[pX,h];exact⟨by simp only[eG,e1]at hx⊢;exact hx,λm hm=>⟨n,hk n (by simp[bQ]),by rw[show m=k by simpa [bQ]using hm];exact h⟩⟩
 |vw n lo hi=>obtain⟨k,h,e1,e2⟩:=named n (by simp[bQ]);simp only[pX,h];exact⟨by simp only[eG,e1]at hx⊢;exact hx,λm hm=>⟨n,hk n (by simp[bQ]),by rw[show m=k by simpa [bQ]using hm];exact h⟩⟩
 |bp n j=>obtain⟨k,h,e1,e2⟩:=named n (by simp[bQ]);simp only[pX,h];exact⟨by simp only[eG,e1]at hx⊢;exact hx,λm hm=>⟨n,hk n (by simp[bQ]),by rw[show m=k by simpa [bQ]using hm];exact h⟩⟩
 |rp n i j=>obtain⟨k,h,e1,e2⟩:=named n (by simp[bQ]);simp only[pX,h];exact⟨by simp only[eG,e1]at hx⊢;exact hx,λm hm=>⟨n,hk n (by simp[bQ]),by rw[show m=k by simpa [bQ]using hm];exact h⟩⟩
 |inn n i j=>obtain⟨k,h,e1,e2⟩:=named n (by simp[bQ]);simp only[pX,h];exact⟨by simp only[eG,e1,e2,NG hl h]at hx⊢;exact hx,λm hm=>⟨n,hk n (by simp[bQ]),by rw[show m=k by simpa [bQ]using hm];exact h⟩⟩
 |ip n i j i2 j2=>obtain⟨k,h,e1,e2⟩:=named n (by simp[bQ]);simp only[pX,h];exact⟨by simp only[eG,e1,e2,NG hl h]at hx⊢;exact hx,λm hm=>⟨n,hk n (by simp[bQ]),by rw[show m=k by simpa [bQ]using hm];exact h⟩⟩
theorem Lw{T:Tab}{l:aA aF}(hl:l.length<=900){g:aW}{xs:aA AV}{u:bk}(hx:qj T w c g xs u)(hk:∀n∈xs.flatMap bQ,n∈l):qj T w (xK c l) g (xs.map (pX l)) u/\∀m∈(xs.map (pX l)).flatMap bQ,∃n∈l,v_ l n=ah m:=by
 have kx:∀x∈xs,∀n∈bQ x,n∈l:=λx hx n hn=>hk n (bP.2 ⟨x,hx,hn⟩);unfold qj at hx;split at hx
 ·rename_i y;obtain⟨h1,h2⟩:=tM hl hx (kx y (by simp));exact⟨h1,λm hm=>h2 m (by simpa using hm)⟩
 ·obtain⟨vals,rfl,hs,hv⟩:=hx;refine⟨⟨vals,rfl,by simp[hs],λj y hj=> ?_⟩,λm hm=> ?_⟩
  ·rw[bL]at hj;cases XF:xs[j]? with
   |none=>rw[XF]at hj;cases hj
   |some x=>rw[XF]at hj;cases hj;obtain⟨u,hu,ha⟩:=hv j x XF;exact⟨u,hu,(tM hl ha (kx x (aR XF))).1⟩
  ·obtain⟨y,hy,hm⟩:=bP.1 hm;obtain⟨x,hxm,rfl⟩:=cU.1 hy;obtain⟨j,hj⟩:=bY hxm;obtain⟨u,hu,ha⟩:=hv j x hj;exact(tM hl ha (kx x hxm)).2 m hm
 ·exact hx.elim
theorem Jy{T:Tab}{l:aA aF}(hl:l.length<=900){s:SV}{u:bk}(hx:ji T w c s u):ji T w (xK c l) (E0 l s) u/\∀m∈cM (E0 l s),∃n∈l,v_ l n=ah m:=by
 unfold E0;cases hk:zw l (cM s)with
 |false=>exact⟨trivial,λm hm=>by simp[cM]at hm⟩
 |true=>
  have hk:=EO hk;simp only[au];cases s with
  |un=>exact⟨trivial,λm hm=>by simp[cM]at hm⟩
  |v g xs=>exact Lw hl hx hk
  |j_ r=>
   obtain⟨vs,rfl,hs,hv⟩:=hx;have kr:∀x∈r,∀n∈x.2.flatMap bQ,n∈l:=λx hx n hn=>hk n (bP.2 ⟨x,hx,hn⟩);refine⟨⟨vs,rfl,by simp[hs],λj g xs hj=> ?_⟩,λm hm=> ?_⟩
   ·rw[bL]at hj;cases XF:r[j]? with
    |none=>rw[XF]at hj;cases hj
    |some x=>rw[XF]at hj;cases hj;obtain⟨u,hu,ha⟩:=hv j x.1 x.2 XF;exact⟨u,hu,(Lw hl ha (kr x (aR XF))).1⟩
   ·obtain⟨y,hy,hm⟩:=bP.1 hm;obtain⟨x,hxm,rfl⟩:=cU.1 hy;obtain⟨j,hj⟩:=bY hxm;obtain⟨u,hu,ha⟩:=hv j x.1 x.2 hj;exact(Lw hl ha (kr x hxm)).2 m hm
theorem Uy{l:aA aF}{x:eQ}:PF l x≠ .jZ:=by
 unfold PF;split
 ·intro h;revert h;cases zw l _<;>simp
 ·simp
 ·simp
theorem OC{N:aF}{σ0:St}{c0:e9}{w0:bM}{keep:aA aF}(h:At P E N σ0 c0 w0 σ a w c):∃c',At P E N σ0 c0 w0 (fK (mU (Kr keep σ) λl=>Kq keep σ l)) a w c':=by
 rw[oS];generalize Kr keep σ=l;unfold Kq;cases hle:fI l.length 900 with
 |false=>
  simp only[ax];have hn:∀k,fK [] k= .jZ:=λk=>rfl;have no:∀{k:aF} {x:Obj},fK [] k≠ .o x:=λh=>by rw[hn]at h;cases h
  refine⟨c,⟨λnm o ho=>cJ ho no,λnm o xH o' b ho=>cJ ho no,λnm o b ho=>cJ ho no,h.ok.lt,λnm xs ho=>cJ ho no⟩,⟨λn=>trivial,λn m hm=>(by simp[slot,fK,cM]at hm),h.sl.df⟩,h.sz,h.gr.trans ⟨rfl,rfl,rfl,cD _,λ_ h=>h,λ_ _ _=>rfl,λb hb=> ?_,λ_ h=> .inl h⟩,h.ag⟩
  obtain⟨nm,o,ho,_⟩:=hb;exact cJ ho no
 |true=>
  have hl:=cL hle;simp only[au];generalize hT:keep.map (λn=>(qq n,eQ.v (E0 l (slot σ n))))++v7 σ l l=T;have aus:∀d∈T,d.2≠ .jZ:=by
   rintro ⟨k,x⟩ hd;rw[<-hT]at hd;rcases ba.1 hd with hd|hd
   ·obtain⟨n,_,hd⟩:=cU.1 hd;cases hd;simp
   ·obtain⟨n,_,m,_,_,rfl⟩:=rO.1 hd;exact Uy
  have aut:∀{m:aF} {ob:Obj},fK T (c9 m)= .o ob->∃n∈l,v_ l n=ah m/\PF l (σ (c9 n))= .o ob:=by
   intro m ob ho;have:=nU ho (by simp);rw[<-hT]at this;rcases ba.1 this with hd|hd
   ·obtain⟨n,_,hd⟩:=cU.1 hd;injection hd with h1 h2;exact cJ h1 (rX n m)
   ·obtain⟨n,hn,m',hr,h1,h2⟩:=rO.1 hd;have:=jU h1;subst this;exact⟨n,hn,hr,h2.symm⟩
  have Tg:∀{m n:aF},n∈l->v_ l n=ah m->fK T (c9 m)≠ .jZ:=λhn hr=>rZ (l:=T) (by rw[<-hT];exact bO _ (rO.2 ⟨_,hn,_,hr,rfl,rfl⟩)) aus;have ab8:∀n,slot (fK T) n=E0 l (slot σ n)\/slot (fK T) n= .un:=by
   intro n;unfold slot;cases hs:fK T (qq n)with
   |v x=>
    have:=nU hs (by simp);rw[<-hT]at this;rcases ba.1 this with hd|hd
    ·obtain⟨n',_,hd⟩:=cU.1 hd;injection hd with h1 h2;have:=Hp h1;subst this;cases h2;exact .inl rfl
    ·obtain⟨n',hn,m',hr,h1,h2⟩:=rO.1 hd;exact cJ h1 (rX _ _)
   |o=>exact .inr rfl
   |jZ=>exact .inr rfl
  have was:∀{m:aF} {ob:Obj},fK T (c9 m)= .o ob->ob= .dead\/∃n∈l,v_ l n=ah m/\((σ (c9 n)= .o ob/\∀xs,ob≠ .box xs)\/∃xs,σ (c9 n)= .o (.box xs)/\ob= .box (xs.map (pX l))/\∀k∈xs.flatMap bQ,k∈l):=by
   intro m ob ho;obtain⟨n,hn,hr,he⟩:=aut ho;unfold PF at he;split at he
   ·rename_i xs hx;cases hk:zw l (xs.flatMap bQ)with
    |true=>rw[hk]at he;cases he;exact .inr ⟨n,hn,hr, .inr ⟨xs,hx,rfl,EO hk⟩⟩
    |false=>rw[hk]at he;cases he;exact .inl rfl
   ·rename_i x iw hx;cases he;exact .inr ⟨n,hn,hr, .inl ⟨hx,λxs e=>iw xs e⟩⟩
   ·cases he;exact .inl rfl
  have M5:∀{m:aF} {ob:Obj} {b:aF},fK T (c9 m)= .o ob->fJ (xK c l) m ob b->∃n o,v_ l n=ah m/\σ (c9 n)= .o o/\fJ c n o b:=by
   intro m ob b ho hf;rcases was ho with rfl|⟨n,hn,hr,⟨h1,_⟩|⟨xs,h1,rfl,_⟩⟩
   ·exact hf.elim
   ·obtain⟨e1,e2⟩:=xL (c:=c) hl hr;refine⟨n,ob,hr,h1, ?_⟩
    cases ob<;>simp only[fJ,e1,e2]at hf⊢ <;>exact hf
   ·obtain⟨e1,e2⟩:=xL (c:=c) hl hr;refine⟨n,_,hr,h1, ?_⟩
    simp only[fJ,e1]at hf⊢;exact hf
  refine⟨xK c l,⟨?_, ?_, ?_,h.ok.lt, ?_⟩,⟨?_, ?_,h.sl.df⟩,h.sz,h.gr.trans ⟨rfl,rfl,rfl,cD _,λ_ h=>h,λ_ _ _=>rfl, ?_,λ_ h=> .inl h⟩,h.ag.trans ?_⟩
  ·intro m ob ho;rcases was ho with rfl|⟨n,hn,hr,⟨h1,h2⟩|⟨xs,h1,rfl,hk⟩⟩
   ·trivial
   ·obtain⟨e1,e2⟩:=xL (c:=c) hl hr;have mV:=h.ok.obj n ob h1;cases ob with
    |box xs=>exact cJ rfl (h2 xs)
    |dead=>trivial
    |n9 cs=>show FB E w c.K ((xK c l).P m).blk cs;rw[e1];exact mV
    |fQ e' xs=>show c_ E w c.K (lS ((xK c l).P m)) _/\((xK c l).P m).n=_/\_;rw[e1];exact mV
    |row e' ex xs=>obtain⟨q1,q2,q3⟩:=mV;exact⟨by rw[e1];exact q1,by rw[e1,e2];exact q2,by rw[e1,e2];exact q3⟩
   ·obtain⟨e1,e2⟩:=xL (c:=c) hl hr;obtain⟨vals,hb,hs,hv⟩:=h.ok.obj n _ h1;refine⟨vals,by rw[e1];exact hb,by simp[hs],λj y hj=> ?_⟩
    rw[bL]at hj;cases hx:xs[j]? with
    |none=>rw[hx]at hj;cases hj
    |some x=>rw[hx]at hj;cases hj;obtain⟨u,hu,ha⟩:=hv j x hx;exact⟨u,hu,(tM hl ha (λk vh=>hk k (bP.2 ⟨x,aR hx,vh⟩))).1⟩
  ·intro m ob m' ob' b ho vi hf ve;obtain⟨n,o1,r1,s1,f1⟩:=M5 ho hf;obtain⟨n',o2,r2,s2,f2⟩:=M5 vi ve;have:=h.ok.sep n o1 n' o2 b s1 s2 f1 f2;subst this;rw[r1]at r2;cases r2;rfl
  ·intro m ob b ho hf;obtain⟨n,o1,r1,s1,f1⟩:=M5 ho hf;exact h.ok.kk n o1 b s1 f1
  ·intro m xs ho y hy k hk;rcases was ho with h'|⟨n,hn,hr,⟨h1,h2⟩|⟨zs,h1,he,IY⟩⟩
   ·cases h'
   ·exact cJ rfl (h2 xs)
   ·cases he;obtain⟨x,hxm,rfl⟩:=cU.1 hy;obtain⟨vals,hb,hs,hv⟩:=h.ok.obj n _ h1;obtain⟨j,hj⟩:=bY hxm;obtain⟨u,hu,ha⟩:=hv j x hj;obtain⟨n',kJ,DR⟩:=(tM hl ha (λk vh=>IY k (bP.2 ⟨x,hxm,vh⟩))).2 k hk;exact Tg kJ DR
  ·intro n;rcases ab8 n with hs|hs
   ·rw[hs];exact(Jy hl (h.sl.ok n)).1
   ·rw[hs];trivial
  ·intro n m hm;rcases ab8 n with hs|hs
   ·rw[hs]at hm;obtain⟨n',kJ,DR⟩:=(Jy hl (h.sl.ok n)).2 m hm;exact Tg kJ DR
   ·rw[hs]at hm;simp[cM]at hm
  ·rintro b ⟨m,ob,ho,hf⟩;obtain⟨n,o1,r1,s1,f1⟩:=M5 ho hf;exact .inl ⟨n,o1,s1,f1⟩
  ·intro m hm;unfold xK;cases hi:inv l m with
   |none=>simp only[hi];exact⟨trivial,trivial⟩
   |some n=>
    have:=(xM (SU hi)).2;have:n=m:=by
     rcases this with ⟨_,h⟩|⟨_,k0,h,hk0,_⟩
     ·exact h.symm
     ·have:=KA (f:=zu n) (k:=k0) (by omega);omega
    subst this;simp only[hi];exact⟨trivial,trivial⟩
theorem ajm{N:aF}{σ0:St}{c0:e9}{w0:bM}{nm F j e:aF}{xs:aA AV}{ti:TI}(hx:E.ty e=ah ti)(jy:F<900000000)(mV:σ (c9 nm)= .o (.box xs))(hF:σ (c9 F)= .jZ)(hc:xs[j]? =ah .nl)(h:At P E N σ0 c0 w0 σ a w c):
  ∃c',At P E N σ0 c0 w0 (pM (pM σ (c9 nm) (.o (.box (xs.set j (.own F))))) (c9 F) (.o (.row e ai []))) a w c':=by
 let c':e9:=⟨λn=>if n=F then⟨ai,0,0,0,0,ti.ks.length⟩else c.P n,λn=>if n=F then(λ_ _=>⟨ai,0,0,0,0,0⟩)else c.G n,c.K⟩
 have hP:c'.P F=⟨ai,0,0,0,0,ti.ks.length⟩:=bz rfl;have hA:jC σ c c':=λm hm=>by
  have:m≠F:=by rintro rfl;rcases hm with h|h;exact h hF;omega
  exact⟨bH this,bH this⟩
 have hnF:nm≠F:=by rintro rfl;rw[mV]at hF;cases hF
 have hPn:c'.P nm=c.P nm:=bH hnF;let σ':=pM (pM σ (c9 nm) (.o (.box (xs.set j (.own F))))) (c9 F) (.o (.row e ai []));have key:∀m,σ' (c9 m)=if m=F then .o (.row e ai [])else if m=nm then .o (.box (xs.set j (.own F)))else σ (c9 m):=λm=>by show pM _ _ _ _=_;rw[pZ,pZ]
 have iw:∀m,σ (c9 m)≠ .jZ->σ' (c9 m)≠ .jZ:=λm hm=>by
  rw[key];by_cases h1:m=F
  ·rw[bz h1];simp
  ·rw[bH h1];by_cases h2:m=nm
   ·rw[bz h2];simp
   ·rw[bH h2];exact hm
 have noI:∀i j,¬gh [] i j:=λi j ⟨y,x,hy,_⟩=>by simp at hy
 have foF:∀b,¬fJ c' F (.row e ai []) b:=by
  rintro b (⟨h1,_⟩|⟨_,i,j,h1,_⟩)
  ·rw[hP]at h1;cases h1
  ·exact noI i j h1
 obtain⟨vals,hb,gf,hv⟩:=h.ok.obj nm _ mV
 have hh:=h.ok.change (σ':=σ') (w':=w) (c':=c') (λm=>m=F\/m=nm)
  (λm hm=>by rw[key,bH (λe=>hm (.inl e)),bH (λe=>hm (.inr e))]) iw hA (λ_ _ _=>rfl) (cD _) (λ_ h=>h) (λ_ h=> .inl h) h.ok.lt
  (λm o hm ho=>by
   rw[key]at ho;by_cases I0:m=F
   ·rw[bz I0]at ho;cases ho;subst I0;refine⟨⟨ti,hx,by rw[hP],λy hy=>by cases hy⟩,⟨by rw[hP];rfl,λ_=>⟨rfl,by rw[hP]⟩,λhn=>by rw[hP]at hn;cases hn⟩,λ_=>⟨λi j hi=>cJ hi (noI i j),λi j _ _ hi=>cJ hi (noI i j)⟩⟩
   ·have hmn:=hm.resolve_left I0;subst hmn;rw[bH I0,bz rfl]at ho;cases ho;refine⟨vals,by rw[hPn];exact hb,by rw[cB];exact gf,λk y hk=> ?_⟩
    by_cases hkj:j=k
    ·subst hkj;have hl:j<xs.length:=(aT.1 hc).1;rw[List.getElem?_set_self hl]at hk;cases hk;obtain⟨u,hu,V9⟩:=hv j _ hc;exact⟨u,hu,by show u=lS (c'.P F);rw[hP];exact V9⟩
    ·rw[List.getElem?_set_ne hkj]at hk;obtain⟨u,hu,V9⟩:=hv k y hk;exact⟨u,hu,V9.frame (λ_ _=>rfl) (λ_ h=>h) (λn hn=>hA n (.inl (h.ok.kn m xs mV y (aR hk) n hn)))⟩)
  (λm o b hm ho hf=>by
   rw[key]at ho;by_cases I0:m=F
   ·rw[bz I0]at ho;cases ho;subst I0;exact cJ hf (foF b)
   ·have hmn:=hm.resolve_left I0;subst hmn;rw[bH I0,bz rfl]at ho;cases ho;have hf:b=(c'.P m).blk:=hf;rw[hPn]at hf;exact⟨.inl ⟨m,_, .inr rfl,mV,hf⟩,λhk=>h.ok.kk m _ b mV hf hk⟩)
  (λm o m' o' b hm xA ho vi hf ve=>by
   rw[key]at ho vi;by_cases I0:m=F
   ·rw[bz I0]at ho;cases ho;subst I0;exact cJ hf (foF b)
   ·by_cases aeJ:m'=F
    ·rw[bz aeJ]at vi;cases vi;subst aeJ;exact cJ ve (foF b)
    ·rw[hm.resolve_left I0,xA.resolve_left aeJ])
  (λm ys hm ho y hy n hn=>by
   rw[key]at ho;by_cases I0:m=F
   ·rw[bz I0]at ho;cases ho
   ·have hmn:=hm.resolve_left I0;subst hmn;rw[bH I0,bz rfl]at ho;cases ho;rcases jG hy with hy|hy
    ·exact iw n (h.ok.kn m xs mV y hy n hn)
    ·subst hy;rw[show n=F from by simpa [bQ]using hn,key,bz rfl];simp) rfl rfl rfl
 have sl:=h.sl.change h.ok hh.2 hA iw ({(default:fA)with dst:=none}) undef (λn _=>by show slot (pM _ _ _) n=_;rw[jo,jo]) (λd hd=>by cases hd);exact⟨c',hh.1,sl,h.sz,h.gr.trans hh.2,h.ag.trans hA.w.aga⟩
theorem TE{α:Type}{N:aF}{σ0:St}{c0:e9}{w0:bM}{x:aF}(hx:∃ti,E.ty (kTy x)=ah ti)(h:At P E N σ0 c0 w0 σ a w c):∃σ' c',At P E N σ0 c0 w0 σ' a w c'/\∀f:St->α,Ae x σ f=f σ':=by
 obtain⟨ti,hx⟩:=hx;have jy:kNm x<900000000:=by unfold kNm;have:=Df (x/1000) (show 1000000>0 by omega);omega
 have no:(∀f:St->α,Ae x σ f=f σ)->∃σ' c',At P E N σ0 c0 w0 σ' a w c'/\∀f:St->α,Ae x σ f=f σ':=λe=>⟨σ,c,h,e⟩
 cases hs:slot σ (abp x)with
 |v g l=>
  by_cases hm:∃nm xs,g=ak/\l=[.bp nm 0]/\σ (c9 nm)= .o (.box xs)/\σ (c9 (kNm x))= .jZ/\xs[Tc x]? =ah .nl
  ·obtain⟨nm,xs,rfl,rfl,mV,hF,hc⟩:=hm;obtain⟨c',h'⟩:=ajm hx jy mV hF hc h;exact⟨_,c',h',λf=>by unfold Ae;rw[hs];simp only[mV,hF,hc,nS]⟩
  ·refine no λf=> ?_;unfold Ae;rw[hs];split
   ·rename_i nm he;cases he;split
    ·rename_i xs h1 h2;split
     ·rename_i h3;exact cJ ⟨nm,xs,rfl,rfl,h1,h2,h3⟩ hm
     ·rfl
    ·rfl
   ·rfl
 |j_ l=>exact no λf=>by unfold Ae;rw[hs]
 |un=>exact no λf=>by unfold Ae;rw[hs]
theorem Cv{α:Type}{N:aF}{σ0:St}{c0:e9}{w0:bM}:∀(keep:aA aF) (σ:St) (c:e9) (hk:∀x∈keep,XP x=ai->∃ti,E.ty (kTy x)=ah ti) (h:At P E N σ0 c0 w0 σ a w c),∃σ' c',At P E N σ0 c0 w0 σ' a w c'/\∀f:St->α,Nr keep σ f=f σ'
 |[],σ,c,_,h=>⟨σ,c,h,λ_=>rfl⟩
 |x::r,σ,c,hk,h=>by
  cases hx:XP x with
  |false=>obtain⟨σ',c',h',e⟩:=Cv r σ c (λy hy=>hk y (c7 _ hy)) h;exact⟨σ',c',h',λf=>by show(bif XP x then _ else _)=_;rw[hx];exact e f⟩
  |true=>obtain⟨σ1,c1,h1,e1⟩:=TE (α:=α) (hk x (dn ..) hx) h;obtain⟨σ',c',h',e⟩:=Cv r σ1 c1 (λy hy=>hk y (c7 _ hy)) h1;exact⟨σ',c',h',λf=>by show(bif XP x then _ else _)=_;rw[hx,au,e1,e]⟩
theorem Im{N:aF}{σ0:St}{c0:e9}{w0:bM}{keep:aA aF}(hk:∀x∈keep,XP x=ai->∃ti,E.ty (kTy x)=ah ti)(h:At P E N σ0 c0 w0 σ a w c):∃c',At P E N σ0 c0 w0 (canon keep σ) a w c':=by obtain⟨σ',c1,h1,e⟩:=Cv (α:=aA (aF×eQ)) keep σ c hk h;unfold canon Ks;rw[e,oS];exact OC h1
theorem Tf{n:aF}:∀x∈E.Ab n,XP x=ai->∃ti,E.ty (kTy x)=ah ti:=by
 intro x hx hk;have:=(dc.1 hx).2;rw[hk,au]at this;cases h:E.ty (kTy x)with
 |some ti=>exact⟨ti,rfl⟩
 |none=>rw[h]at this;cases this
end
end Go.FG

namespace Go.FG
def aej:Ex->Exit| .normal=> .normal| .exit id=> .exit id| .ret=> .ret
def th(N:aF):Code->aW
 | .region _ os _=>os.toList.all λo=>match o.dst with|some d=>qw d N|none=>ai
 | .seq a b=>th N a&&th N b
 | .cond _ a b=>th N a&&th N b
 | .block _ c=>th N c
 | .loop c=>th N c
 |_=>ai
theorem least{p:aF->Prop}(h:∃n,p n):∃n,p n/\∀k,p k->n<=k:=by
 obtain⟨n,hn⟩:=h;induction n using Nat.strongRecOn with
 |_ n ih=>
  by_cases hm:∃m,m<n/\p m
  ·obtain⟨m,h1,h2⟩:=hm;exact ih m h1 h2
  ·exact⟨n,hn,λk hk=>by
    rcases qU k n with h|h
    ·exact cJ ⟨k,h,hk⟩ hm
    ·exact h⟩
section
variable {P:c5} {E:fO}
def cg(E:fO){R:Type}(it:It R)(c:Code):Prop:=∀L K r,it (gC c) (tn E it c) (canon (E.Ab (gC c))) L K=ah r->∃n,iter (tn E it c) (canon (E.Ab (gC c))) n (fK L) K=ah r
theorem aei(hE:eB P E)(hF:∀g,b9 P E g (E.call g))(hm:P.follows .mixedOrders=ai){R:Type}{N:aF}{σ0:St}{c0:e9}{w0:bM}{it:It R}{r:R}:∀(code:Code),(∀c∈jT code,cg E it c)->∀(σ:St) (K:Ex->St->az R) (Q:Exit->Act->bM->Prop),tn E it code σ K=ah r->th N code=ai->
  (∀e σ' a w c,K e σ'=ah r->At P E N σ0 c0 w0 σ' a w c->Q (aej e) a w)->∀a w c,At P E N σ0 c0 w0 σ a w c->code.wp P Q a w:=by
 intro code;induction code with
 |skip=>intro _ σ K Q h _ hQ a w c gd;exact wp_skip (hQ .normal σ a w c h gd)
 |region id os draw=>intro Cj σ K Q h hb hQ a w c gd;refine PE hE hF hm h (λo ho d hd=> ?_) (λσ' a w c hk gd=>hQ .normal σ' a w c hk gd) gd;have:=bn.1 hb o ho;rw[hd]at this;have this:qw d N=true:=this;simpa [Ar]using this
 |seq x y ihx ihy=>
  intro Cj σ K Q h hb hQ a w c gd;simp only[th,aL]at hb;refine wp_seq (ihx (λc hc=>Cj c (bN _ hc)) σ _ _ h hb.1 (λe σ' a w c hk gd=> ?_) a w c gd);cases e with
  |normal=>exact ihy (λc hc=>Cj c (bO _ hc)) σ' K Q hk hb.2 hQ a w c gd
  |exit id=>exact hQ (.exit id) σ' a w c hk gd
  |ret=>exact hQ .ret σ' a w c hk gd
 |cond cnd x y ihx ihy=>
  intro Cj σ K Q h hb hQ a w c gd;simp only[th,aL]at hb;cases cnd with
  |tmp t=>
   unfold tn at h;dsimp only at h;split at h
   ·rename_i b hs;have h1:=gd.sl.ok t;have:slot σ t= .v ak [.b b]:=by unfold slot;rw[hs]
    rw[this]at h1;have h1:a.eval (.tmp t)= .bool b:=h1;cases b with
    |true=>have h:tn E it x (pM σ (qq t) (.v (.v ak [.b ai]))) K=ah r:=h;rw[C6 hs]at h;exact wp_cond_true h1 (ihx (λc hc=>Cj c (bN _ hc)) σ K Q h hb.1 hQ a w c gd)
    |false=>have h:tn E it y (pM σ (qq t) (.v (.v ak [.b ak]))) K=ah r:=h;rw[C6 hs]at h;exact wp_cond_false h1 (ihy (λc hc=>Cj c (bO _ hc)) σ K Q h hb.2 hQ a w c gd)
   ·cases h
  |_=>simp[tn]at h
 |block id x ih=>
  intro Cj σ K Q h hb hQ a w c gd;refine wp_block (ih Cj σ _ _ h hb (λe σ' a w c hk gd=> ?_) a w c gd);cases e with
  |normal=>exact hQ .normal σ' a w c hk gd
  |ret=>exact hQ .ret σ' a w c hk gd
  |exit j=>
   have hk:(bif bC j id then K .normal σ' else K (.exit j) σ')=ah r:=hk;show HY id Q (.exit j) a w;cases hj:bC j id with
   |true=>rw[hj]at hk;have O2:=aU hj;have h1:Q .normal a w:=hQ .normal σ' a w c hk gd;simp only[HY,O2,if_true];exact h1
   |false=>
    rw[hj]at hk;have iw:j≠id:=λe=>by subst e;simp at hj
    have h1:Q (.exit j) a w:=hQ (.exit j) σ' a w c hk gd;simp only[HY,iw,if_false];exact h1
 |loop x ih=>
  intro Cj σ K Q h hb hQ a w c gd;obtain⟨n,h⟩:∃n,iter (tn E it x) (canon (E.Ab (gC x))) n (canon (E.Ab (gC x)) σ) K=ah r:=Cj x (dn ..) _ K r h;let f:=tn (R:=R) E it x;let cn:=canon (E.Ab (gC x));let p:Act->bM->aF->Prop:=λa w m=>∃σ c,iter f cn m σ K=ah r/\At P E N σ0 c0 w0 σ a w c;let mu:Act->bM->aF:=λa w=>open Classical in if h:∃m,p a w m then(least h).choose else 0
  have hmu:∀a w,(∃m,p a w m)->p a w (mu a w)/\∀k,p a w k->mu a w<=k:=by
   intro a w h;have:mu a w=(least h).choose:=by simp only[mu];rw[dif_pos h]
   rw[this];exact(least h).choose_spec
  obtain⟨c1,aq3⟩:=Im (keep:=E.Ab (gC x)) Tf gd;refine wp_loop (λa w=>∃m,p a w m) mu ⟨n,_,c1,h,aq3⟩ (λa w hI=> ?_);obtain⟨⟨σ1,c2,h1,oK⟩,hle⟩:=hmu a w hI;cases hm0:mu a w with
  |zero=>rw[hm0]at h1;cases h1
  |succ m=>
   rw[hm0]at h1;refine ih (λc hc=>Cj c (c7 _ hc)) σ1 _ _ h1 hb (λe σ' a' w' c' hk AL=> ?_) a w c2 oK;obtain⟨c3,aev⟩:=Im (keep:=E.Ab (gC x)) Tf AL;cases e with
   |normal=>
    have hp:p a' w' m:=⟨_,c3,hk,aev⟩
    refine⟨⟨m,hp⟩, ?_⟩
    have:=(hmu a' w' ⟨m,hp⟩).2 m hp;omega
   |exit id=>exact hQ (.exit id) _ a' w' c3 hk aev
   |ret=>exact hQ .ret _ a' w' c3 hk aev
 |exit id=>intro _ σ K Q h _ hQ a w c gd;exact wp_exit (hQ (.exit id) σ a w c h gd)
 |ret=>intro _ σ K Q h _ hQ a w c gd;exact wp_ret (hQ .ret σ a w c h gd)
 |_=>intro _ σ K Q h;simp[tn]at h
end
end Go.FG

namespace Go.FG
structure jD where
 aa:AA
 tk:aA aF
 fz:aA aF
 p:Pl
 g:aF->aF->Pl
 u:bk
section
variable {P:c5} {E:fO} {σ:St} {a:Act} {w:bM} {c:e9}
def jS(T:Tab)(σ:St)(w:bM)(c:e9)(r:jD):Prop:=
 (∃e ex ys te,r.aa= .ow e ex ys/\r.fz=[]/\T.ty e=ah te/\r.u=lS r.p/\r.p.sz=te.ks.length/\(∀y∈ys,y.map CV.kd=te.ks)/\jh w r.p ys (λi j u x=>if ex=ai then XC T w r.g i j u x else c_ T w c.K u x)/\(ex=ai->Fv r.p r.g ys)/\
  (r.p.nil=ak->∃n ob,n∈r.tk/\σ (c9 n)= .o ob/\fJ c n ob r.p.blk)/\(ex=ai->∀i j,gh ys i j->(r.g i j).nil=ak->∃n ob,n∈r.tk/\σ (c9 n)= .o ob/\fJ c n ob (r.g i j).blk))\/
 (r.tk=[]/\(∀n∈r.fz,∃el ex xs,σ (c9 n)= .o (.row el ex xs))/\(∀e ex xs,r.aa≠ .ow e ex xs)/\(∀xs,r.aa≠ .kp xs)/\∀c3:e9,(∀b,K1r σ c r.fz b->c3.K b)->∀nm,eG T w c3 (lB nm r.aa) r.u)
theorem IG(cf:Ok E σ w c){om:Om}{k:Ck}{x:AV}{u:bk}{aa:AA}{tk fz:aA aF}(h:z8 E om σ k x=ah (aa,tk,fz))(hx:eG E w c x u):∃p g,jS E σ w c ⟨aa,tk,fz,p,g,u⟩:=by
 let nl:Pl:=⟨ai,0,0,0,0,0⟩
 have OW:∀e ex ys tk,(wP e x).val σ=ah (ex,ys,tk)->(∃te,E.ty e=ah te)->∃p g,jS E σ w c ⟨.ow e ex ys,tk,[],p,g,u⟩:=by rintro e ex ys tk hb ⟨te,ht⟩;obtain⟨p,g,hB⟩:=BS cf ht hx hb;exact⟨p,g, .inl ⟨e,ex,ys,te,rfl,rfl,ht,hB.v,hB.sz,hB.sh,hB.at_,hB.inn,hB.own,hB.owni⟩⟩
 have SH:∀aa fz,(∀n∈fz,∃el ex xs,σ (c9 n)= .o (.row el ex xs))->(∀e ex xs,aa≠ .ow e ex xs)->(∀xs,aa≠ .kp xs)->(∀c3:e9,(∀b,K1r σ c fz b->c3.K b)->∀nm,eG E w c3 (lB nm aa) u)->∃p g,jS E σ w c ⟨aa,[],fz,p,g,u⟩:=
  λaa fz h1 h2 h3 h4=>⟨nl,λ_ _=>nl, .inr ⟨rfl,h1,h2,h3,h4⟩⟩
 have TG:∀n∈([]:aA aF),∃el ex xs,σ (c9 n)= .o (.row el ex xs):=λn hn=>by cases hn
 have HT:∀e,z_ E e=ai->∃te,E.ty e=ah te:=λe he=>by
  unfold z_ at he;cases ht:E.ty e with
  |none=>rw[ht]at he;cases he
  |some te=>exact⟨te,rfl⟩
 have frz:∀{n el:aF} {ex:aW} {xs:aQ},σ (c9 n)= .o (.row el ex xs)->∀c3:e9,(∀b,K1r σ c [n] b->c3.K b)->(∀b,c.K b->c3.K b)/\∀b,fJ c n (.row el ex xs) b->c3.K b:=λhg c3 h=>⟨λb hb=>h b (.inl hb),λb hb=>h b (.inr ⟨_,aZ.2 rfl,_,hg,hb⟩)⟩
 have fst:∀{n el:aF} {ex:aW} {xs:aQ},σ (c9 n)= .o (.row el ex xs)->∀m∈[n],∃el ex xs,σ (c9 m)= .o (.row el ex xs):=λhg m hm=>by rw[aZ]at hm;subst hm;exact⟨_,_,_,hg⟩
 cases x with
 |i k n=>cases h;exact SH _ _ TG (λ_ _ _ h=>by cases h) (λ_ h=>by cases h) (λc3 _ _=>hx)
 |b y=>cases h;exact SH _ _ TG (λ_ _ _ h=>by cases h) (λ_ h=>by cases h) (λc3 _ _=>hx)
 |s y=>cases h;exact SH _ _ TG (λ_ _ _ h=>by cases h) (λ_ h=>by cases h) (λc3 _ _=>hx)
 |sh e xs=>
  cases om with
  |own=>cases h
  |nat=>cases h;exact SH _ _ TG (λ_ _ _ h=>by cases h) (λ_ h=>by cases h) (λc3 h3 _=>c_.frame hx (λ_ _=>rfl) (λb hb=>h3 b (.inl hb)))
  |sh=>cases h;exact SH _ _ TG (λ_ _ _ h=>by cases h) (λ_ h=>by cases h) (λc3 h3 _=>c_.frame hx (λ_ _=>rfl) (λb hb=>h3 b (.inl hb)))
 |nl=>
  have hx:u= .slice aj 0 0:=hx;cases om with
  |own e=>
   have h:(bif z_ E e then ah (AA.ow e ai [],([]:aA aF),([]:aA aF))else aj)=ah (aa,tk,fz):=h;cases ht:z_ E e with
   |false=>rw[ht]at h;cases h
   |true=>rw[ht]at h;cases h;exact OW e ai [] [] rfl (HT e ht)
  |sh e=>cases h;exact SH _ _ TG (λ_ _ _ h=>by cases h) (λ_ h=>by cases h) (λc3 _ _=>by rw[hx];exact c_.nl _ _ _)
  |nat=>
   cases k with
   |l e=>
    have h:(bif z_ E e then ah (AA.ow e ai [],([]:aA aF),([]:aA aF))else aj)=ah (aa,tk,fz):=h;cases ht:z_ E e with
    |false=>rw[ht]at h;cases h
    |true=>rw[ht]at h;cases h;exact OW e ai [] [] rfl (HT e ht)
   |_=>cases h;exact SH _ _ TG (λ_ _ _ h=>by cases h) (λ_ h=>by cases h) (λc3 _ _=>hx)
 |own n=>
  unfold z8 at h;dsimp only at h;cases ho:σ (c9 n)with
  |v=>rw[ho]at h;cases h
  |jZ=>rw[ho]at h;cases h
  |o ob=>
   rw[ho]at h;have hu:u=lS (c.P n):=hx;cases ob with
   |row e ex xs=>
    obtain⟨_,_,ti,ht,_⟩:=lu cf ho;have hb:(wP e (.own n)).val σ=ah (ex,xs,[n]):=by simp[wP,jL,ho]
    cases om with
    |sh e'=>cases h;refine SH _ _ (fst ho) (λ_ _ _ h=>by cases h) (λ_ h=>by cases h) (λc3 h3 _=> ?_);obtain⟨r1,r2⟩:=frz ho c3 h3;rw[hu];exact rW cf ho r1 r2
    |nat=>cases h;exact OW e ex xs [n] hb ⟨ti,ht⟩
    |own=>cases h;exact OW e ex xs [n] hb ⟨ti,ht⟩
   |fQ e xs=>
    have hh:c_ E w c.K u (.l e xs):=by rw[hu];exact(cf.obj n _ ho).1
    cases om with
    |own=>cases h
    |nat=>cases h;exact SH _ _ TG (λ_ _ _ h=>by cases h) (λ_ h=>by cases h) (λc3 h3 _=>c_.frame hh (λ_ _=>rfl) (λb hb=>h3 b (.inl hb)))
    |sh=>cases h;exact SH _ _ TG (λ_ _ _ h=>by cases h) (λ_ h=>by cases h) (λc3 h3 _=>c_.frame hh (λ_ _=>rfl) (λb hb=>h3 b (.inl hb)))
   |_=>cases h
 |vw n lo hi=>
  unfold z8 at h;dsimp only at h;cases ho:σ (c9 n)with
  |v=>rw[ho]at h;cases h
  |jZ=>rw[ho]at h;cases h
  |o ob=>
   rw[ho]at h;cases ob with
   |row e ex xs=>
    obtain⟨_,_,ti,ht,_⟩:=lu cf ho;have hb:(wP e (.vw n lo hi)).val σ=ah (ex,e8 xs lo hi,[n]):=by simp[wP,jL,ho]
    cases om with
    |sh e'=>cases h;refine SH _ _ (fst ho) (λ_ _ _ h=>by cases h) (λ_ h=>by cases h) (λc3 h3 _=> ?_);obtain⟨r1,r2⟩:=frz ho c3 h3;exact E_ cf ho r1 r2 hx
    |nat=>cases h;exact OW e ex _ [n] hb ⟨ti,ht⟩
    |own=>cases h;exact OW e ex _ [n] hb ⟨ti,ht⟩
   |fQ e xs=>
    have hh:c_ E w c.K u (.l e (e8 xs lo hi)):=pq cf ho hx;cases om with
    |own=>cases h
    |nat=>cases h;exact SH _ _ TG (λ_ _ _ h=>by cases h) (λ_ h=>by cases h) (λc3 h3 _=>c_.frame hh (λ_ _=>rfl) (λb hb=>h3 b (.inl hb)))
    |sh=>cases h;exact SH _ _ TG (λ_ _ _ h=>by cases h) (λ_ h=>by cases h) (λc3 h3 _=>c_.frame hh (λ_ _=>rfl) (λb hb=>h3 b (.inl hb)))
   |_=>cases h
 |_=>simp[z8]at h
theorem EC(cf:Ok E σ w c){q:aF}:∀{xs:aA AV} {j0:aF} {ks:aA Ck} {l:aA AA} {tk fz:aA aF} {vals:dt bk},tp E q σ j0 ks xs=ah (l,tk,fz)->fX E w c vals xs->
  ∃cs:aA jD,l=cs.map (·.aa)/\tk=cs.flatMap (·.tk)/\fz=cs.flatMap (·.fz)/\cs.length=xs.length/\∀(j:aF) (r:jD),cs[j]? =ah r->vals[j]? =ah r.u/\jS E σ w c r:=by
 intro xs;induction xs with
 |nil=>intro j0 ks l tk fz vals h _;cases h;exact⟨[],rfl,rfl,rfl,rfl,λj r h=>by simp at h⟩
 |cons x xs ih=>
  intro j0 ks l tk fz vals h hv;unfold tp at h;split at h
  ·rename_i aa t f as ts fs h1 h2;cases h;obtain⟨u,hu,ha⟩:=hv.2 0 x rfl;obtain⟨p,g,hc⟩:=IG cf h1 ha;have Nd:fX E w c (vals.extract 1 vals.size) xs:=by
    refine⟨by simp;have:=hv.1;simp at this;omega,λj b hj=> ?_⟩
    obtain⟨u,hu,hb⟩:=hv.2 (j+1) b hj;refine⟨u, ?_,hb⟩
    have:=(dU.1 hu).1;rw[ea,bz (by omega),iZ];exact hu
   obtain⟨cs,rfl,rfl,rfl,i4,i5⟩:=ih h2 Nd;refine⟨⟨aa,t,f,p,g,u⟩::cs,rfl,rfl,rfl,by simp[i4],λj r hj=> ?_⟩
   cases j with
   |zero=>cases hj;exact⟨hu,hc⟩
   |succ j=>
    obtain⟨r1,r2⟩:=i5 j r hj;refine⟨?_,r2⟩
    rw[ea]at r1;split at r1
    ·rw[iZ];exact r1
    ·cases r1
  ·cases h
end
end Go.FG

namespace Go.FG
structure ld where
 box:az aF
 agg:aW
 cs:aA jD
 v:bk
def ld.arg(R:ld):fj:=match R.box with|some _=> .pt (R.cs.map (·.aa))|none=> .v R.agg (R.cs.map (·.aa))
def ld.tk(R:ld):aA aF:=R.box.toList++R.cs.flatMap (·.tk)
def ld.fz(R:ld):aA aF:=R.cs.flatMap (·.fz)
def zH(rv:ResultVar)(tmps:dt bk):Sem bk:=match rv with| .tmp t=>pure (tmps.getD t undef)| .cell a t=>do loadVar t (<-asAddr (tmps.getD a undef))
section
variable {P:c5} {E:fO} {σ:St} {a:Act} {w:bM} {c:e9}
def BJ(T:Tab)(σ:St)(w:bM)(c:e9)(R:ld):Prop:=
 (∃nm xs vals,R.box=ah nm/\σ (c9 nm)= .o (.box xs)/\R.v= .pointer (ah (ad (c.P nm).blk 0))/\nW w (c.P nm).blk vals/\vals.size=R.cs.length/\∀(j:aF) (r:jD),R.cs[j]? =ah r->vals[j]? =ah r.u/\jS T σ w c r)\/
 (R.box=aj/\((R.agg=ak/\∃r,R.cs=[r]/\r.u=R.v/\jS T σ w c r)\/(R.agg=ai/\∃vals:dt bk,R.v= .agg vals/\vals.size=R.cs.length/\∀(j:aF) (r:jD),R.cs[j]? =ah r->vals[j]? =ah r.u/\jS T σ w c r)))
theorem IH(cf:Ok E σ w c){q:aF}{ks:aA Ck}{s:SV}{v:bk}{x:fj}{tk fz:aA aF}(h:M3 E q σ ks s=ah (x,tk,fz))(hs:ji E w c s v):∃R:ld,R.arg=x/\R.tk=tk/\R.fz=fz/\R.v=v/\BJ E σ w c R:=by
 have gen:∀g xs,s= .v g xs->(match tp E q σ 0 ks xs with|some (l,ns,ms)=>ah (fj.v g l,ns,ms)|none=>aj)=ah (x,tk,fz)->∃R:ld,R.arg=x/\R.tk=tk/\R.fz=fz/\R.v=v/\BJ E σ w c R:=by
  rintro g xs rfl h;cases hf:tp E q σ 0 ks xs with
  |none=>rw[hf]at h;cases h
  |some t=>
   obtain⟨l,ns,ms⟩:=t;rw[hf]at h;cases h;obtain⟨cs,rfl,rfl,rfl,h4,h5⟩:=EC cf hf (qj.cells hs);refine⟨⟨aj,g,cs,v⟩,rfl,by simp[ld.tk],rfl,rfl, .inr ⟨rfl, ?_⟩⟩
   replace hs:qj E w c g xs v:=hs;have xB:∀y,qj E w c ak [y] v->v.cells= #[v]:=λy hy=>Ew (eG.one hy);unfold qj at hs;split at hs
   ·rename_i y;obtain⟨r,rfl⟩:=gU.1 (h4.trans rfl);obtain⟨h6,h7⟩:=h5 0 r rfl;rw[xB y hs]at h6;exact .inl ⟨rfl,r,rfl,by simpa using h6.symm,h7⟩
   ·obtain⟨vals,rfl,gf,_⟩:=hs;exact .inr ⟨rfl,vals,rfl,by rw[gf];exact h4.symm,h5⟩
   ·exact hs.elim
 unfold M3 at h;split at h
 ·rename_i nm;cases ho:σ (c9 nm)with
  |v=>rw[ho]at h;cases h
  |jZ=>rw[ho]at h;cases h
  |o ob=>
   rw[ho]at h;cases ob with
   |box xs=>
    dsimp only at h;cases hf:tp E q σ 0 [] xs with
    |none=>rw[hf]at h;cases h
    |some t=>obtain⟨l,ns,ms⟩:=t;rw[hf]at h;cases h;obtain⟨vals,hb,gf,hv⟩:=cf.obj nm _ ho;obtain⟨cs,rfl,rfl,rfl,h4,h5⟩:=EC cf hf ⟨gf,hv⟩;exact⟨⟨ah nm,ak,cs,v⟩,rfl,rfl,rfl,rfl, .inl ⟨nm,xs,vals,rfl,ho,hs,hb,by rw[gf];exact h4.symm,h5⟩⟩
   |_=>cases h
 ·exact gen _ _ rfl h
 ·cases h
theorem JC(hE:eB P E){t:aF}{ti:TI}(ht:E.ty t=ah ti){b:aF}{vals:dt bk}(hb:nW w b vals)(hl:vals.size=ti.ks.length):(loadVar t (ad b 0)).run P w= .ok (if ti.agg=ai then .agg vals else vals.toList.headD .nilIface) w:=by
 have h:=CS (P:=P) w hE ht (b:=b) (o:=0) (cs:=vals.toList) (by simpa using hl) (λj v hj=>by rw[bV,hb.cell];simpa using hj);have e:(yI t (.pointer (ah (ad b 0)))).run P w=(loadVar t (ad b 0)).run P w:=by simp only[yI,uL,ch,cT,bG]
 rw[<-e,h]
theorem UB(hE:eB P E)(cf:Ok E σ w c)(dK:fC E σ a w c){q:aF}{rv:ResultVar}{t:aF}{x:fj}{tk fz:aA aF}(h:UA E q σ rv t=ah (x,tk,fz)):∃R:ld,R.arg=x/\R.tk=tk/\R.fz=fz/\BJ E σ w c R/\(zH rv a.tmps).run P w= .ok R.v w:=by
 unfold UA at h;cases ht:E.ty t with
 |none=>rw[ht]at h;cases h
 |some ti=>
  rw[ht]at h;cases rv with
  |tmp s=>obtain⟨R,h1,h2,h3,h4,h5⟩:=IH cf h (dK.ok s);exact⟨R,h1,h2,h3,h5,by rw[h4];rfl⟩
  |cell b t'=>
   dsimp only at h;split at h
   ·rename_i Vx nm ht' hs;split at h
    ·rename_i xs ho;cases hb:bC xs.length Vx.ks.length with
     |false=>rw[hb]at h;cases h
     |true=>
      rw[hb]at h;have hlen:=aU hb;have hv:a.eval (.tmp b)= .pointer (ah (ad (c.P nm).blk 0)):=by have:=dK.ok b;rw[hs]at this;exact this
      obtain⟨vals,hbl,gf,hcv⟩:=cf.obj nm _ ho;have SJ:=JC (P:=P) (w:=w) hE ht' hbl (by rw[gf];exact hlen);have arV:ji E w c (.v Vx.agg xs) (if Vx.agg=ai then .agg vals else vals.toList.headD .nilIface):=by
       show qj E w c Vx.agg xs _;cases uq:Vx.agg with
       |true=>rw[bz rfl];exact⟨vals,rfl,gf,hcv⟩
       |false=>
        obtain⟨d,_,_,hn⟩:=hE.desc t' Vx ht';have h1:Vx.ks.length=1:=by rcases hn uq with ⟨k,h,_⟩|⟨h,_⟩|⟨h,_⟩|⟨e',h,_⟩|⟨h,_⟩<;>simp[h]
        obtain⟨y,rfl⟩:=gU.1 (hlen.trans h1);obtain⟨u,hu,ha⟩:=hcv 0 y rfl;have sg:vals.toList[0]? =ah u:=by simpa using hu
        have:vals.toList.headD .nilIface=u:=by
         cases hl:vals.toList with
         |nil=>rw[hl]at sg;cases sg
         |cons z l=>rw[hl]at sg;cases sg;rfl
        rw[bH (by simp),this];exact ha
      obtain⟨R,h1,h2,h3,h4,h5⟩:=IH cf h arV;refine⟨R,h1,h2,h3,h5, ?_⟩
      rw[h4,<-SJ];have:a.tmps.getD b undef= .pointer (ah (ad (c.P nm).blk 0)):=hv;simp only[zH,this,asAddr,ch,cT,bG]
    ·cases h
   ·cases h
theorem PG(hE:eB P E)(cf:Ok E σ w c)(dK:fC E σ a w c):∀{rs:aA ResultVar} {q:aF} {ts:aA aF} {as:aA fj} {tk fz:aA aF},CM E σ q rs ts=ah (as,tk,fz)->∃RL:aA ld,as=RL.map (·.arg)/\tk=RL.flatMap (·.tk)/\fz=RL.flatMap (·.fz)/\(∀R∈RL,BJ E σ w c R)/\RL.length=rs.length/\(rs.mapM (λrv=>zH rv a.tmps)).run P w= .ok (RL.map (·.v)) w:=by
 intro rs;induction rs with
 |nil=>intro q ts as tk fz h;cases h;exact⟨[],rfl,rfl,rfl,λR h=>(by cases h),rfl,by simp⟩
 |cons rv rs ih=>
  intro q ts as tk fz h;unfold CM at h;split at h
  ·rename_i x l m as' ls ms h1 h2;cases h;obtain⟨R,rfl,rfl,rfl,r4,r5⟩:=UB hE cf dK h1;obtain⟨RL,rfl,rfl,rfl,i4,i5,i6⟩:=ih h2;refine⟨R::RL,rfl,rfl,rfl,λR' hR=> ?_,by simp[i5], ?_⟩
   ·rcases cy.1 hR with rfl|hR
    ·exact r4
    ·exact i4 R' hR
   ·simp only[WN,ch,r5,i6,bG,cT,fB]
  ·cases h
def CN(vs:aA bk):bk:=match vs with|[v]=>v|l=> .tuple l.toArray
theorem JD{fn:Func}{vs:aA bk}(h:(fn.results.toList.mapM (λrv=>zH rv a.tmps)).run P w= .ok vs w):(results fn a.tmps).run P w= .ok (CN vs) w:=by
 have e:(fn.results.mapM (λrv=>zH rv a.tmps)).run P w= .ok vs.toArray w:=by rw[Array.mapM_eq_mapM_toList];simp[h]
 have:results fn a.tmps=(do let vs<-fn.results.mapM (λrv=>zH rv a.tmps);pure (if h:vs.size=1 then vs[0]else .tuple vs)):=rfl;rw[this];simp only[ch,e,bG,cT];match vs with
 |[]=>rfl
 |[v]=>rfl
 |_::_::_=>rfl
end
end Go.FG

namespace Go.FG
structure mQ where
 box:aW
 cs:aA jD
def mQ.l(O:mQ):aA AA:=O.cs.map (·.aa)
def mQ.ns(O:mQ)(p:aF):aA aF:=(if O.box=ai then [dS p 900]else [])++O.cs.flatMap (·.tk)
def mQ.ms(O:mQ):aA aF:=O.cs.flatMap (·.fz)
section
variable {P:c5} {E:fO} {σ:St} {a:Act} {w:bM} {c:e9}
def Kept(σ:St)(p j:aF)(xs:aA AA)(r:jD):Prop:=∃e ex z ys,xs[j]? =ah (.ow e ex z)/\r.aa= .kp ys/\r.tk=[dS p j]/\r.fz=[]/\σ (c9 (dS p j))= .o (.row e ex ys)
def H2(T:Tab)(σ:St)(w:bM)(c:e9)(p:aF)(x:fj)(O:mQ):Prop:=
 (O.box=ak/\(∀xs,x≠ .pt xs)/\(O.cs=[]\/∃g xs,x= .v g xs/\∀(j:aF) (r:jD),O.cs[j]? =ah r->Kept σ p j xs r\/(r.aa= .nl/\r.tk=[]/\r.fz=[])))\/
 (O.box=ai/\∃xs vs vals,x= .pt xs/\σ (c9 (dS p 900))= .o (.box vs)/\nW w (c.P (dS p 900)).blk vals/\vals.size=O.cs.length/\
  ∀(j:aF) (r:jD),O.cs[j]? =ah r->vals[j]? =ah r.u/\((Kept σ p j xs r/\r.u=lS (c.P (dS p j)))\/jS T σ w c r))
theorem JH{a b:aW}(h:JG a b=ai):a=b:=by cases a<;>cases b<;>first|rfl|cases h
theorem YX(p j i:aF):dS p j+i=dS p (j+i):=by unfold dS;omega
theorem K6{tk:aA aF}{p:aF}:∀{xs:aA AA} {j:aF},∃cs:aA jD,(pU σ tk (dS p j) xs).1=cs.map (·.aa)/\(pU σ tk (dS p j) xs).2=cs.flatMap (·.tk)/\cs.flatMap (·.fz)=[]/\
  ∀(i:aF) (r:jD),cs[i]? =ah r->((∃e ex z ys,xs[i]? =ah (.ow e ex z)/\r.aa= .kp ys/\r.tk=[dS p (j+i)]/\r.fz=[]/\σ (c9 (dS p (j+i)))= .o (.row e ex ys))\/(r.aa= .nl/\r.tk=[]/\r.fz=[])):=by
 intro xs;induction xs with
 |nil=>intro j;exact⟨[],rfl,rfl,rfl,λi r h=>by simp at h⟩
 |cons x xs ih=>
  intro j;obtain⟨cs,h1,h2,h3,h4⟩:=ih (j:=j+1);have e1:dS p j+1=dS p (j+1):=YX p j 1;let pl:Pl:=⟨ai,0,0,0,0,0⟩
  have one:∃r:jD,nz σ tk (dS p j) x=(r.aa,r.tk)/\r.fz=[]/\((∃e ex z ys,x= .ow e ex z/\r.aa= .kp ys/\r.tk=[dS p j]/\r.fz=[]/\σ (c9 (dS p j))= .o (.row e ex ys))\/(r.aa= .nl/\r.tk=[]/\r.fz=[])):=by
   have no:nz σ tk (dS p j) x=(.nl,[])->∃r:jD,nz σ tk (dS p j) x=(r.aa,r.tk)/\r.fz=[]/\((∃e ex z ys,x= .ow e ex z/\r.aa= .kp ys/\r.tk=[dS p j]/\r.fz=[]/\σ (c9 (dS p j))= .o (.row e ex ys))\/(r.aa= .nl/\r.tk=[]/\r.fz=[])):=
    λh=>⟨⟨.nl,[],[],pl,λ_ _=>pl,undef⟩,h,rfl, .inr ⟨rfl,rfl,rfl⟩⟩
   cases x with
   |ow e ex z=>
    cases hm:mJ (dS p j) tk with
    |true=>exact no (by simp[nz,hm])
    |false=>
     obtain⟨so,ho⟩:∃so,σ (c9 (dS p j))=so:=⟨_,rfl⟩
     cases so with
     |v=>exact no (by simp[nz,hm,ho])
     |jZ=>exact no (by simp[nz,hm,ho])
     |o ob=>
      cases ob with
      |row e' uo ys=>
       cases hb:(bC e e'&&JG ex uo)with
       |false=>exact no (by simp only[nz,hm,ax,ho,hb])
       |true=>simp only[aL]at hb;have he:=aU hb.1;have hx:=JH hb.2;subst he;subst hx;exact⟨⟨.kp ys,[dS p j],[],pl,λ_ _=>pl,undef⟩,by simp[nz,hm,ho,hb.2],rfl, .inl ⟨e,ex,z,ys,rfl,rfl,rfl,rfl,ho⟩⟩
      |_=>exact no (by simp[nz,hm,ho])
   |_=>exact no rfl
  obtain⟨r,k1,k2,k3⟩:=one;refine⟨r::cs, ?_, ?_,by simp[k2,h3],λi r' hi=> ?_⟩
  ·show(nz σ tk (dS p j) x).1::(pU σ tk (dS p j+1) xs).1=_;rw[k1,e1,h1];rfl
  ·show(nz σ tk (dS p j) x).2++(pU σ tk (dS p j+1) xs).2=_;rw[k1,e1,h2];rfl
  ·cases i with
   |zero=>
    cases hi;rcases k3 with ⟨e,ex,z,ys,q1,q2⟩|q
    ·exact .inl ⟨e,ex,z,ys,by rw[q1];rfl,q2⟩
    ·exact .inr q
   |succ i=>have:=h4 i r' hi;rw[show j+1+i=j+(i+1)by omega]at this;exact this
theorem OB(cf:Ok E σ w c){q:aF}:∀{xs:aA AV} {j:aF} {bs l:aA AA} {tk fz:aA aF} {vals:dt bk},Gu E q σ j bs xs=ah (l,tk,fz)->fX E w c vals xs->
  ∃cs:aA jD,l=cs.map (·.aa)/\tk=cs.flatMap (·.tk)/\fz=cs.flatMap (·.fz)/\cs.length=xs.length/\∀(i:aF) (r:jD),cs[i]? =ah r->vals[i]? =ah r.u/\
   (((∃e ex z ys,bs[i]? =ah (.ow e ex z)/\r.aa= .kp ys/\r.tk=[dS q (j+i)]/\r.fz=[]/\σ (c9 (dS q (j+i)))= .o (.row e ex ys))/\r.u=lS (c.P (dS q (j+i))))\/jS E σ w c r):=by
 intro xs;induction xs with
 |nil=>intro j bs l tk fz vals h _;cases h;exact⟨[],rfl,rfl,rfl,rfl,λi r h=>by simp at h⟩
 |cons x xs ih=>
  intro j bs l tk fz vals h hv;unfold Gu at h;split at h
  ·rename_i aa t f as ts fs h1 h2;cases h;obtain⟨u,hu,ha⟩:=hv.2 0 x rfl;have Nd:fX E w c (vals.extract 1 vals.size) xs:=by
    refine⟨by simp;have:=hv.1;simp at this;omega,λi b hj=> ?_⟩
    obtain⟨u,hu,hb⟩:=hv.2 (i+1) b hj;refine⟨u, ?_,hb⟩
    have:=(dU.1 hu).1;rw[ea,bz (by omega),iZ];exact hu
   obtain⟨cs,rfl,rfl,rfl,i4,i5⟩:=ih h2 Nd;have one:∃p g,((∃e ex z ys,bs[0]? =ah (.ow e ex z)/\aa= .kp ys/\t=[dS q j]/\f=[]/\σ (c9 (dS q j))= .o (.row e ex ys))/\u=lS (c.P (dS q j)))\/jS E σ w c ⟨aa,t,f,p,g,u⟩:=by
    have other:∀{om k},z8 E om σ k x=ah (aa,t,f)->∃p g,((∃e ex z ys,bs[0]? =ah (.ow e ex z)/\aa= .kp ys/\t=[dS q j]/\f=[]/\σ (c9 (dS q j))= .o (.row e ex ys))/\u=lS (c.P (dS q j)))\/jS E σ w c ⟨aa,t,f,p,g,u⟩:=λhh=>by obtain⟨p,g,hc⟩:=IG cf hh ha;exact⟨p,g, .inr hc⟩
    unfold aam at h1;split at h1
    ·rename_i e ex z n _ hb;cases hn:bC n (dS q j)with
     |false=>rw[hn]at h1;exact other (k:= .o) h1
     |true=>
      rw[hn]at h1;have:=aU hn;subst this;obtain⟨so,ho⟩:∃so,σ (c9 (dS q j))=so:=⟨_,rfl⟩
      cases so with
      |v=>simp[ho]at h1
      |jZ=>simp[ho]at h1
      |o ob=>
       cases ob with
       |row e' uo ys=>
        simp only[ho,au]at h1;cases EJ:(bC e e'&&JG ex uo)with
        |false=>rw[EJ]at h1;cases h1
        |true=>
         rw[EJ]at h1;cases h1;simp only[aL]at EJ;have he:=aU EJ.1;have hx:=JH EJ.2;subst he;subst hx;refine⟨⟨ai,0,0,0,0,0⟩,λ_ _=>⟨ai,0,0,0,0,0⟩, .inl ⟨⟨e,ex,z,ys, ?_,rfl,rfl,rfl,ho⟩,ha⟩⟩
         cases bs with
         |nil=>cases hb
         |cons b bs=>rw[show b=_ from hb];rfl
       |_=>simp[ho]at h1
    ·exact other (k:= .o) h1
   obtain⟨p,g,hc⟩:=one;refine⟨⟨aa,t,f,p,g,u⟩::cs,rfl,rfl,rfl,by simp[i4],λi r hi=> ?_⟩
   cases i with
   |zero=>cases hi;exact⟨hu,hc⟩
   |succ i=>
    obtain⟨r1,r2⟩:=i5 i r hi;refine⟨?_, ?_⟩
    ·rw[ea]at r1;split at r1
     ·rw[iZ];exact r1
     ·cases r1
    ·rw[show j+1+i=j+(i+1)by omega]at r2;have e1:bs.tail[i]? =bs[i+1]? :=by cases bs<;>simp
     rw[e1]at r2;exact r2
  ·cases h
end
end Go.FG

namespace Go.FG
section
variable {P:c5} {E:fO} {σ:St} {a:Act} {w:bM} {c:e9}
theorem Py(cf:Ok E σ w c){tk:aA aF}:∀{args:aA fj} {p:aF} {l:aA (aA AA)} {ns ms:aA aF},CF E σ tk p args=ah (l,ns,ms)->
  ∃OL:aA mQ,l=OL.map (·.l)/\OL.length=args.length/\ns=(OL.zipIdx p).flatMap (λt=>t.1.ns t.2)/\ms=OL.flatMap (·.ms)/\∀(i:aF) (O:mQ) (x:fj),OL[i]? =ah O->args[i]? =ah x->H2 E σ w c (p+i) x O:=by
 intro args;induction args with
 |nil=>intro p l ns ms h;cases h;exact⟨[],rfl,rfl,rfl,rfl,λi O x h=>by simp at h⟩
 |cons x args ih=>
  intro p l ns ms h;unfold CF at h;split at h
  ·cases h
  ·rename_i l' ns' ms' h1;obtain⟨OL,rfl,i2,rfl,rfl,i5⟩:=ih h1;have put:∀O:mQ,H2 E σ w c p x O->l=O.l::OL.map (·.l)->ns=O.ns p++(OL.zipIdx (p+1)).flatMap (λt=>t.1.ns t.2)->ms=O.ms++OL.flatMap (·.ms)->∃OL:aA mQ,l=OL.map (·.l)/\OL.length=(x::args).length/\ns=(OL.zipIdx p).flatMap (λt=>t.1.ns t.2)/\ms=OL.flatMap (·.ms)/\∀(i:aF) (O:mQ) (y:fj),OL[i]? =ah O->(x::args)[i]? =ah y->H2 E σ w c (p+i) y O:=by
    intro O hO h1 h2 h3;refine⟨O::OL,h1,by simp[i2],by rw[h2,List.zipIdx_cons,yJ],h3,λi O' y hi hy=> ?_⟩
    cases i with
    |zero=>cases hi;cases hy;exact hO
    |succ i=>have:=i5 i O' y hi hy;rwa[show p+1+i=p+(i+1)by omega]at this
   cases x with
   |v g xs=>
    dsimp only at h;cases hh:Sz xs with
    |false=>rw[hh]at h;cases h;exact put ⟨ak,[]⟩ (.inl ⟨rfl,(λ_ h=>by cases h), .inl rfl⟩) rfl rfl rfl
    |true=>rw[hh]at h;cases h;obtain⟨cs,k1,k2,k3,k4⟩:=K6 (σ:=σ) (tk:=tk) (p:=p) (xs:=xs) (j:=0);refine put ⟨ak,cs⟩ (.inl ⟨rfl,(λ_ h=>by cases h), .inr ⟨g,xs,rfl,λj r hj=> ?_⟩⟩) (by rw[k1];rfl) (by rw[k2];rfl) (by simp[mQ.ms,k3]);have:=k4 j r hj;rw[bV]at this;exact this
   |pt xs=>
    dsimp only at h;split at h
    ·rename_i vs ho;split at h
     ·rename_i as ns2 ms2 hb;cases h;obtain⟨vals,hbl,gf,hv⟩:=cf.obj _ _ ho;obtain⟨cs,rfl,rfl,rfl,k4,k5⟩:=OB cf hb ⟨gf,hv⟩;refine put ⟨ai,cs⟩ (.inr ⟨rfl,xs,vs,vals,rfl,ho,hbl,by rw[gf];exact k4.symm,λj r hj=> ?_⟩) rfl (by simp[mQ.ns]) rfl;obtain⟨r1,r2⟩:=k5 j r hj;rw[bV]at r2;exact⟨r1,r2⟩
     ·cases h
    ·cases h
   |fb xs=>cases h;exact put ⟨ak,[]⟩ (.inl ⟨rfl,(λ_ h=>by cases h), .inl rfl⟩) rfl rfl rfl
theorem zZ:∀{l:aA (aA AA)} {p:aF},(um l).getD p []=l.getD p []:=by
 intro l;induction l with
 |nil=>intro p;rfl
 |cons x l ih=>
  intro p;unfold um;split
  ·rename_i h;cases p with
   |zero=>rfl
   |succ p=>rw[vF,<-ih,h];rfl
  ·rename_i x' r' _;cases p with
   |zero=>rfl
   |succ p=>rw[vF,vF,ih]
end
end Go.FG

namespace Go.FG
structure Sp where
 res:aW
 i:aF
 j:az aF
def pz(RL:aA ld)(OL:aA mQ)(s:Sp):aA aF:=
 match s.res,s.j with
 |true,aj=>match RL[s.i]? with|some R=>R.box.toList|none=>[]
 |true,ah j=>match RL[s.i]? with|some R=>(match R.cs[j]? with|some r=>r.tk|none=>[])|none=>[]
 |false,aj=>match OL[s.i]? with|some O=>(if O.box=ai then [dS s.i 900]else [])|none=>[]
 |false,ah j=>match OL[s.i]? with|some O=>(match O.cs[j]? with|some r=>r.tk|none=>[])|none=>[]
theorem nC{α:Type}{l:aA α}{i:aF}{x:α}{p:aF}(h:l[i]? =ah x):(l.zipIdx p)[i]? =ah (x,p+i):=by rw[List.getElem?_zipIdx,h];rfl
theorem Zx{RL:aA ld}{OL:aA mQ}(hn:(RL.flatMap (·.tk)++(OL.zipIdx 0).flatMap (λt=>t.1.ns t.2)).Nodup){s s':Sp}{n:aF}(h:n∈pz RL OL s)(h':n∈pz RL OL s'):s=s':=by
 obtain⟨n1,n2,n3⟩:=eL.1 hn;obtain⟨a1,a2⟩:=lV n1;obtain⟨b1,b2⟩:=lV n2;have R1:∀{i:aF} {j:az aF},n∈pz RL OL ⟨ai,i,j⟩->∃R,RL[i]? =ah R/\n∈R.tk/\((j=aj/\n∈R.box.toList)\/∃q r,j=ah q/\R.cs[q]? =ah r/\n∈r.tk):=by
  intro i j h;cases j with
  |none=>
   unfold pz at h;dsimp only at h;cases hR:RL[i]? with
   |none=>rw[hR]at h;cases h
   |some R=>rw[hR]at h;exact⟨R,rfl,bN _ h, .inl ⟨rfl,h⟩⟩
  |some q=>
   unfold pz at h;dsimp only at h;cases hR:RL[i]? with
   |none=>rw[hR]at h;cases h
   |some R=>
    rw[hR]at h;dsimp only at h;cases hr:R.cs[q]? with
    |none=>rw[hr]at h;cases h
    |some r=>rw[hr]at h;exact⟨R,rfl,bO _ (bP.2 ⟨r,aR hr,h⟩), .inr ⟨q,r,rfl,hr,h⟩⟩
 have O1:∀{i:aF} {j:az aF},n∈pz RL OL ⟨ak,i,j⟩->∃O,OL[i]? =ah O/\n∈O.ns i/\((j=aj/\n∈(if O.box=ai then [dS i 900]else []))\/∃q r,j=ah q/\O.cs[q]? =ah r/\n∈r.tk):=by
  intro i j h;cases j with
  |none=>
   unfold pz at h;dsimp only at h;cases hR:OL[i]? with
   |none=>rw[hR]at h;cases h
   |some R=>rw[hR]at h;exact⟨R,rfl,bN _ h, .inl ⟨rfl,h⟩⟩
  |some q=>
   unfold pz at h;dsimp only at h;cases hR:OL[i]? with
   |none=>rw[hR]at h;cases h
   |some R=>
    rw[hR]at h;dsimp only at h;cases hr:R.cs[q]? with
    |none=>rw[hr]at h;cases h
    |some r=>rw[hr]at h;exact⟨R,rfl,bO _ (bP.2 ⟨r,aR hr,h⟩), .inr ⟨q,r,rfl,hr,h⟩⟩
 have inn:∀{A:aA aF} {cs:aA jD} {j j':az aF},(A++cs.flatMap (·.tk)).Nodup->((j=aj/\n∈A)\/∃q r,j=ah q/\cs[q]? =ah r/\n∈r.tk)->((j'=aj/\n∈A)\/∃q r,j'=ah q/\cs[q]? =ah r/\n∈r.tk)->j=j':=by
  intro A cs j j' I5 k k';obtain⟨m1,m2,m3⟩:=eL.1 I5;have inC:∀{q:aF} {r:jD},cs[q]? =ah r->n∈r.tk->n∈cs.flatMap (·.tk):=λhq hr=>bP.2 ⟨_,aR hq,hr⟩;rcases k with ⟨rfl,k⟩|⟨q,r,rfl,k1,k2⟩<;>rcases k' with ⟨rfl,k'⟩|⟨q',r',rfl,k1',k2'⟩
  ·rfl
  ·exact cJ rfl (m3 n k n (inC k1' k2'))
  ·exact cJ rfl (m3 n k' n (inC k1 k2))
  ·rw[(lV m2).1 q q' r r' n k1 k1' k2 k2']
 obtain⟨b,i,j⟩:=s;obtain⟨b',i',j'⟩:=s';cases b<;>cases b'
 ·obtain⟨O,h1,h2,h3⟩:=O1 h;obtain⟨O',KM,OT,M8⟩:=O1 h';have:=b1 i i' _ _ n (nC (p:=0) h1) (nC (p:=0) KM) (by rw[bV];exact h2) (by rw[bV];exact OT);subst this;rw[h1]at KM;cases KM;have:=b2 _ (aR (nC (p:=0) h1));rw[bV]at this;rw[inn this h3 M8]
 ·obtain⟨O,h1,h2,h3⟩:=O1 h;obtain⟨R,KM,OT,_⟩:=R1 h';exact cJ rfl (n3 n (bP.2 ⟨R,aR KM,OT⟩) n (bP.2 ⟨_,aR (nC (p:=0) h1),by rw[bV];exact h2⟩))
 ·obtain⟨R,h1,h2,_⟩:=R1 h;obtain⟨O,KM,OT,_⟩:=O1 h';exact cJ rfl (n3 n (bP.2 ⟨R,aR h1,h2⟩) n (bP.2 ⟨_,aR (nC (p:=0) KM),by rw[bV];exact OT⟩))
 ·obtain⟨R,h1,h2,h3⟩:=R1 h;obtain⟨R',KM,OT,M8⟩:=R1 h';have:=a1 i i' _ _ n h1 KM h2 OT;subst this;rw[h1]at KM;cases KM;have:=a2 _ (aR h1);rw[inn this h3 M8]
end Go.FG

namespace Go.FG
def MK(c:e9)(RL:aA ld)(OL:aA mQ)(m:aF):az (Pl×(aF->aF->Pl)):=
 if m<900000000 then aj
 else if 500<=(m-900000000)/1000 then(match RL[(m-900000000)/1000-500]? with
  |none=>aj
  |some R=>if(m-900000000)%1000=900 then R.box.map (λn=>(c.P n,c.G n))else(R.cs[(m-900000000)%1000]?).map λr=>(r.p,r.g))
 else if 100<=(m-900000000)%1000/\(m-900000000)%1000≠900 then(match OL[(m-900000000)/1000]? with
  |none=>aj
  |some O=>(O.cs[(m-900000000)%1000-100]?).map λr=>(r.p,r.g))
 else aj
def ny(σ:St)(c:e9)(RL:aA ld)(OL:aA mQ):e9:=
 ⟨λm=>match MK c RL OL m with|some pg=>pg.1|none=>c.P m,λm=>match MK c RL OL m with|some pg=>pg.2|none=>c.G m,K1r σ c (RL.flatMap (·.fz)++OL.flatMap (·.ms))⟩
theorem A6{σ:St}{c:e9}{RL:aA ld}{OL:aA mQ}{m:aF}{p:Pl}{g:aF->aF->Pl}(h:MK c RL OL m=ah (p,g)):(ny σ c RL OL).P m=p/\(ny σ c RL OL).G m=g:=by unfold ny;simp only[h];exact⟨trivial,trivial⟩
theorem A5{σ:St}{c:e9}{RL:aA ld}{OL:aA mQ}{m:aF}(h:MK c RL OL m=aj):(ny σ c RL OL).P m=c.P m/\(ny σ c RL OL).G m=c.G m:=by unfold ny;simp only[h];exact⟨trivial,trivial⟩
section
variable {c:e9} {RL:aA ld} {OL:aA mQ}
theorem R0{q n:aF}{R:ld}(h:RL[q]? =ah R)(hb:R.box=ah n):MK c RL OL (dS (500+q) 900)=ah (c.P n,c.G n):=by obtain⟨h1,h2⟩:=uz (p:=500+q) (j:=900) (by omega);have h0:=Cx (500+q) 900;unfold MK;rw[bH (by omega),h1,h2,bz (by omega),show 500+q-500=q by omega,h];simp[hb]
theorem Gs{q j:aF}{R:ld}{r:jD}(h:RL[q]? =ah R)(hj:R.cs[j]? =ah r)(hl:j<900):MK c RL OL (dS (500+q) j)=ah (r.p,r.g):=by obtain⟨h1,h2⟩:=uz (p:=500+q) (j:=j) (by omega);have h0:=Cx (500+q) j;unfold MK;rw[bH (by omega),h1,h2,bz (by omega),show 500+q-500=q by omega,h];dsimp only;rw[bH (by omega),hj];rfl
theorem A3{p j:aF}(hp:p<500)(hl:j<100\/j=900):MK c RL OL (dS p j)=none:=by obtain⟨h1,h2⟩:=uz (p:=p) (j:=j) (by omega);have h0:=Cx p j;unfold MK;rw[bH (by omega),h1,h2,bH (by omega),bH (by omega)]
theorem ML{p j:aF}{O:mQ}{r:jD}(hp:p<500)(h:OL[p]? =ah O)(hj:O.cs[j]? =ah r)(hl:j<=100):MK c RL OL (dS p (100+j))=ah (r.p,r.g):=by obtain⟨h1,h2⟩:=uz (p:=p) (j:=100+j) (by omega);have h0:=Cx p (100+j);unfold MK;rw[bH (by omega),h1,h2,bH (by omega),bz (by omega),h];dsimp only;rw[show 100+j-100=j by omega,hj];rfl
end
end Go.FG

namespace Go.FG
def aji(OL:aA mQ)(s:Sp):aF:=
 match s.res,s.j with
 |true,aj=>dS (500+s.i) 900
 |true,ah j=>dS (500+s.i) j
 |false,aj=>dS s.i 900
 |false,ah j=>match OL[s.i]? with|some O=>(match O.cs[j]? with|some r=>(match r.aa with| .kp _=>dS s.i j|_=>dS s.i (100+j))|none=>0)|none=>0
section
variable {P:c5} {E:fO} {σ:St} {a:Act} {w:bM} {c:e9} {RL:aA ld} {OL:aA mQ}
theorem Ba{r:jD}(h:jS E σ w c r)(hf:∀n∈r.fz,n∈RL.flatMap (·.fz)++OL.flatMap (·.ms)){x:aF}(hx:MK c RL OL x=ah (r.p,r.g)):eG E w (ny σ c RL OL) (lB x r.aa) r.u:=by
 rcases h with ⟨e,ex,ys,te,h1,h2,h3,h4,_⟩|⟨h1,h2,h3,h4,h5⟩
 ·rw[h1];show r.u=lS ((ny σ c RL OL).P x);rw[(A6 hx).1];exact h4
 ·exact h5 _ (λb hb=>hb.imp id (λ⟨n,hn,hh⟩=>⟨n,hf n hn,hh⟩)) x
theorem Io{r:jD}(h:jS E σ w c r){e:aF}{ex:aW}{ys:aQ}(ha:r.aa= .ow e ex ys){x:aF}(hx:MK c RL OL x=ah (r.p,r.g)):
  pP E w (ny σ c RL OL) x (.row e ex ys)/\∀b,fJ (ny σ c RL OL) x (.row e ex ys) b->∃n ob,n∈r.tk/\σ (c9 n)= .o ob/\fJ c n ob b:=by
 obtain⟨e1,e2⟩:=A6 (σ:=σ) hx;rcases h with ⟨e',uo,Dm,te,h1,h2,h3,h4,h5,h6,h7,h8,h9,Qg⟩|⟨_,_,h3,_⟩
 ·rw[ha]at h1;cases h1;refine⟨⟨⟨te,h3,by rw[e1];exact h5,h6⟩, ?_,λpF=>by rw[e1,e2];exact h8 pF⟩,λb hb=> ?_⟩
  ·rw[e1,e2];refine h7.frame (λ_=>rfl) (λi j y xx u hy We hr=> ?_);split at hr
   ·rename_i pF;rw[bz pF];exact hr
   ·rename_i pF;rw[bH pF];exact hr.frame (λ_ _=>rfl) (λb hb=> .inl hb)
  ·rcases hb with ⟨hn,rfl⟩|⟨pF,i,j,hh,hn,rfl⟩
   ·rw[e1]at hn⊢;exact h9 hn
   ·rw[e2]at hn⊢;exact Qg pF i j hh hn
 ·exact cJ ha (h3 _ _ _)
structure D_ (T:Tab) (σ:St) (w:bM) (c:e9) (RL:aA ld) (OL:aA mQ) (args:aA fj) (r:dB):Prop where
 rl:∀R∈RL,BJ T σ w c R
 ol:∀(i:aF) (O:mQ) (x:fj),OL[i]? =ah O->args[i]? =ah x->H2 T σ w c i x O
 len:OL.length=args.length
 nd:(RL.flatMap (·.tk)++(OL.zipIdx 0).flatMap (λt=>t.1.ns t.2)).Nodup
 ap:∀n∈RL.flatMap (·.tk)++(OL.zipIdx 0).flatMap (λt=>t.1.ns t.2),n∉RL.flatMap (·.fz)++OL.flatMap (·.ms)
 sm:Small args r
 rs:r.rs=RL.map (·.arg)
 outs:∀p,r.outs.getD p []=(OL.map (·.l)).getD p []
theorem RX{R:ld}{xs:aA AA}(h:L9 R.arg xs):xs=R.cs.map (·.aa):=by
 unfold ld.arg at h;split at h
 ·rcases h with ⟨g,h⟩|h<;>cases h;rfl
 ·rcases h with ⟨g,h⟩|h<;>cases h;rfl
theorem wU(cf:Ok E σ w c){args:aA fj}{r:dB}(hE:D_ E σ w c RL OL args r){x:aF}{ob:Obj}(h:Bv args r x (.o ob)):
  pP E w (ny σ c RL OL) x ob/\∃s,x=aji OL s/\∀b,fJ (ny σ c RL OL) x ob b->∃n o,n∈pz RL OL s/\σ (c9 n)= .o o/\fJ c n o b:=by
 have ak4:∀{q:aF} {y:fj},r.rs[q]? =ah y->∃R,RL[q]? =ah R/\y=R.arg:=by
  intro q y hq;rw[hE.rs,bL]at hq;cases hR:RL[q]? with
  |none=>rw[hR]at hq;cases hq
  |some R=>rw[hR]at hq;cases hq;exact⟨R,rfl,rfl⟩
 have fzR:∀{q:aF} {R:ld} {j:aF} {t:jD},RL[q]? =ah R->R.cs[j]? =ah t->∀n∈t.fz,n∈RL.flatMap (·.fz)++OL.flatMap (·.ms):=λhR hj n hn=>bN _ (bP.2 ⟨_,aR hR,bP.2 ⟨_,aR hj,hn⟩⟩);have fzO:∀{q:aF} {O:mQ} {j:aF} {t:jD},OL[q]? =ah O->O.cs[j]? =ah t->∀n∈t.fz,n∈RL.flatMap (·.fz)++OL.flatMap (·.ms):=λhR hj n hn=>bO _ (bP.2 ⟨_,aR hR,bP.2 ⟨_,aR hj,hn⟩⟩);have afE:∀{p:aF} {y:fj},args[p]? =ah y->∃O,OL[p]? =ah O/\H2 E σ w c p y O/\r.outs.getD p []=O.cs.map (·.aa):=by
  intro p y hp;have sO:p<OL.length:=by rw[hE.len];exact(aT.1 hp).1
  have hO:OL[p]? =ah OL[p]:=by simp[sO]
  refine⟨OL[p],hO,hE.ol p _ y hO hp, ?_⟩
  rw[hE.outs,cY,bL,hO];rfl
 have csJ:∀{cs:aA jD} {j:aF} {y:AA},(cs.map (·.aa))[j]? =ah y->∃t,cs[j]? =ah t/\t.aa=y:=by
  intro cs j y hj;rw[bL]at hj;cases ht:cs[j]? with
  |none=>rw[ht]at hj;cases hj
  |some t=>rw[ht]at hj;cases hj;exact⟨t,rfl,rfl⟩
 have hnm:∀p j,dS p 0+j=dS p j:=λp j=>by unfold dS;omega
 cases h with
 |rb q xs h0=>
  obtain⟨R,hR,hy⟩:=ak4 h0;rcases hE.rl R (aR hR)with ⟨nm,zs,vals,h1,h2,h3,h4,h5,h6⟩|⟨h1,_⟩
  ·have hxs:=RX (R:=R) (xs:=xs) (.inr hy.symm);obtain⟨e1,e2⟩:=A6 (σ:=σ) (R0 (c:=c) (OL:=OL) hR h1);refine⟨⟨vals,by rw[e1];exact h4,by rw[iS,hxs,bU];exact h5,λj y hj=> ?_⟩,⟨ai,q,aj⟩,rfl,λb hb=>⟨nm,_, ?_,h2, ?_⟩⟩
   ·rw[iB,hxs]at hj;cases hx:(R.cs.map (·.aa))[j]? with
    |none=>rw[hx]at hj;cases hj
    |some z=>
     rw[hx]at hj;cases hj;obtain⟨t,ht,rfl⟩:=csJ hx;obtain⟨k1,k2⟩:=h6 j t ht;have jY:j<900:=by have:=hE.sm.rl q _ xs h0 (.inr rfl);have h7:=(aT.1 ht).1;rw[hxs,bU]at this;omega
     rw[hnm];exact⟨t.u,k1,Ba k2 (fzR hR ht) (Gs hR ht jY)⟩
   ·show nm∈(match RL[q]? with|some R=>R.box.toList|none=>[]);rw[hR];dsimp only;rw[h1];exact aZ.2 rfl
   ·rw[show b=_ from hb,e1];rfl
  ·unfold ld.arg at hy;rw[h1]at hy;cases hy
 |rr q y xs j e ex ys h0 hx hj=>
  obtain⟨R,hR,rfl⟩:=ak4 h0;have hxs:=RX hx;rw[hxs]at hj;obtain⟨t,ht,I9⟩:=csJ hj;have jY:j<900:=by have:=hE.sm.rl q _ xs h0 hx;have h7:=(aT.1 ht).1;rw[hxs,bU]at this;omega
  have hc:jS E σ w c t:=by
   rcases hE.rl R (aR hR)with ⟨nm,zs,vals,_,_,_,_,_,h6⟩|⟨_,⟨_,t',h1,_,h2⟩|⟨_,vals,_,_,h6⟩⟩
   ·exact(h6 j t ht).2
   ·rw[h1]at ht;cases j with
    |zero=>cases ht;exact h2
    |succ j=>simp at ht
   ·exact(h6 j t ht).2
  obtain⟨k1,k2⟩:=Io (RL:=RL) (OL:=OL) hc I9 (Gs hR ht jY);refine⟨k1,⟨ai,q,ah j⟩,rfl,λb hb=> ?_⟩
  obtain⟨n,o,h1,h2⟩:=k2 b hb;refine⟨n,o, ?_,h2⟩
  show n∈(match RL[q]? with|some R=>(match R.cs[j]? with|some r=>r.tk|none=>[])|none=>[]);rw[hR];dsimp only;rw[ht];exact h1
 |ob p xs h0=>
  obtain⟨O,hO,hoo,hl⟩:=afE h0;have hp:=hE.sm.a p _ xs h0 (.inr rfl);rcases hoo with ⟨_,h1,_⟩|⟨h1,LY,vs,vals,XE,h2,h3,h4,h5⟩
  ·exact cJ rfl (h1 xs)
  ·cases XE;obtain⟨e1,e2⟩:=A5 (σ:=σ) (A3 (c:=c) (RL:=RL) (OL:=OL) hp (.inr rfl));have aia:O.cs.length<=100:=by have:=hE.sm.o p;rw[hl,bU]at this;exact this
   rw[hl];refine⟨⟨vals,by rw[e1];exact h3,by rw[vk,bU];exact h4,λj y hj=> ?_⟩,⟨ak,p,aj⟩,rfl,λb hb=>⟨dS p 900,_, ?_,h2, ?_⟩⟩
   ·rw[v9,bV]at hj;cases hx:(O.cs.map (·.aa))[j]? with
    |none=>rw[hx]at hj;cases hj
    |some z=>
     rw[hx]at hj;cases hj;obtain⟨t,ht,rfl⟩:=csJ hx;obtain⟨k1,k2⟩:=h5 j t ht;have jY:=(aT.1 ht).1;refine⟨t.u,k1, ?_⟩
     rcases k2 with ⟨⟨e,ex,z,ys,_,q2,_⟩,q6⟩|k2
     ·rw[q2];show t.u=lS ((ny σ c RL OL).P (dS p j));rw[(A5 (A3 hp (.inl (by omega)))).1];exact q6
     ·have hk:∀ys,t.aa≠ .kp ys:=by
       rcases k2 with ⟨_,_,_,_,q,_⟩|⟨_,_,_,q,_⟩
       ·intro ys hh;rw[q]at hh;cases hh
       ·exact q
      have:tI p j t.aa=lB (dS p (100+j)) t.aa:=by cases hq:t.aa<;>first|rfl|exact cJ hq (hk _)
      rw[this];exact Ba k2 (fzO hO ht) (ML hp hO ht (by omega))
   ·show dS p 900∈(match OL[p]? with|some O=>(if O.box=ai then [dS p 900]else [])|none=>[]);rw[hO];dsimp only;rw[bz h1];exact aZ.2 rfl
   ·rw[show b=_ from hb,e1];rfl
 |kp p y xs j e ex z ys h0 hx h2 h3=>
  obtain⟨O,hO,hoo,hl⟩:=afE h0;have hp:=hE.sm.a p _ xs h0 hx;rw[hl]at h3;obtain⟨t,ht,I9⟩:=csJ h3;have aia:O.cs.length<=100:=by have:=hE.sm.o p;rw[hl,bU]at this;exact this
  have jY:=(aT.1 ht).1;have aix:Kept σ p j xs t:=by
   rcases hoo with ⟨_,_,h1|⟨g,LY,XE,h1⟩⟩|⟨_,LY,vs,vals,XE,_,_,_,h5⟩
   ·rw[h1]at ht;simp at ht
   ·have:LY=xs:=by rw[XE]at hx;rcases hx with ⟨g',hx⟩|hx<;>cases hx;rfl
    subst this;rcases h1 j t ht with h|⟨h,_⟩
    ·exact h
    ·rw[I9]at h;cases h
   ·have:LY=xs:=by rw[XE]at hx;rcases hx with ⟨g',hx⟩|hx<;>cases hx;rfl
    subst this;rcases(h5 j t ht).2 with ⟨h,_⟩|h
    ·exact h
    ·rcases h with ⟨_,_,_,_,q,_⟩|⟨_,_,_,q,_⟩
     ·rw[I9]at q;cases q
     ·exact cJ I9 (q _)
  obtain⟨e',uo,z',Dm,q1,q2,q3,q4,q5⟩:=aix;rw[h2]at q1;cases q1;rw[I9]at q2;cases q2;obtain⟨e1,e2⟩:=A5 (σ:=σ) (A3 (c:=c) (RL:=RL) (OL:=OL) (p:=p) (j:=j) hp (.inl (by omega)));obtain⟨⟨te,r1,r2,r3⟩,r4,r5⟩:=cf.obj _ _ q5;refine⟨⟨⟨te,r1,by rw[e1];exact r2,r3⟩, ?_,λpF=>by rw[e1,e2];exact r5 pF⟩,⟨ak,p,ah j⟩, ?_,λb hb=>⟨dS p j,_, ?_,q5, ?_⟩⟩
  ·rw[e1,e2];refine r4.frame (λ_=>rfl) (λi j y xx u hy We hr=> ?_);split at hr
   ·rename_i pF;rw[bz pF];exact hr
   ·rename_i pF;rw[bH pF];exact hr.frame (λ_ _=>rfl) (λb hb=> .inl hb)
  ·show dS p j=(match OL[p]? with|some O=>(match O.cs[j]? with|some r=>(match r.aa with| .kp _=>dS p j|_=>dS p (100+j))|none=>0)|none=>0)
   rw[hO];dsimp only;rw[ht];dsimp only;rw[I9]
  ·show dS p j∈(match OL[p]? with|some O=>(match O.cs[j]? with|some r=>r.tk|none=>[])|none=>[]);rw[hO];dsimp only;rw[ht];dsimp only;rw[q3];exact aZ.2 rfl
  ·rw[mn (c:=c) (c':=ny σ c RL OL) ⟨e1,e2⟩]at hb;exact hb
 |nw p y xs j e ex ys h0 hx h3=>
  obtain⟨O,hO,hoo,hl⟩:=afE h0;have hp:=hE.sm.a p _ xs h0 hx;rw[hl]at h3;obtain⟨t,ht,I9⟩:=csJ h3;have aia:O.cs.length<=100:=by have:=hE.sm.o p;rw[hl,bU]at this;exact this
  have jY:=(aT.1 ht).1;have hc:jS E σ w c t:=by
   rcases hoo with ⟨_,_,h1|⟨g,LY,XE,h1⟩⟩|⟨_,LY,vs,vals,XE,_,_,_,h5⟩
   ·rw[h1]at ht;simp at ht
   ·rcases h1 j t ht with ⟨_,_,_,_,_,h,_⟩|⟨h,_⟩<;>(rw[I9]at h;cases h)
   ·rcases(h5 j t ht).2 with ⟨⟨_,_,_,_,_,h,_⟩,_⟩|h
    ·rw[I9]at h;cases h
    ·exact h
  obtain⟨k1,k2⟩:=Io (RL:=RL) (OL:=OL) hc I9 (ML hp hO ht (by omega));refine⟨k1,⟨ak,p,ah j⟩, ?_,λb hb=> ?_⟩
  ·show dS p (100+j)=(match OL[p]? with|some O=>(match O.cs[j]? with|some r=>(match r.aa with| .kp _=>dS p j|_=>dS p (100+j))|none=>0)|none=>0)
   rw[hO];dsimp only;rw[ht];dsimp only;rw[I9]
  ·obtain⟨n,o,h1,h2⟩:=k2 b hb;refine⟨n,o, ?_,h2⟩
   show n∈(match OL[p]? with|some O=>(match O.cs[j]? with|some r=>r.tk|none=>[])|none=>[]);rw[hO];dsimp only;rw[ht];exact h1
end
end Go.FG

namespace Go.FG
theorem vS{args:aA fj}{r:dB}{m:aF}{o:Obj}(h:Bv args r m (.o o)):ot args r (c9 m)≠ .jZ:=by
 refine rZ (wW.2 h) ?_;rintro ⟨k,d⟩ hd;rcases ba.1 hd with hd|hd
 ·obtain⟨i,a,_,hd⟩:=Jj.1 hd;rcases iy.1 hd with ⟨_,_,_,h⟩|⟨_,_,_,_,_,_,_,_,h⟩<;>rw[h]<;>simp
 ·obtain⟨i,a,_,hd⟩:=Ji.1 hd;rcases qL.1 hd with ⟨_,_,_,h⟩|⟨_,_,⟨_,_,_,_,_,_,_,_,h⟩|⟨_,_,_,_,_,_,h⟩⟩<;>rw[h]<;>simp
section
variable {P:c5} {E:fO} {σ:St} {a:Act} {w:bM} {c c0:e9} {RL:aA ld} {OL:aA mQ}
theorem Ui{s:Sp}{n:aF}(h:n∈pz RL OL s):n∈RL.flatMap (·.tk)++(OL.zipIdx 0).flatMap (λt=>t.1.ns t.2):=by
 obtain⟨b,i,j⟩:=s;have inO:∀{O:mQ},OL[i]? =ah O->n∈O.ns i->n∈(OL.zipIdx 0).flatMap (λt=>t.1.ns t.2):=λhO hn=>bP.2 ⟨_,aR (nC (p:=0) hO),by rw[bV];exact hn⟩;have inR:∀{R:ld},RL[i]? =ah R->n∈R.tk->n∈RL.flatMap (·.tk):=λhR hn=>bP.2 ⟨_,aR hR,hn⟩;cases b<;>cases j<;>unfold pz at h<;>dsimp only at h
 ·cases hO:OL[i]? with
  |none=>rw[hO]at h;cases h
  |some O=>rw[hO]at h;exact bO _ (inO hO (bN _ h))
 ·rename_i j;cases hO:OL[i]? with
  |none=>rw[hO]at h;cases h
  |some O=>
   rw[hO]at h;dsimp only at h;cases hr:O.cs[j]? with
   |none=>rw[hr]at h;cases h
   |some r=>rw[hr]at h;exact bO _ (inO hO (bO _ (bP.2 ⟨r,aR hr,h⟩)))
 ·cases hO:RL[i]? with
  |none=>rw[hO]at h;cases h
  |some O=>rw[hO]at h;exact bN _ (inR hO (bN _ h))
 ·rename_i j;cases hO:RL[i]? with
  |none=>rw[hO]at h;cases h
  |some O=>
   rw[hO]at h;dsimp only at h;cases hr:O.cs[j]? with
   |none=>rw[hr]at h;cases h
   |some r=>rw[hr]at h;exact bN _ (inR hO (bO _ (bP.2 ⟨r,aR hr,h⟩)))
theorem UC{args:aA fj}{r:dB}(hE:D_ E σ w c RL OL args r){q:aF}{R:ld}(hR:RL[q]? =ah R):qj E w (ny σ c RL OL) (Gr (500+q) R.arg).1 (Gr (500+q) R.arg).2 R.v:=by
 have hlen:∀{j:aF} {t:jD},R.cs[j]? =ah t->j<900:=by
  intro j t ht;have h0:r.rs[q]? =ah R.arg:=by rw[hE.rs,bL,hR];rfl
  have hx:L9 R.arg (R.cs.map (·.aa)):=by
   unfold ld.arg;split
   ·exact .inr rfl
   ·exact .inl ⟨_,rfl⟩
  have:=hE.sm.rl q _ _ h0 hx;have h7:=(aT.1 ht).1;rw[bU]at this;omega
 have hf:∀{j:aF} {t:jD},R.cs[j]? =ah t->∀n∈t.fz,n∈RL.flatMap (·.fz)++OL.flatMap (·.ms):=λhj n hn=>bN _ (bP.2 ⟨_,aR hR,bP.2 ⟨_,aR hj,hn⟩⟩);have hnm:∀p j,dS p 0+j=dS p j:=λp j=>by unfold dS;omega
 rcases hE.rl R (aR hR)with ⟨nm,zs,vals,h1,h2,h3,h4,h5,h6⟩|⟨h1,⟨h2,t,h3,h4,h5⟩|⟨h2,vals,h3,h4,h5⟩⟩
 ·have:R.arg= .pt (R.cs.map (·.aa)):=by unfold ld.arg;rw[h1]
  rw[this];show R.v= .pointer (ah (ad ((ny σ c RL OL).P (dS (500+q) 900)).blk 0));rw[(A6 (R0 hR h1)).1];exact h3
 ·have:R.arg= .v ak [t.aa]:=by unfold ld.arg;rw[h1,h2,h3];rfl
  rw[this,<-h4];have ht:R.cs[0]? =ah t:=by rw[h3];rfl
  have:=Ba (OL:=OL) h5 (hf ht) (Gs hR ht (by omega));exact this
 ·have:R.arg= .v ai (R.cs.map (·.aa)):=by unfold ld.arg;rw[h1,h2]
  rw[this];refine⟨vals,h3,by show vals.size=(gu _ _).length;rw[iS,bU];exact h4,λj y hj=> ?_⟩
  replace hj:(gu (dS (500+q) 0) (R.cs.map (·.aa)))[j]? =ah y:=hj;rw[iB,bL]at hj;cases ht:R.cs[j]? with
  |none=>rw[ht]at hj;cases hj
  |some t=>
   rw[ht]at hj;cases hj;obtain⟨k1,k2⟩:=h5 j t ht;refine⟨t.u,k1, ?_⟩
   rw[hnm];exact Ba k2 (hf ht) (Gs hR ht (hlen ht))
theorem B6{args:aA fj}{r:dB}{q:aF}{y:fj}{xs:aA AA}(h0:r.rs[q]? =ah y)(hx:L9 y xs){v:AV}(hv:v∈gu (dS (500+q) 0) xs):jg (ot args r) v:=by
 intro m hm;obtain⟨j,hj⟩:=bY hv;rw[iB]at hj;cases hy:xs[j]? with
 |none=>rw[hy]at hj;cases hj
 |some z=>
  rw[hy]at hj;cases hj;obtain⟨rfl,e,ex,ys,rfl⟩:=tE hm;have hn:dS (500+q) 0+j=dS (500+q) j:=by unfold dS;omega
  rw[hn];exact vS (.rr q y xs j e ex ys h0 hx hy)
theorem Xc(cf:Ok E σ w c){args:aA fj}{r:dB}(hE:D_ E σ w c RL OL args r):Ok E (ot args r) w (ny σ c RL OL) where
 obj nm o h:=(wU cf hE (qJ h)).1
 sep nm o xH o' b h h' hf ve:=by
  obtain⟨s,e1,k1⟩:=(wU cf hE (qJ h)).2;obtain⟨s',e1',k1'⟩:=(wU cf hE (qJ h')).2;obtain⟨n,ob,h1,h2,h3⟩:=k1 b hf;obtain⟨n',ob',KM,OT,M8⟩:=k1' b ve;have:=cf.sep n ob n' ob' b h2 OT h3 M8;subst this;rw[e1,e1',Zx hE.nd h1 KM]
 kk nm o b h hf hk:=by
  obtain⟨s,e1,k1⟩:=(wU cf hE (qJ h)).2;obtain⟨n,ob,h1,h2,h3⟩:=k1 b hf;rcases hk with hk|⟨n',kJ,ob',OT,M8⟩
  ·exact cf.kk n ob b h2 h3 hk
  ·have:=cf.sep n ob n' ob' b h2 OT h3 M8;subst this;exact hE.ap n (Ui h1) kJ
 lt b hb:=by
  rcases hb with hb|⟨n,hn,ob,h1,h2⟩
  ·exact cf.lt b hb
  ·exact wB.lt cf ⟨n,ob,h1,h2⟩
 kn nm xs h v hv:=by
  have hx:=qJ h;cases hx with
  |rb q xs h0=>exact B6 h0 (.inr rfl) hv
  |ob p xs h0=>
   intro m hm;obtain⟨j,hj⟩:=bY hv;rw[v9,bV]at hj;cases hy:(r.outs.getD p [])[j]? with
   |none=>rw[hy]at hj;cases hj
   |some z=>
    rw[hy]at hj;cases hj;cases z with
    |kp ys=>
     have hm:m=dS p j:=by simpa [tI,bQ]using hm
     subst hm;have sO:p<OL.length:=by rw[hE.len];exact(aT.1 h0).1
     have hO:OL[p]? =ah OL[p]:=by simp[sO]
     have hl:r.outs.getD p []=OL[p].cs.map (·.aa):=by rw[hE.outs,cY,bL,hO];rfl
     rw[hl,bL]at hy;cases ht:OL[p].cs[j]? with
     |none=>rw[ht]at hy;cases hy
     |some t=>
      rw[ht]at hy;have I9:t.aa= .kp ys:=by injection hy
      rcases hE.ol p _ _ hO h0 with ⟨_,h1,_⟩|⟨_,LY,vs,vals,XE,_,_,_,h5⟩
      ·exact cJ rfl (h1 xs)
      ·cases XE;rcases(h5 j t ht).2 with ⟨⟨e,ex,z,Dm,q1,q2,_⟩,_⟩|h
       ·rw[I9]at q2;cases q2;exact vS (.kp p _ xs j e ex z ys h0 (.inr rfl) q1 (by rw[hl,bL,ht];exact lM ah I9))
       ·rcases h with ⟨_,_,_,_,q,_⟩|⟨_,_,_,q,_⟩
        ·rw[I9]at q;cases q
        ·exact cJ I9 (q _)
    |ow e ex ys=>
     have hm:m=dS p (100+j):=by simpa [tI,lB,bQ]using hm
     subst hm;exact vS (.nw p _ xs j e ex ys h0 (.inr rfl) hy)
    |_=>simp[tI,lB,bQ]at hm
theorem OJ(cf:Ok E σ w c){args:aA fj}{r:dB}(hE:D_ E σ w c RL OL args r):ov σ c w (ot args r) (ny σ c RL OL) w where
 os:=rfl
 tape:=rfl
 output:=rfl
 size:=cD _
 K b hb:= .inl hb
 same _ _ _:=rfl
 own b hb:=by
  obtain⟨nm,o,h,hf⟩:=hb;obtain⟨s,e1,k1⟩:=(wU cf hE (qJ h)).2;obtain⟨n,ob,h1,h2,h3⟩:=k1 b hf;exact .inl ⟨n,ob,h2,h3⟩
 kn b hb:=by
  rcases hb with hb|⟨n,hn,ob,h1,h2⟩
  ·exact .inl hb
  ·exact .inr (.inl ⟨n,ob,h1,h2⟩)
theorem OK{args:aA fj}{r:dB}(hs:Small args r)(ha:∀a∈args,nv a<=100)(hA:VP c0 c):∀m,inj args (c9 m)≠ .jZ->(ny σ c RL OL).P m=c0.P m/\(ny σ c RL OL).G m=c0.G m:=by
 intro m hm;have:∃ob,inj args (c9 m)= .o ob:=by
  cases h:inj args (c9 m)with
  |o ob=>exact⟨ob,rfl⟩
  |jZ=>exact cJ h hm
  |v x=>
   obtain⟨p,a,h0,h⟩:=lU.1 (nU h (by simp));rcases h with ⟨h,_⟩|h
   ·exact cJ h (mq _ _)
   ·rcases iy.1 h with ⟨_,_,_,h⟩|⟨_,_,_,_,_,_,_,_,h⟩<;>cases h
 obtain⟨ob,h⟩:=this;obtain⟨p,a,h0,hh⟩:=Bh h;have go:∀j,j<100\/j=900->p<500->(ny σ c RL OL).P (dS p j)=c0.P (dS p j)/\(ny σ c RL OL).G (dS p j)=c0.G (dS p j):=by intro j hj hp;obtain⟨e1,e2⟩:=A5 (σ:=σ) (A3 (c:=c) (RL:=RL) (OL:=OL) hp hj);obtain⟨g1,g2⟩:=hA (dS p j) (Cx p j);exact⟨e1.trans g1,e2.trans g2⟩
 rcases hh with ⟨xs,rfl,rfl,_⟩|⟨xs,j,e,ex,ys,hx,hj,rfl,_⟩
 ·exact go 900 (.inr rfl) (hs.a p _ xs h0 (.inr rfl))
 ·refine go j (.inl ?_) (hs.a p _ xs h0 hx);have h1:=ha a (aR h0);have h2:nv a=xs.length:=by rcases hx with ⟨g,rfl⟩|rfl<;>rfl
  have h3:=(aT.1 hj).1;omega
theorem Sg{args:aA fj}{r:dB}(hE:D_ E σ w c RL OL args r):ji E w (ny σ c RL OL) (Zj r.rs) (CN (RL.map (·.v))):=by
 have j_:∀l:aA (aW×aA AV),l=lC 500 r.rs->ji E w (ny σ c RL OL) (.j_ l) (.tuple (RL.map (·.v)).toArray):=by
  rintro l rfl;refine⟨_,rfl,by rw[xF,hE.rs];simp,λj g xs hj=> ?_⟩
  rw[E1,hE.rs,bL]at hj;cases hR:RL[j]? with
  |none=>rw[hR]at hj;cases hj
  |some R=>
   rw[hR]at hj;have hj:Gr (500+j) R.arg=(g,xs):=by injection hj
   have:=UC hE hR;rw[hj]at this;exact⟨R.v,by simp[hR],this⟩
 have one:∀x R,lC 500 r.rs=[x]->RL=[R]->ji E w (ny σ c RL OL) (sj [x]) R.v:=by
  intro x R hx hRL;have h0:RL[0]? =ah R:=by rw[hRL];rfl
  have h1:=UC hE h0;have h2:(lC 500 r.rs)[0]? =ah (Gr (500+0) R.arg):=by rw[E1,hE.rs,bL,h0];rfl
  rw[hx]at h2;have h2:x=Gr (500+0) R.arg:=by injection h2
  subst h2;exact h1
 have hlen:(lC 500 r.rs).length=RL.length:=by rw[xF,hE.rs];simp
 have hL:∀L,L=lC 500 r.rs->L.length=RL.length->ji E w (ny σ c RL OL) (sj L) (CN (RL.map (·.v))):=by
  intro L hL hlen;have j_:=j_ L hL;generalize hV:RL.map (·.v)=V at j_⊢;have hlv:L.length=V.length:=by rw[hlen,<-hV];simp
  cases L with
  |nil=>
   cases V with
   |nil=>exact j_
   |cons v V=>simp at hlv
  |cons x L=>
   cases V with
   |nil=>simp at hlv
   |cons v V=>
    cases L with
    |cons y L=>
     cases V with
     |nil=>simp at hlv
     |cons v' V=>exact j_
    |nil=>
     cases V with
     |cons v' V=>simp at hlv
     |nil=>
      cases hR:RL with
      |nil=>rw[hR]at hV;cases hV
      |cons R RL'=>
       cases RL' with
       |nil=>
        have:=one x R hL.symm hR;rw[hR]at hV this;have hV:R.v=v:=by injection hV
        rw[<-hV];exact this
       |cons R' RL'=>rw[hR]at hV;simp at hV
 exact hL _ rfl hlen
end
end Go.FG

namespace Go.FG
theorem Et{α:Type}{b:aW}{x r:α}(h:(bif b then ah x else aj)=ah r):b=ai/\x=r:=by
 cases b with
 |true=>exact⟨rfl,by injection h⟩
 |false=>cases h
section
variable {P:c5} {E:fO} {σ:St} {a:Act} {w:bM} {c:e9}
theorem aeo(hE:eB P E)(cf:Ok E σ w c)(dK:fC E σ a w c){F:Func}{args:aA fj}{e:Ex}{r:dB}(h:fin E F args e σ=ah r):
  (e= .normal\/e= .ret)/\(∀x∈args,nv x<=100)/\∃RL OL,D_ E σ w c RL OL args r/\(results F a.tmps).run P w= .ok (CN (RL.map (·.v))) w:=by
 have he:e= .normal\/e= .ret:=by
  cases e with
  |normal=>exact .inl rfl
  |ret=>exact .inr rfl
  |exit id=>cases h
 have h:(match CM E σ 500 F.results.toList F.resultTypes.toList with
  |some (rs,tk,fz)=>match CF E σ (tk++fz) 0 args with
   |some (outs,ns,ms)=>bif tG (tk++ns)&&rH (tk++ns) (fz++ms)&&fI args.length 500&&(args.all λa=>fI (nv a) 100)&&(rs.all λa=>fI (nv a) 100)&&(outs.all λa=>fI a.length 100)then ah (dB.mk rs (um outs))else aj
   |none=>aj
  |none=>aj)=ah r:=by
  rcases he with rfl|rfl<;>exact h
 split at h
 ·rename_i rs tk fz h1;split at h
  ·rename_i outs ns ms h2;obtain⟨RL,rfl,rfl,rfl,r4,r5,r6⟩:=PG hE cf dK h1;obtain⟨OL,rfl,o2,rfl,rfl,o5⟩:=Py cf h2;obtain⟨hb,rfl⟩:=Et h;simp only[aL,bn]at hb;obtain⟨⟨⟨⟨⟨b1,b2⟩,b3⟩,b4⟩,b5⟩,b6⟩:=hb;refine⟨he,λx hx=>cL (b4 x hx),RL,OL,⟨r4,λi O x hi hx=>by have:=o5 i O x hi hx;rwa[bV]at this,o2,qM b1,oP b2,⟨?_, ?_, ?_⟩,rfl,λp=>zZ⟩,JD r6⟩
   ·intro p x xs hp _;have:=(aT.1 hp).1;have:=cL b3;omega
   ·intro q x xs hq hx;have h1:=cL (b5 x (aR hq));have h2:nv x=xs.length:=by rcases hx with ⟨g,rfl⟩|rfl<;>rfl
    omega
   ·intro p;show((um (OL.map (·.l))).getD p []).length<=100;rw[zZ,cY];cases hp:(OL.map (·.l))[p]? with
    |none=>simp
    |some l=>exact cL (b6 l (aR hp))
  ·cases h
 ·cases h
end
inductive Fit:CV->Prop
 |i (k n):Fit (.i k n)
 |b (x):Fit (.b x)
 |s (x) (h:DX x):Fit (.s x)
 |l (e xs) (h:xs.length<=9223372036854775807) (hc:∀y∈xs,∀x∈y,Fit x):Fit (.l e xs)
def vC(xs:aQ):Prop:=xs.length<=9223372036854775807/\∀y∈xs,∀x∈y,Fit x
def ah8:AA->Prop
 | .s x=>DX x| .sh _ xs=>vC xs| .ow _ _ xs=>vC xs|_=>True
def GH:aA AA->Prop
 |[]=>True|a::r=>ah8 a/\GH r
def ah9:CV->Prop
 | .s x=>DX x| .l _ xs=>vC xs|_=>True
def Sn:aA CV->Prop
 |[]=>True|a::r=>ah9 a/\Sn r
def Sm:fj->Prop
 | .v _ xs=>GH xs| .pt xs=>GH xs| .fb xs=>Sn xs
def w8:aA fj->Prop
 |[]=>True|a::r=>Sm a/\w8 r
theorem Fit.ajq{u:bk}{x:CV}(hl:ur x=ak)(h:Sc u x):Fit x:=by
 cases x with
 |i k n=>exact .i k n
 |b x=>exact .b x
 |s x=>exact .s x h.2
 |l=>simp[ur]at hl
theorem c_.fit{E:Tab}{w:bM}{K:aF->Prop}{v:bk}{x:CV}(h:c_ E w K v x):Fit x:=by
 induction h with
 |i k n=>exact .i k n
 |b x=>exact .b x
 |s x h=>exact .s x h
 |nl e A c=>exact .l e [] (bI _) (λy hy=>by cases hy)
 |l e xs b o c ti U ht hc hm hK hs hcell gq ih=>refine .l e xs (dg hc hm) (λy hy x hx=> ?_);obtain⟨i,hi⟩:=bY hy;obtain⟨j,hj⟩:=bY hx;exact ih i j y x hi hj
theorem Fit.row{e:aF}{xs:aQ}(h:Fit (.l e xs)):vC xs:=by cases h with|l _ _ h hc=>exact⟨h,hc⟩
theorem Fit.toC{x:CV}(h:Fit x):ah9 x:=by
 cases x with
 |s x=>cases h with|s _ h=>exact h
 |l e xs=>exact h.row
 |_=>trivial
theorem Ah{w:bM}{p:Pl}{xs:aQ}{R:aF->aF->bk->CV->Prop}(h:jh w p xs R){i j:aF}{y:aA CV}{x:CV}(hi:xs[i]? =ah y)(hj:y[j]? =ah x):∃u:bk,R i j u x:=by
 cases hn:p.nil with
 |true=>rw[(h.nil hn).1]at hi;simp at hi
 |false=>obtain⟨vals,_,_,_,_,hc⟩:=h.mem hn;obtain⟨u,_,hr⟩:=hc i y j x hi hj;exact⟨u,hr⟩
theorem Mw.fit{E:Tab}{w:bM}{c:e9}{nm e:aF}{ex:aW}{xs:aQ}(h:Mw E w c nm e ex xs):vC xs:=by
 refine⟨uC h.at_,λy hy x hx=> ?_⟩
 obtain⟨i,hi⟩:=bY hy;obtain⟨j,hj⟩:=bY hx;obtain⟨u,hr⟩:=Ah h.at_ hi hj;split at hr
 ·cases x with
  |i k n=>exact .i k n
  |b x=>exact .b x
  |s x=>exact .s x (show Sc u (.s x)from hr).2
  |l e2 ys=>obtain⟨_,ti,_,hp,_,mK,gd⟩:=hr;refine .l e2 ys (uC gd) (λy2 hy2 x2 Qn=> ?_);obtain⟨i2,vg⟩:=bY hy2;obtain⟨j2,Qj⟩:=bY Qn;obtain⟨u2,hr2⟩:=Ah gd vg Qj;exact Fit.ajq (iq hp (mK y2 hy2) Qj) hr2
 ·exact c_.fit hr
theorem ED{T:Tab}{w:bM}{c:e9}{xs:aA AA}{nm:aF}(aiK:∀(j e:aF) (ex:aW) (ys:aQ),xs[j]? =ah (AA.ow e ex ys)->vC ys)(h:∀(j:aF) (x:AA),xs[j]? =ah x->∃v,eG T w c (lB (nm+j) x) v):GH xs:=by
 induction xs generalizing nm with
 |nil=>trivial
 |cons x xs ih=>
  refine⟨?_,ih (nm:=nm+1) (λj e ex ys hj=>aiK (j+1) e ex ys hj) (λj y hj=> ?_)⟩
  ·obtain⟨v,hv⟩:=h 0 x rfl;cases x with
   |s x=>exact hv.2
   |sh e ys=>exact(c_.fit hv).row
   |ow e ex ys=>exact aiK 0 e ex ys rfl
   |_=>trivial
  ·have:=h (j+1) y hj;rw[show nm+1+j=nm+(j+1)by omega];exact this
def zK(args:aA fj):aW:=fI args.length 500&&args.all λa=>fI (nv a) 100
theorem XJ{args:aA fj}(hs:zK args=ai){p j e:aF}{x:fj}{xs:aA AA}{ex:aW}{ys:aQ}(h0:args[p]? =ah x)(hx:(∃g,x= .v g xs)\/x= .pt xs)(hj:xs[j]? =ah (AA.ow e ex ys)):inj args (c9 (dS p j))= .o (.row e ex ys):=by
 simp only[zK,aL,bn]at hs;have len:∀(x:fj) (xs:aA AA) (j:aF) (y:AA),x∈args->((∃g,x= .v g xs)\/x= .pt xs)->xs[j]? =ah y->j<100:=by
  intro x xs j y hm hx hj;have h1:=cL (hs.2 x hm);have h2:nv x=xs.length:=by rcases hx with ⟨g,rfl⟩|rfl<;>rfl
  have h3:=(aT.1 hj).1;omega
 have jY:=len x xs j _ (aR h0) hx hj;refine zM (lU.2 ⟨p,x,h0, .inr (iy.2 (.inr ⟨xs,j,e,ex,ys,hx,hj,by rw[bV],rfl⟩))⟩) (λc' IP=> ?_);obtain⟨p',a',V7,hh⟩:=lU.1 IP;rw[bV]at hh;rcases hh with ⟨h,_⟩|hh
 ·exact cJ h (mq _ _)
 ·rcases iy.1 hh with ⟨zs,_,h,_⟩|⟨zs,j',e',uo,Dm,pF,JX,h,rfl⟩
  ·have:=uA (by omega) (by omega) (jU h);omega
  ·have ayG:=len a' zs j' _ (aR V7) pF JX;obtain⟨rfl,rfl⟩:=uA (by omega) (by omega) (jU h);rw[h0]at V7;cases V7;have:xs=zs:=by rcases hx with ⟨g,rfl⟩|rfl<;>rcases pF with ⟨g',pF⟩|pF<;>cases pF<;>rfl
   subst this;rw[hj]at JX;cases JX;rfl
theorem KF{T:Tab}{w:bM}{c:e9}:∀{cs:aA CV},(∀(q:aF) (x:CV),cs[q]? =ah x->Fit x)->Sn cs:=by
 intro cs;induction cs with
 |nil=>intro _;trivial
 |cons x cs ih=>intro h;exact⟨(h 0 x rfl).toC,ih (λq y hq=>h (q+1) y hq)⟩
theorem Sq{T:Tab}{w:bM}{c:e9}{args:aA fj}(hs:zK args=ai)(cf:Ok T (inj args) w c)(h:∀(p:aF) (x:fj),args[p]? =ah x->∃v,ji T w c (tz p x) v):w8 args:=by
 have one:∀(p:aF) (x:fj),args[p]? =ah x->Sm x:=by
  intro p x h0;have rows:∀xs,((∃g,x= .v g xs)\/x= .pt xs)->∀(j e:aF) (ex:aW) (ys:aQ),xs[j]? =ah (AA.ow e ex ys)->vC ys:=λxs hx j e ex ys hj=>Mw.fit (cf.obj _ _ (XJ hs h0 hx hj));obtain⟨v,hv⟩:=h p x h0;cases x with
  |v g xs=>
   refine ED (T:=T) (w:=w) (c:=c) (nm:=dS p 0) (rows xs (.inl ⟨g,rfl⟩)) (λj y hj=> ?_);replace hv:qj T w c g (gu (dS p 0) xs) v:=hv;have JX:(gu (dS p 0) xs)[j]? =ah (lB (dS p 0+j) y):=by rw[iB,hj];rfl
   unfold qj at hv;split at hv
   ·rename_i a he;rw[he]at JX;cases j with
    |zero=>cases JX;exact⟨v,hv⟩
    |succ j=>simp at JX
   ·obtain⟨vals,_,_,hv⟩:=hv;obtain⟨u,_,hu⟩:=hv j _ JX;exact⟨u,hu⟩
   ·exact hv.elim
  |pt xs=>
   have aq5:inj args (c9 (dS p 900))= .o (.box (gu (dS p 0) xs)):=by
    refine zM (lU.2 ⟨p,_,h0, .inr (iy.2 (.inl ⟨xs,rfl,by rw[bV],by rw[bV]⟩))⟩) (λc' IP=> ?_);obtain⟨p',a',V7,hh⟩:=lU.1 IP;rw[bV]at hh;rcases hh with ⟨h,_⟩|hh
    ·exact cJ h (mq _ _)
    ·rcases iy.1 hh with ⟨zs,hx,h,rfl⟩|⟨zs,j',e',uo,Dm,pF,JX,h,rfl⟩
     ·obtain⟨rfl,_⟩:=uA (by omega) (by omega) (jU h);rw[h0]at V7;cases V7;cases hx;rfl
     ·exfalso;simp only[zK,aL,bn]at hs;have h1:=cL (hs.2 a' (aR V7));have h2:nv a'=zs.length:=by rcases pF with ⟨g,rfl⟩|rfl<;>rfl
      have h3:=(aT.1 JX).1;have:=uA (by omega) (by omega) (jU h);omega
   obtain⟨vals,_,_,hc⟩:=cf.obj _ _ aq5;refine ED (T:=T) (w:=w) (c:=c) (nm:=dS p 0) (rows xs (.inr rfl)) (λj y hj=> ?_);obtain⟨u,_,hu⟩:=hc j (lB (dS p 0+j) y) (by rw[iB,hj];rfl);exact⟨u,hu⟩
  |fb xs=>
   obtain⟨b,_,_,hf⟩:∃b,v= .pointer (ah (ad b 0))/\c.K b/\∀(q:aF) (x:CV),xs[q]? =ah x->∃u:bk,w.cell? (ad b q)=ah u/\c_ T w c.K u x:=by obtain⟨b,h1,h2,h3⟩:=hv;exact⟨b,h1,h2,h3⟩
   exact KF (T:=T) (w:=w) (c:=c) (λq x hq=>by obtain⟨u,_,hu⟩:=hf q x hq;exact hu.fit)
 clear h cf hs;induction args with
 |nil=>trivial
 |cons x args ih=>exact⟨one 0 x rfl,ih (λp y hp=>one (p+1) y hp)⟩
theorem aep{P:c5}{E:fO}(hE:eB P E)(hF:∀g,b9 P E g (E.call g))(hm:P.follows .mixedOrders=ai){g:aF}{F:Func}{code:Code}(hf:P.funcs[g]? =ah F)(hb:F.body=ah code)
  (hc:((F.name== "runtime.NumGoroutine")|| !th F.ntmps code)=ak) {spec:aA fj->az (aW×dB)} (hs:∀args r,spec args=ah (ai,r)->zK args=ai/\(w8 args->args.length<=F.ntmps/\∃(R:Type) (it:It R) (K:Ex->St->az R) (q:R),(∀c∈jT code,cg E it c)/\tn E it code (inj args) K=ah q/\∀e σ,K e σ=ah q->fin E F args e σ=ah r)):b9 P E g spec:=by
 intro args r hr w c1 vs cf gf SN;obtain⟨hsm,hs⟩:=hs args r hr;obtain⟨hlen,R,it,K,q,Cj,aib,arh⟩:=hs (Sq hsm cf (λp x hp=>(SN p x hp).imp λ_ h=>h.2));simp only[iG,mL]at hc;refine⟨⟨F,hf,by rw[hb];rfl,hc.1⟩, ?_⟩
 refine calls_of_wp hf hb ?_;refine aei (N:=F.ntmps) (σ0:=inj args) (c0:=c1) (w0:=w) hE hF hm code Cj (inj args) K _ aib hc.2 (λe σ' a' w' c' hk gd=> ?_) _ w c1 ⟨cf,⟨λn=> ?_,Jb,rfl⟩, ?_,ov.refl _ _ _,VP.refl _⟩
 ·obtain⟨he,ha,RL,OL,Xk,SJ⟩:=aeo hE gd.ok gd.sl (arh _ _ hk)
  have arO:RO E args r c1 w (CN (RL.map (·.v))) w':=
   ⟨ny σ' c' RL OL,Xc gd.ok Xk,gd.gr.trans (OJ gd.ok Xk),OK Xk.sm ha gd.ag,Sg Xk⟩
  rcases he with rfl|rfl<;>exact⟨gd.sl.df,_,SJ,arO⟩
 ·rcases Jc (args:=args) (n:=n)with ⟨x,h0,h⟩|h
  ·rw[h];obtain⟨v,hv,yx⟩:=SN n x h0;have:(Act.mk (vs++AQ (F.ntmps-vs.size) undef) []).eval (.tmp n)=v:=by show(vs++AQ (F.ntmps-vs.size) undef).getD n undef=v;have hn:=(dU.1 hv).1;rw[eJ,Array.getElem?_append,bz hn,hv];rfl
   rw[this];exact yx
  ·rw[h];trivial
 ·simp;omega
theorem OO{P:c5}{T:Tab}{g:aF}{spec:aA fj->az (aW×dB)}(h:∀args,spec args=aj):b9 P T g spec:=λargs r hr=>by rw[h]at hr;cases hr
end Go.FG

namespace Go.FG
structure pQ where
 t:aF
 ti:TI
 fs:aA (aF×aF)
def AP:aA pQ->aF->az TI
 |[],_=>aj
 |r::rs,t=>bif bC t r.t then ah r.ti else AP rs t
def DN:aA pQ->aF->aF->az (aF×aF)
 |[],_,_=>aj
 |r::rs,t,f=>bif bC t r.t then(bif r.ti.agg then r.fs[f]? else aj)else DN rs t f
def Vv(rows:aA pQ)(eqs:aA aF):Tab:={ty:=AP rows,fo:=DN rows,eqs:=eqs}
def zB:Ck->bk->aW
 | .i k, .int k' n=>decide (k'=k)&&decide (n=0)
 | .b, .bool x=> !x
 | .s, .string x=>decide (x.size=0)
 | .l _, .slice aj 0 0=>ai
 | .o, .nilIface=>ai
 |_,_=>ak
def zsB:aA Ck->aA bk->aW
 |[],[]=>ai
 |k::ks,v::vs=>zB k v&&zsB ks vs
 |_,_=>ak
def isAgg:bk->aW| .agg _=>ai|_=>ak
def wZ(P:c5)(n:aF):aA Field->aA (aF×aF)->aW
 |[],[]=>ai
 |f::r,(o,m)::l=>bC f.offset o&&(match P.info? f.type with|some i=>bC i.size m|none=>ak)&&qw 0 m&&fI (o+m) n&&wZ P n r l
 |_,_=>ak
def rR:TypeDesc->aW| .struct _=>ak| .array _ _=>ak|_=>ai
def Zk(P:c5)(r:pQ):aW:=
 match P.info? r.t,P.underlying r.t with
 |some inf,ah d=>bC inf.size r.ti.ks.length&&bC inf.bytes r.ti.bytes&&qw 0 r.ti.ks.length&&
  (bif Lf r.ti.ks then(match inf.zero with|some z=>zsB r.ti.ks z.cells.toList&&(!r.ti.agg||isAgg z)|none=>ak)else ai)&&
  (match d with
  | .struct fs=>r.ti.agg&&wZ P r.ti.ks.length fs.toList r.fs
  | .int k=> !r.ti.agg&&ql r.ti.ks [.i k]
  | .bool=> !r.ti.agg&&ql r.ti.ks [.b]
  | .string=> !r.ti.agg&&ql r.ti.ks [.s]
  | .slice e=> !r.ti.agg&&ql r.ti.ks [.l e]
  |d=> !r.ti.agg&&ql r.ti.ks [.o]&&rR d)
 |_,_=>ak
theorem al1{k:Ck}{v:bk}(h:zB k v=ai):v=iJ k:=by
 cases k<;>cases v<;>simp_all [zB,iJ]
 ·rfl
 ·rename_i a n c;cases a<;>cases n<;>cases c<;>simp_all
theorem VO:∀{ks:aA Ck} {vs:aA bk},zsB ks vs=ai->vs=ks.map iJ
 |[],[],_=>rfl
 |k::ks,v::vs,h=>by
  simp only[zsB,aL]at h;rw[al1 h.1,VO h.2];rfl
 |[],_::_,h=>by cases h
 |_::_,[],h=>by cases h
theorem aed:∀{x y:Ck},ckB x y=ai->x=y:=by intro x y h;cases x<;>cases y<;>simp_all [ckB]
theorem nQ:∀{a b:aA Ck},ql a b=ai->a=b
 |[],[],_=>rfl
 |x::a,y::b,h=>by
  simp only[ql,aL]at h;rw[aed h.1,nQ h.2]
 |[],_::_,h=>by cases h
 |_::_,[],h=>by cases h
theorem vT{P:c5}{n:aF}:∀{fs:aA Field} {l:aA (aF×aF)},wZ P n fs l=ai->
  fs.mapM (λf=>(P.info? f.type).map λi=>(f.offset,i.size))=ah l/\∀(f o m:aF),l[f]? =ah (o,m)->∃fd,fs[f]? =ah fd/\fd.offset=o/\(P.info? fd.type).map (·.size)=ah m/\m≠0/\o+m<=n
 |[],[],_=>⟨rfl,λf o m h=>by simp at h⟩
 |f::r,(o,m)::l,h=>by
  simp only[wZ,aL]at h;obtain⟨⟨⟨⟨h1,h2⟩,h3⟩,h4⟩,h5⟩:=h;obtain⟨i1,i2⟩:=vT h5;have e1:=aU h1;cases hi:P.info? f.type with
  |none=>rw[hi]at h2;cases h2
  |some i=>
   rw[hi]at h2;have e2:i.size=m:=aU h2;have e3:0<m:=by simpa [Ar]using h3
   have e4:=cL h4;refine⟨by simp[WN,hi,i1,e1,e2],λg o' m' hg=> ?_⟩
   cases g with
   |zero=>cases hg;exact⟨f,rfl,e1,by rw[hi];exact lM ah e2,by omega,e4⟩
   |succ g=>exact i2 g o' m' hg
 |[],_::_,h=>by cases h
 |_::_,[],h=>by cases h
theorem JO:∀{rows:aA pQ} {t:aF} {ti:TI},AP rows t=ah ti->∃r∈rows,r.t=t/\r.ti=ti/\∀f,DN rows t f=(bif r.ti.agg then r.fs[f]? else aj)
 |[],_,_,h=>by cases h
 |r::rs,t,ti,h=>by
  unfold AP at h;cases hb:bC t r.t with
  |true=>rw[hb]at h;cases h;exact⟨r,dn ..,(aU hb).symm,rfl,λf=>by simp[DN,hb]⟩
  |false=>rw[hb]at h;obtain⟨r',h1,h2,h3,h4⟩:=JO (rows:=rs) h;exact⟨r',c7 _ h1,h2,h3,λf=>by unfold DN;rw[hb];exact h4 f⟩
theorem M4:∀{rows:aA pQ} {t f:aF} {o n:aF},DN rows t f=ah (o,n)->∃ti,AP rows t=ah ti/\ti.agg=ai
 |[],_,_,_,_,h=>by cases h
 |r::rs,t,f,o,n,h=>by
  unfold DN at h;unfold AP;cases hb:bC t r.t with
  |true=>
   rw[hb]at h;refine⟨r.ti,rfl, ?_⟩
   cases ha:r.ti.agg with
   |true=>rfl
   |false=>rw[ha]at h;cases h
  |false=>rw[hb]at h;exact M4 (rows:=rs) h
def He(P:c5):aF->aA Ck->aA Field->aW
 |_,[],[]=>ai
 |j,k::ks,f::fs=>f.name != "_" &&bC f.offset j&&(match P.underlying f.type,k with|some (.int q), .i q'=>decide (q=q')|some .bool, .b=>ai|some .string, .s=>ai|_,_=>ak)&&He P (j+1) ks fs
 |_,_,_=>ak
def aaq(P:c5)(rows:aA pQ)(t:aF):aW:=
 !P.eqGuardType P.depth t&& !P.stoodInHeld t&&(match AP rows t,P.underlying t with|some ti,ah (.struct fs)=>He P 0 ti.ks fs.toList|_,_=>ak)
theorem xS{P:c5}{t:aF}{d:TypeDesc}(hd:P.underlying t=ah d)(hp:rR d=ai){cs:dt bk}{j:aF}{v:bk}(hj:cs[j]? =ah v)(w:bM):(part t cs j).run P w= .ok v w:=by cases d<;>simp_all [part,Go.isAgg,run_underlying hd,rR]
theorem z5{P:c5}(w:bM):∀(fs:aA Field) (ks:aA Ck) (pre Lv xs ys:aA AV) (r:aW),He P pre.length ks fs=ai->Lv.length=pre.length->xs.map GZ=ks->ys.map GZ=ks->Xb xs ys=ah r->
  (Ol 9999 ((pre++xs).map lX).toArray ((Lv++ys).map lX).toArray fs).run P w= .ok r w
 |[],[],pre,Lv,xs,ys,r,_,_,hx,hy,he=>by
  have:xs=[]:=by simpa using hx
  subst this;have:ys=[]:=by simpa using hy
  subst this;cases he;rfl
 |f::fs,k::ks,pre,Lv,x::xs,y::ys,r,h,hl,hx,hy,he=>by
  simp only[He,aL]at h;obtain⟨⟨⟨h1,h2⟩,h3⟩,h4⟩:=h;have h2:=aU h2;have h1:f.name≠ "_" :=by simpa using h1
  simp only[fB,List.cons.injEq]at hx hy;have gx:((pre++x::xs).map lX).toArray[f.offset]? =ah (lX x):=by rw[h2];simp
  have gy:((Lv++y::ys).map lX).toArray[f.offset]? =ah (lX y):=by rw[h2,<-hl];simp
  have ih:=λr' he'=>z5 w fs ks (pre++[x]) (Lv++[y]) xs ys r' (by simpa using h4) (by simp[hl]) hx.2 hy.2 he';simp only[cu,uO]at ih
  have fin:∀{d:TypeDesc} {a b:bk} {q t:aW},P.underlying f.type=ah d->rR d=ai->lX x=a->lX y=b->(Op.equalIn 9999 f.type a b).run P w= .ok q w->Xb xs ys=ah t->r=(q&&t)->
    (Ol 9999 ((pre++x::xs).map lX).toArray ((Lv++y::ys).map lX).toArray (f::fs)).run P w= .ok r w:=by
   intro d a b q t hd hp ha hb hq ht hr
   subst ha;subst hb;subst hr
   simp only[Ol,bz h1,ch,xS hd hp gx w,xS hd hp gy w,bG,hq,na]
   cases q with
   |false=>rfl
   |true=>simpa using ih t ht
  cases hu:P.underlying f.type with
  |none=>rw[hu]at h3;cases h3
  |some d=>
   rw[hu]at h3;cases x<;>cases y<;>simp only[Xb]at he<;>try (cases he;done)
   ·rename_i k1 n1 k2 n2;split at he
    ·rename_i SC;subst SC;split at he
     ·rename_i t ht;cases he;have hk:k= .i k1:=hx.1.symm;subst hk;cases d<;>simp at h3;subst h3;exact fin hu rfl rfl rfl (run_equalIn_int w 9998 f.type _ _ _ _ hu) ht rfl
     ·cases he
    ·cases he
   ·split at he
    ·rename_i t ht;cases he;have hk:k= .b:=hx.1.symm;subst hk;cases d<;>simp at h3;exact fin hu rfl rfl rfl (run_equalIn_bool' w 9998 f.type _ _ hu) ht rfl
    ·cases he
   ·split at he
    ·rename_i t ht;cases he;have hk:k= .s:=hx.1.symm;subst hk;cases d<;>simp at h3;exact fin hu rfl rfl rfl (run_equalIn_string w 9998 f.type _ _ hu) ht rfl
    ·cases he
 |[],_::_,_,_,_,_,_,h,_,_,_,_=>by cases h
 |_::_,[],_,_,_,_,_,h,_,_,_,_=>by cases h
 |_::_,_::_,_,_,[],_,_,_,_,hx,_,_=>by cases hx
 |_::_,_::_,_,_,_::_,[],_,_,_,_,hy,_=>by cases hy
theorem aeh{P:c5}{rows:aA pQ}{eqs:aA aF}(h:rows.all (Zk P)=ai)(h2:eqs.all (aaq P rows)=ai):eB P (Vv rows eqs):=by
 have key:∀t ti,AP rows t=ah ti->∃r,r.t=t/\r.ti=ti/\Zk P r=ai/\∀f,DN rows t f=(bif r.ti.agg then r.fs[f]? else aj):=λt ti ht=>by obtain⟨r,h1,h2,h3,h4⟩:=JO ht;exact⟨r,h2,h3,bn.1 h r h1,h4⟩
 have open_:∀r,Zk P r=ai->∃inf d,P.info? r.t=ah inf/\P.underlying r.t=ah d/\inf.size=r.ti.ks.length/\inf.bytes=r.ti.bytes/\0<r.ti.ks.length/\
   (Lf r.ti.ks=ai->∃z,inf.zero=ah z/\z.cells.toList=r.ti.ks.map iJ/\(r.ti.agg=ai->isAgg z=ai))/\
   ((∃fs,d= .struct fs/\r.ti.agg=ai/\wZ P r.ti.ks.length fs.toList r.fs=ai)\/(r.ti.agg=ak/\((∃k,r.ti.ks=[.i k]/\d= .int k)\/(r.ti.ks=[.b]/\d= .bool)\/(r.ti.ks=[.s]/\d= .string)\/(∃e,r.ti.ks=[.l e]/\d= .slice e)\/(r.ti.ks=[.o]/\rR d=ai)))):=by
  intro r hr
  unfold Zk at hr
  split at hr
  ·rename_i inf d h1 h2;simp only[aL]at hr;obtain⟨⟨⟨⟨k1,k2⟩,k3⟩,k4⟩,k5⟩:=hr;refine⟨inf,d,h1,h2,aU k1,aU k2,by simpa [Ar]using k3,λhn=> ?_, ?_⟩
   ·rw[hn,au]at k4;split at k4
    ·rename_i z hz;simp only[aL,dM,dx]at k4;exact⟨z,hz,VO k4.1,λha=>by rcases k4.2 with h|h;(·rw[ha]at h;cases h);exact h⟩
    ·cases k4
   ·cases d<;>simp only[aL,dx]at k5;case struct fs=>exact .inl ⟨fs,rfl,k5⟩
    case int k=>exact .inr ⟨k5.1, .inl ⟨k,nQ k5.2,rfl⟩⟩
    case bool=>exact .inr ⟨k5.1, .inr (.inl ⟨nQ k5.2,rfl⟩)⟩
    case string=>exact .inr ⟨k5.1, .inr (.inr (.inl ⟨nQ k5.2,rfl⟩))⟩
    case slice e=>exact .inr ⟨k5.1, .inr (.inr (.inr (.inl ⟨e,nQ k5.2,rfl⟩)))⟩
    all_goals exact .inr ⟨k5.1.1, .inr (.inr (.inr (.inr ⟨nQ k5.1.2,k5.2⟩)))⟩
  ·cases hr
 refine⟨λt ti ht=> ?_,λt ti ht=> ?_,λt f o n hf=>M4 hf,λt ti ht ha fs hu=> ?_,λt ti he ht w x y xs ys r hr hx hy=> ?_,λ_ _ h=>by cases h⟩
 ·obtain⟨r,rfl,rfl,hr,_⟩:=key t ti ht;obtain⟨inf,d,h1,h2,h3,h4,h5,h6,h7⟩:=open_ r hr;refine⟨inf,h1,h3,h4,h5,λhn=> ?_⟩
  obtain⟨z,z1,z2,z3⟩:=h6 hn;have hc:z.cells=(r.ti.ks.map iJ).toArray:=by rw[<-z2]
  refine⟨z,z1,hc,λha=> ?_⟩
  have:=z3 ha;cases z<;>simp[isAgg]at this;rw[show _=_ from hc.symm];rfl
 ·obtain⟨r,rfl,rfl,hr,w_⟩:=key t ti ht;obtain⟨inf,d,h1,h2,h3,h4,h5,h6,h7⟩:=open_ r hr;refine⟨d,h2,λha=> ?_,λha=> ?_⟩
  ·rcases h7 with ⟨fs,rfl,_,hb⟩|⟨hn,_⟩
   ·refine⟨fs,rfl,λf o n hf=> ?_⟩
    have hf:DN rows r.t f=ah (o,n):=hf;rw[w_,ha]at hf;obtain⟨fd,k1,k2⟩:=(vT hb).2 f o n hf;exact⟨fd,by simpa using k1,k2⟩
   ·rw[ha]at hn;cases hn
  ·rcases h7 with ⟨fs,_,hn,_⟩|⟨_,h|h|h|h|⟨h,hb⟩⟩
   ·rw[ha]at hn;cases hn
   ·exact .inl h
   ·exact .inr (.inl h)
   ·exact .inr (.inr (.inl h))
   ·exact .inr (.inr (.inr (.inl h)))
   ·refine .inr (.inr (.inr (.inr ⟨h, ?_⟩)));cases d<;>first|rfl|cases hb
 ·obtain⟨r,rfl,rfl,hr,w_⟩:=key t ti ht;obtain⟨inf,d,h1,h2,h3,h4,h5,h6,h7⟩:=open_ r hr;rw[h2]at hu;cases hu;rcases h7 with ⟨fs',he,_,hb⟩|⟨hn,_⟩
  ·cases he;refine⟨r.fs,(vT hb).1,λf o n hf=> ?_⟩
   have hf:DN rows r.t f=ah (o,n):=hf;rw[w_,ha]at hf;exact hf
  ·rw[ha]at hn;cases hn
 ·have hm:t∈eqs:=by
   have:∀l:aA aF,mJ t l=ai->t∈l:=by
    intro l;induction l with
    |nil=>intro h;cases h
    |cons a l ih=>
     intro h;simp only[mJ,dM]at h;rcases h with h|h
     ·rw[aU h];exact dn
     ·exact c7 _ (ih h)
   exact this _ he
  have hb:=bn.1 h2 t hm;simp only[aaq,aL,dx]at hb;obtain⟨⟨b1,b2⟩,b3⟩:=hb;rw[show AP rows t=ah ti from ht]at b3;cases hu:P.underlying t with
  |none=>rw[hu]at b3;cases b3
  |some d=>
   rw[hu]at b3;cases d<;>try (cases b3;done)
   rename_i fs;have w_:P.fieldsOf t=fs:=by unfold Program.fieldsOf;rw[hu]
   have sg:P.underlying t=ah (.struct (P.fieldsOf t)):=by rw[w_];exact hu
   have key:(Op.equalIn 10000 t (.agg (xs.map lX).toArray) (.agg (ys.map lX).toArray)).run P w= .ok r w:=by rw[run_equalIn_agg w 9999 t _ _ sg b2,w_];exact z5 w fs.toList ti.ks [] [] xs ys r b3 rfl hx hy hr
   refine⟨?_, ?_⟩
   ·simp only[ch,run_eqGuard_agg w .eql t x y _ _ b1,bG,run_eql_struct,key]
   ·simp only[ch,run_eqGuard_agg w .neq t x y _ _ b1,bG,run_neq_struct,key]
def alH(rows:aA pQ)(eqs:aA aF)(Sr:aA (aF×aF)):Tab:={Vv rows eqs with Sr:=λt f=>Sr.any λp=>bC t p.1&&bC f p.2}
def flB(P:c5)(p:aF×aF):aW:=
 match P.underlying p.1 with
 |some (.struct fs)=>(match fs[p.2]? with|some fd=>(match P.underlying fd.type with|some d=>rR d|none=>ak)|none=>ak)
 |_=>ak
theorem adZ{P:c5}{t:aF}{d:TypeDesc}(h:P.underlying t=ah d)(hb:rR d=ai)(w:bM):(Go.isAgg t).run P w= .ok ak w:=by unfold Go.isAgg;rw[ch,run_underlying h,bG];cases d<;>first|rfl|cases hb
theorem W_{P:c5}{rows:aA pQ}{eqs:aA aF}{Sr:aA (aF×aF)}(h:eB P (Vv rows eqs))(hf:Sr.all (flB P)=ai):eB P (alH rows eqs Sr):=by
 refine⟨h.info,h.desc,h.fo,h.pl,h.eq,λt f hq fs fd hu hd w=> ?_⟩
 obtain⟨p,hp,he⟩:=Fw.1 (show(Sr.any λp=>bC t p.1&&bC f p.2)=ai from hq);rw[aL]at he;have hb:=bn.1 hf p hp;unfold flB at hb;rw[<-aU he.1,<-aU he.2,hu]at hb;dsimp only at hb;rw[hd]at hb;dsimp only at hb;split at hb
 ·rename_i d h2;exact adZ h2 hb w
 ·cases hb
end Go.FG

