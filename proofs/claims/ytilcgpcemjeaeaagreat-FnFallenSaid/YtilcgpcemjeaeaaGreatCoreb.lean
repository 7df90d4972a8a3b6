/- An evaluator for the part of the language that this program uses, proved sound over the model: states told as values and lists; what an evaluation tells, the call does. No condition. -/
import Derived.Calls
import Derived.Orders
import Derived.Below
import Derived.Laws.AppendOwn
import Derived.Laws.Slices
import Derived.Laws.StructEq
import Derived.Laws.Tables
import Derived.Laws.MakeOwn
import Derived.Laws.IdiomStrings
import Derived.Laws.BytesArg
import Derived.Laws.NewFold
import Derived.SizedLaws
import Derived.Carry
import Derived.ProofKit
import Derived.KernelRfl
import Derived.Laws.Strings
import Derived.Test.YtilcgpcemjeaeaaGreatCorea
set_option linter.unusedVariables false
set_option linter.unusedSimpArgs false
set_option maxRecDepth 100000
open Array renaming ext'->sH,length_toList->dR,getElem?_toList->cY,getElem?_eq_some_iff->dU,getElem?_extract->ea,getElem?_map->OM,getElem?_append_left->Eo,toList_map->AD,eq_empty_of_size_eq_zero->AB,getD_eq_getD_getElem?->eP,getElem?_replicate->Ep,replicate->Bb
open Bool renaming false->ak,true->ai,or_true->Kn,and_eq_true->aL,and_true->ju,false_eq_true->dx,not_eq_true'->dr,not_eq_false'->nk,or_eq_true->dL,and_false->wC,not_false->bR,true_or->AE,or_eq_false_iff->iJ
open Go renaming World->bL,Value->bk,Program->c5,Oper->fC,IntKind->nA,Operand->dy
open Go.Act renaming put->Wf
open Go.Builtin renaming firstCells->fB,lenOf->pJ,append_->iy,zeroCells->fN
open Go.Exit renaming inBlock->Ib
open Go.Instr renaming makeFunc->Wg,loadAt->yU,sureAddr->uW
open Go.IntKind renaming u8->bh
open Go.Op renaming eqFields->ON
open Go.Oper renaming wp->OO,upon_enter->Wh
open Go.Region renaming wanted->vn,binds->mU,ready->wL
open Go.Result renaming andThen_ok->bG
open Go.Sem renaming run_bind->cj,run_pure->cT,run->nB,run_ite->nr
open List renaming mem_of_getElem?->aQ,map_append->di,map_cons->fD,map_nil->B0,mem_append->ba,mem_map->cW,mem_singleton->aZ,mem_append_left->bM,mem_append_right->bN,getElem?_append_left->dH,getElem?_append_right->da,length_append->bP,eq_nil_of_length_eq_zero->gd,length_map->bU,getElem?_eq_some_iff->aT,mem_cons->cB,getElem?_of_mem->bY,getElem_mem->bC,map_toArray->DJ,mem_cons_self->dq,mem_cons_of_mem->c7,not_mem_nil->gG,getElem?_cons_succ->dO,mem_flatMap->bQ,length_eq_one_iff->g6,getElem?_cons_zero->sI,flatMap_cons->yV,nodup_append->eQ,getElem?_map->bK,nodup_cons->lh,getD_eq_getElem?_getD->cS,nil_append->gC,all_eq_true->bu,map_map->mv,append_nil->dn,cons_append->BZ,length_singleton->bA,range'->mw,length_cons->db,getElem?_eq_none->k_,append_assoc->cz,take_append_of_le_length->pb,take_length->dD,singleton_append->uZ,length_nil->jT,getElem?_take->d_,countP_cons->lJ,range->b9,reverse_reverse->vQ,range_eq_range'->R5,find?_eq_none->W6,find?_some->vp,length_set->cD,mem_or_eq_of_mem_set->jL,mem_filter->c9,mapM_cons->W9,getD_cons_succ->vO,any_eq_true->F2
open Nat renaming lt_of_lt_of_le->jy,mul_le_mul_right->b8,add_mul->dp,add_assoc->me,eq_of_beq_eq_true->aU,le_refl->cF,zero_le->bI,div_lt_iff_lt_mul->yK,mod_lt->Dx,div_add_mod->J_,mul_comm->EA,zero_add->bV,add_comm->jc,beq->bD,le_of_ble_eq_true->cM,add_zero->yX,blt->qE,blt_eq->AM,lt_or_ge->q_,le_trans->dh,ble_eq_true_of_le->Kw,ble->fK,sub_zero->sr
open Option renaming some->ah,getD_some->yY,none->aj
open Option.some renaming inj->aJ,injEq->jG
open Prod.mk renaming inj->bW,injEq->ji
open _root_ renaming Nat->aF,Bool->aX,List->az,if_pos->bz,if_neg->bH,absurd->cJ,Array->du,Int->aw,decide_eq_true_eq->bf,Option->aC,cond_true->au,cond_false->ax,decide_eq_true->aE,decide_eq_false->aK,of_decide_eq_true->cq,congrArg->lO
namespace Go.FG
theorem qb{E:fQ}{w:bL}{K:aF->Prop}{p:Pl}{xs:aR}{el:aF}{te:TI}(ht:E.ty el=ah te)(hs:p.sz=te.ks.length)(mR:∀y∈xs,y.map CV.kd=te.ks)
  (h:jl w p xs (λ_ _ u x=>c_ E w K u x)) (hK:p.nil=ak->K p.blk):c_ E w K (lW p) (.l el xs):=by
 cases hq:p.nil with
 |true=>rw[nO hq,(h.nil hq).1];exact .nl _ _ _
 |false=>
  rw[fa hq,h.n];obtain⟨vals,hb,S0,hmx,_,hc⟩:=h.mem hq;have Jc:=λi y j x (h1:xs[i]? =ah y) (h2:y[j]? =ah x)=>hc i y j x h1 h2;refine .l el xs p.blk p.off p.cap te (λi j=>(vals[p.off+i*p.sz+j]?).getD undef) ht (by rw[<-h.n];exact S0) hmx (hK hq) mR (λi j y x h1 h2=> ?_) (λi j y x h1 h2=> ?_)
  ·obtain⟨u,hu,_⟩:=Jc i y j x h1 h2;rw[hb.cell,<-hs,hu];rfl
  ·obtain⟨u,hu,hr⟩:=Jc i y j x h1 h2;simp only[hu,yY];exact hr
theorem yH{E:fQ}{w:bL}{K:aF->Prop}{G:aF->aF->Pl}{i j:aF}{u:bk}{x:CV}(h:XC E w G i j u x)(hK:uH x=ai->(G i j).nil=ak->K (G i j).blk):c_ E w K u x:=by
 cases x with
 |l e ys=>obtain⟨rfl,t,ht,hp,hs,mR,gf⟩:=h;exact qb ht hs mR (gf.frame (λ_=>rfl) (λi j y x u hi hj hr=>kT (iw hp (mR y (aQ hi)) hj) hr)) (hK rfl)
 |i=>exact kT rfl h
 |b=>exact kT rfl h
 |s=>exact kT rfl h
section
variable {P:c5} {E:fQ} {σ:St} {a:Act} {w:bL} {c:e9} {o:fC} {nm:aF} {e:s8}
structure Km (E:fQ) (σ:St) (w:bL) (c:e9) (te:TI) (v:bk) (Dy:aX) (xs:aR) (b:az aF) (p:Pl) (g:aF->aF->Pl):Prop where
 v:v=lW p
 sz:p.sz=te.ks.length
 sh:∀y∈xs,y.map CV.kd=te.ks
 at_:jl w p xs (λi j u x=>if Dy=ai then XC E w g i j u x else c_ E w c.K u x)
 inn:Dy=ai->FY p g xs
 own:p.nil=ak->∃nm ob,nm∈b/\σ (c8 nm)= .o ob/\fL c nm ob p.blk
 owni:Dy=ai->∀i j,gj xs i j->(g i j).nil=ak->∃nm ob,nm∈b/\σ (c8 nm)= .o ob/\fL c nm ob (g i j).blk
 kn:∀nm∈b,∃ob,σ (c8 nm)= .o ob
def K1(σ:St)(c:e9)(D:az (aF×Obj))(q:aF):Prop:=c.K q\/∃n e xs ob,(n,Obj.fT e xs)∈D/\σ (c8 n)= .o ob/\fL c n ob q
structure rC (E:fQ) (σ:St) (w:bL) (c:e9) (te:TI) (b:az aF) (A5:aX) (ys:aR) (D:az (aF×Obj)) (news:az bk) (gx:aF->aF->Pl):Prop where
 sh:∀y∈ys,y.map CV.kd=te.ks
 cellX:A5=ai->∀(i:aF) (y:az CV) (j:aF) (x:CV),ys[i]? =ah y->y[j]? =ah x->∃u:bk,news[i*te.ks.length+j]? =ah u/\XC E w gx i j u x
 cellH:A5=ak->∀(i:aF) (y:az CV) (j:aF) (x:CV),ys[i]? =ah y->y[j]? =ah x->∃u:bk,news[i*te.ks.length+j]? =ah u/\c_ E w (K1 σ c D) u x
 own:A5=ai->∀i j,gj ys i j->(gx i j).nil=ak->∃n ob,(n,Obj.dead)∈D/\σ (c8 n)= .o ob/\fL c n ob (gx i j).blk
 one:A5=ai->∀i j i' j',gj ys i j->gj ys i' j'->(gx i j).nil=ak->(gx i' j').nil=ak->(gx i j).blk=(gx i' j').blk->i=i'/\j=j'
 D:∀n x,(n,x)∈D->n∉b/\(∃ob,σ (c8 n)= .o ob)/\(x= .dead\/(A5=ak/\∃e xs,x= .fT e xs/\c_ E w (K1 σ c D) (lW (c.P n)) (.l e xs)/\(c.P n).n=xs.length/\∃ti,E.ty e=ah ti/\(c.P n).sz=ti.ks.length))
theorem E6(cf:Ok E σ w c)(dK:fE E σ a w c)(hd:∀d,o.dst=ah d->d<a.tmps.size){tQ el:aF}{te:TI}(ht:E.ty el=ah te)(hf:σ (c8 tQ)= .j9)(jD:tQ<900000000)
  {v:bk} {Dy A5:aX} {xs ys:aR} {b:az aF} {p p':Pl} {g gx:aF->aF->Pl} {D2:az (aF×Obj)} {news:az bk} {w':bL}
  (hB:Km E σ w c te v Dy xs b p g) (hM:rC E σ w c te b A5 ys D2 news gx) (hA:aed w w' p p' ys.length news) (hr:(execOp a.eval o).run P w= .ok (.value (lW p')) w'):
  gZ P E σ a w c o (oA b++(kq D2++[(c8 tQ,eT.o (.row el (Dy&&A5) (xs++ys)))])++dw o (.v ak [.own tQ])):=by
 have afe:(Dy&&A5)=ai->Dy=ai/\A5=true:=λh=>by simpa using h
 generalize afd:(Dy&&A5)=O9 at afe;let D:az (aF×Obj):=EV b++(D2++[(tQ, .row el O9 (xs++ys))])
 have hD:oA b++(kq D2++[(c8 tQ,eT.o (.row el O9 (xs++ys)))])=kq D:=by rw[Ci];simp only[D,kq,di,fD,B0]
 rw[hD];have mem:∀m x,(m,x)∈D->(m∈b/\x= .dead)\/(m,x)∈D2\/(m=tQ/\x= .row el O9 (xs++ys)):=by
  intro m x hm;rcases ba.1 hm with hm|hm
  ·obtain⟨q,hq,h⟩:=cW.1 hm;cases h;exact .inl ⟨hq,rfl⟩
  ·rcases ba.1 hm with hm|hm
   ·exact .inr (.inl hm)
   ·rw[aZ]at hm;cases hm;exact .inr (.inr ⟨rfl,rfl⟩)
 have Ny:∀m,m∈b->uV D m:=λm hm=>⟨.dead,bM _ (cW.2 ⟨m,hm,rfl⟩)⟩
 have SS:∀m x,(m,x)∈D2->uV D m:=λm x hm=>⟨x,bN _ (bM _ hm)⟩
 have aiO:uV D tQ:=⟨_,bN _ (bN _ (aZ.2 rfl))⟩
 have F1:p'.nil=ak->p'.blk=w.heap.size\/∃m ob,m∈b/\σ (c8 m)= .o ob/\fL c m ob p'.blk:=by
  intro hn;rcases hA.blk hn with ⟨h1,h2⟩|h
  ·rw[h2];exact .inr (hB.own h1)
  ·exact .inl h
 have Dne:∀n x ob q,(n,x)∈D2->σ (c8 n)= .o ob->fL c n ob q->¬(p'.nil=ak/\q=p'.blk):=by
  rintro n x ob q hx m9 pY ⟨hn,rfl⟩;have XW:=wO.lt cf ⟨n,ob,m9,pY⟩;rcases F1 hn with h|⟨m,ob',h1,h2,h3⟩
  ·omega
  ·have:=cf.sep n ob m ob' _ m9 h2 pY h3;subst this;exact(hM.D n x hx).1 h1
 have Kne:∀q,c.K q->¬(p'.nil=ak/\q=p'.blk):=by
  rintro q hq ⟨hn,rfl⟩;have XW:=cf.lt _ hq;rcases F1 hn with h|⟨m,ob',h1,h2,h3⟩
  ·omega
  ·exact cf.kk m ob' _ h2 h3 hq
 have Gne:Dy=ai->∀i j,gj xs i j->(g i j).nil=ak->¬(p'.nil=ak/\(g i j).blk=p'.blk):=by
  rintro hx i j hh hn ⟨kM,he⟩;obtain⟨m,ob,q1,q2,q3⟩:=hB.owni hx i j hh hn;have XW:=wO.lt cf ⟨m,ob,q2,q3⟩;rcases hA.blk kM with ⟨h1,h2⟩|h
  ·exact(hB.inn hx).out i j hh hn h1 (he.trans h2)
  ·omega
 let K':aF->Prop:=λq=>c.K q\/(O9=ak/\ka (uV D) σ c q/\¬(p'.nil=ak/\q=p'.blk))
 have aiv:∀q,K' q->q<w.heap.size:=by
  rintro q (h|⟨_,h,_⟩)
  ·exact cf.lt q h
  ·exact wO.lt cf h.own
 have aiw:∀q,K' q->¬(p'.nil=ak/\q=p'.blk):=by
  rintro q (h|⟨_,_,h⟩)
  ·exact Kne q h
  ·exact h
 have F3:∀q,K' q->w'.heap[q]? =w.heap[q]? :=λq hq=>hA.old q (aiv q hq) (λhn he=>aiw q hq ⟨hn,he⟩);have F4:O9=ak->∀q,K1 σ c D2 q->K' q:=by
  rintro hR q (h|⟨n,e',zs,ob,h1,h2,h3⟩)
  ·exact .inl h
  ·exact .inr ⟨hR,⟨n,ob,SS n _ h1,h2,h3⟩,Dne n _ ob q h1 h2 h3⟩
 have F5:O9=ak->Dy=ai->∀i j,gj xs i j->(g i j).nil=ak->K' (g i j).blk:=by intro hR hx i j hh hn;obtain⟨m,ob,q1,q2,q3⟩:=hB.owni hx i j hh hn;exact .inr ⟨hR,⟨m,ob,Ny m q1,q2,q3⟩,Gne hx i j hh hn⟩
 have F6:O9=ak->A5=ai->∀i j,gj ys i j->(gx i j).nil=ak->K' (gx i j).blk:=by intro hR hx i j hh hn;obtain⟨n,ob,q1,q2,q3⟩:=hM.own hx i j hh hn;exact .inr ⟨hR,⟨n,ob,SS n _ q1,q2,q3⟩,Dne n _ ob _ q1 q2 q3⟩
 let G':aF->aF->Pl:=λi j=>if i<xs.length then g i j else gx (i-xs.length) j
 have G'l:∀i j,i<xs.length->G' i j=g i j:=λi j h=>bz h;have G'r:∀i j,¬i<xs.length->G' i j=gx (i-xs.length) j:=λi j h=>bH h;have Te:∀i j,i<xs.length->gj (xs++ys) i j->gj xs i j:=by rintro i j hi ⟨y,x,h1,h2,h3⟩;rw[dH hi]at h1;exact⟨y,x,h1,h2,h3⟩
 have X_:∀i j,¬i<xs.length->gj (xs++ys) i j->gj ys (i-xs.length) j:=by rintro i j hi ⟨y,x,h1,h2,h3⟩;rw[da (by omega)]at h1;exact⟨y,x,h1,h2,h3⟩
 let c':e9:=⟨λm=>if m=tQ then p' else c.P m,λm=>if m=tQ then G' else c.G m,K'⟩
 have hP:c'.P tQ=p':=bz rfl;have hG:c'.G tQ=G':=bz rfl;have hAg:jI σ c c':=λm hm=>by
  have:m≠tQ:=by rintro rfl;rcases hm with h|h;exact h hf;omega
  exact⟨bH this,bH this⟩
 have ajt:O9=ai->∀i j,gj (xs++ys) i j->(G' i j).nil=ak->¬(p'.nil=ak/\(G' i j).blk=p'.blk)/\ka (uV D) σ c (G' i j).blk:=by
  intro hR i j hh hn;obtain⟨r1,r2⟩:=afe hR;by_cases hi:i<xs.length
  ·rw[G'l i j hi]at hn⊢;obtain⟨m,ob,q1,q2,q3⟩:=hB.owni r1 i j (Te i j hi hh) hn;exact⟨Gne r1 i j (Te i j hi hh) hn,m,ob,Ny m q1,q2,q3⟩
  ·rw[G'r i j hi]at hn⊢;obtain⟨n,ob,q1,q2,q3⟩:=hM.own r2 _ j (X_ i j hi hh) hn;exact⟨Dne n _ ob _ q1 q2 q3,n,ob,SS n _ q1,q2,q3⟩
 have hlen:∀y∈xs++ys,y.map CV.kd=te.ks:=λy hy=>(ba.1 hy).elim (hB.sh y) (hM.sh y);refine K5 cf dK hd (D:=D) (c':=c') (w':=w') hAg ?_ ?_ ?_ ?_ (λq h=> .inl h) ?_ (λq hq=>jy (aiv q hq) hA.size) ?_ hA.size hA.os hA.tape hA.output ?_ ?_ hr
 ·intro m x hm;rcases mem m x hm with ⟨_,rfl⟩|XP|⟨rfl,rfl⟩
  ·trivial
  ·obtain⟨_,⟨ob,m9⟩,hx⟩:=hM.D m x XP;rcases hx with rfl|⟨WA,e',zs,rfl,q1,q2,q3⟩
   ·trivial
   ·have hR:O9=false:=by rw[<-afd,WA];simp
    obtain⟨a1,a2⟩:=hAg m (.inl (by rw[m9];simp));show c_ E w' K' (lW (c'.P m)) _/\(c'.P m).n=_/\_;rw[a1];exact⟨q1.frame (λq hq=>F3 q (F4 hR q hq)) (F4 hR),q2,q3⟩
  ·refine⟨⟨te,ht,by rw[hP,hA.sz];exact hB.sz,hlen⟩, ?_,λhR=> ?_⟩
   ·rw[hP,hG];refine⟨by rw[hA.n,hB.at_.n,bP],λhn=> ?_,λhn=> ?_⟩
    ·obtain⟨n1,n2,n3⟩:=hA.nil hn;refine⟨?_,n1⟩
     have e1:xs.length=0:=by rw[<-hB.at_.n];exact n2
     rw[gd e1,gd n3];rfl
    ·obtain⟨je,m1,m2,m3,m4,m5,m6⟩:=hA.mem hn;refine⟨je,m1,m2,m3,m4,λi y j x hy hx=> ?_⟩
     have hj:j<te.ks.length:=by rw[<-hlen y (aQ hy),bU];exact(aT.1 hx).1
     by_cases hi:i<xs.length
     ·rw[dH hi]at hy;have hpn:p.nil=false:=by
       cases hq:p.nil with
       |false=>rfl
       |true=>have:=(hB.at_.nil hq).1;subst this;simp at hi
      obtain⟨vals,k1,k2,k3,k4,k5⟩:=hB.at_.mem hpn;obtain⟨u,hu,hR⟩:=k5 i y j x hy hx;have hk:i*p.sz+j<p.n*p.sz:=by have:(i+1)*p.sz<=p.n*p.sz:=b8 _ (by rw[hB.at_.n];exact hi);rw[dp]at this;rw[hB.sz]at this⊢;omega
      refine⟨u, ?_, ?_⟩
      ·rw[hA.sz,me];refine m5 _ u hk ?_;rw[k1.cell,<-me];exact hu
      ·cases hxb:Dy with
       |true=>
        rw[hxb,bz rfl]at hR;cases X5:O9 with
        |true=>
         rw[bz rfl];have QH:XC E w' g i j u x:=hR.frame (λhl kM=>hA.old _ (by obtain⟨m,ob,_,q2,q3⟩:=hB.owni hxb i j ⟨y,x,hy,hx,hl⟩ kM;exact wO.lt cf ⟨m,ob,q2,q3⟩) (λafn he=>Gne hxb i j ⟨y,x,hy,hx,hl⟩ kM ⟨afn,he⟩));cases x with
         |l e1 z1=>simpa only[XC,G'l i j hi]using QH
         |_=>exact QH
        |false=>rw[bH (by simp)];have:=yH (K:=K') hR (λhl kM=>F5 X5 hxb i j ⟨y,x,hy,hx,hl⟩ kM);exact this.frame F3 (λ_ h=>h)
       |false=>
        have X5:O9=false:=by rw[<-afd,hxb];rfl
        rw[hxb,bH (by simp)]at hR;rw[X5,bH (by simp)];exact hR.frame (λq hq=>F3 q (.inl hq)) (λq hq=> .inl hq)
     ·rw[da (by omega)]at hy;have Jp:i-xs.length<ys.length:=(aT.1 hy).1;have hk:(i-xs.length)*p.sz+j<ys.length*p.sz:=by have:(i-xs.length+1)*p.sz<=ys.length*p.sz:=b8 _ Jp;rw[dp]at this;rw[hB.sz]at this⊢;omega
      have arY:p'.off+i*p'.sz+j=p'.off+p.n*p.sz+((i-xs.length)*p.sz+j):=by
       rw[hA.sz,hB.at_.n];have:i*p.sz=xs.length*p.sz+(i-xs.length)*p.sz:=by rw[<-dp];congr 1;omega
       omega
      have mQ:∀u,news[(i-xs.length)*te.ks.length+j]? =ah u->je[p'.off+i*p'.sz+j]? =ah u:=λu hu=>by rw[arY,m6 _ hk,hB.sz];exact hu
      cases WA:A5 with
      |true=>
       obtain⟨u,hu,hX⟩:=hM.cellX WA _ y j x hy hx;refine⟨u,mQ u hu, ?_⟩
       cases X5:O9 with
       |true=>
        rw[bz rfl];have QH:XC E w' gx (i-xs.length) j u x:=hX.frame (λhl kM=>hA.old _ (by obtain⟨n,ob,_,q2,q3⟩:=hM.own WA _ j ⟨y,x,hy,hx,hl⟩ kM;exact wO.lt cf ⟨n,ob,q2,q3⟩) (λafn he=>by obtain⟨n,ob,q1,q2,q3⟩:=hM.own WA _ j ⟨y,x,hy,hx,hl⟩ kM;exact Dne n _ ob _ q1 q2 q3 ⟨afn,he⟩));cases x with
        |l e1 z1=>simpa only[XC,G'r i j hi]using QH
        |_=>exact QH
       |false=>rw[bH (by simp)];have:=yH (K:=K') hX (λhl kM=>F6 X5 WA _ j ⟨y,x,hy,hx,hl⟩ kM);exact this.frame F3 (λ_ h=>h)
      |false=>
       have X5:O9=false:=by rw[<-afd,WA];simp
       obtain⟨u,hu,hH⟩:=hM.cellH WA _ y j x hy hx;refine⟨u,mQ u hu, ?_⟩
       rw[X5,bH (by simp)];exact hH.frame (λq hq=>F3 q (F4 X5 q hq)) (F4 X5)
   ·rw[hP,hG];refine⟨λi j hh hn hpn he=>(ajt hR i j hh hn).1 ⟨hpn,he⟩,λi j i' j' hh A7 hn kM he=> ?_⟩
    obtain⟨r1,r2⟩:=afe hR;have aa1:∀i j i' j',i<xs.length->¬i'<xs.length->gj (xs++ys) i j->gj (xs++ys) i' j'->(G' i j).nil=ak->(G' i' j').nil=ak->(G' i j).blk≠(G' i' j').blk:=by intro i j i' j' hi mh hh A7 hn kM he;rw[G'l i j hi]at hn he;rw[G'r i' j' mh]at kM he;obtain⟨m,ob,q1,q2,q3⟩:=hB.owni r1 i j (Te i j hi hh) hn;obtain⟨n,ob',s1,s2,s3⟩:=hM.own r2 _ j' (X_ i' j' mh A7) kM;rw[he]at q3;have:=cf.sep m ob n ob' _ q2 s2 q3 s3;subst this;exact(hM.D m _ s1).1 q1
    by_cases hi:i<xs.length
    ·by_cases mh:i'<xs.length
     ·rw[G'l i j hi]at hn he;rw[G'l i' j' mh]at kM he;exact(hB.inn r1).one i j i' j' (Te i j hi hh) (Te i' j' mh A7) hn kM he
     ·exact cJ he (aa1 i j i' j' hi mh hh A7 hn kM)
    ·by_cases mh:i'<xs.length
     ·exact cJ he.symm (aa1 i' j' i j mh hi A7 hh kM hn)
     ·rw[G'r i j hi]at hn he;rw[G'r i' j' mh]at kM he;have:=hM.one r2 _ j _ j' (X_ i j hi hh) (X_ i' j' mh A7) hn kM he;exact⟨by omega,this.2⟩
 ·intro m x q hm pY;rcases mem m x hm with ⟨_,rfl⟩|XP|⟨rfl,rfl⟩
  ·exact pY.elim
  ·obtain⟨_,_,hx⟩:=hM.D m x XP;rcases hx with rfl|⟨_,e',zs,rfl,_⟩
   ·exact pY.elim
   ·exact pY.elim
  ·rcases pY with ⟨hn,rfl⟩|⟨hR,i,j,hh,hn,rfl⟩
   ·rw[hP]at hn⊢;refine⟨?_,λhk=>aiw _ hk ⟨hn,rfl⟩⟩
    rcases F1 hn with h|⟨m,ob,h1,h2,h3⟩
    ·right;omega
    ·exact .inl ⟨m,ob,Ny m h1,h2,h3⟩
   ·rw[hG]at hn⊢;obtain⟨q1,q2⟩:=ajt hR i j hh hn;refine⟨.inl q2, ?_⟩
    rintro (h|⟨h,_⟩)
    ·exact cf.JF q2.own h
    ·rw[hR]at h;cases h
 ·intro m x m' x' q hm xN pY SX;have only:∀m x,(m,x)∈D->fL c' m x q->m=tQ:=by
   intro m x hm pY;rcases mem m x hm with ⟨_,rfl⟩|XP|⟨rfl,rfl⟩
   ·exact pY.elim
   ·obtain⟨_,_,hx⟩:=hM.D m x XP;rcases hx with rfl|⟨_,e',zs,rfl,_⟩
    ·exact pY.elim
    ·exact pY.elim
   ·rfl
  rw[only m x hm pY,only m' x' xN SX]
 ·intro m zs hm;rcases mem m _ hm with ⟨_,h⟩|XP|⟨_,h⟩
  ·cases h
  ·obtain⟨_,_,hx⟩:=hM.D m _ XP;rcases hx with h|⟨_,e',zs,h,_⟩<;>cases h
  ·cases h
 ·rintro q (h|⟨_,h,_⟩)
  ·exact .inl h
  ·exact .inr (.inl h)
 ·intro q hq XQ;refine hA.old q hq (λhn he=>XQ ?_);rcases F1 hn with h|⟨m,ob,h1,h2,h3⟩
  ·omega
  ·rw[he];exact⟨m,ob,Ny m h1,h2,h3⟩
 ·show _=lW (c'.P tQ);rw[hP]
 ·intro m hm;have:m=tQ:=by simpa [cO,bS]using hm
  subst this;exact .inr aiO
end
end Go.FG

namespace Go.FG
theorem Jx:∀{l:az aF} {n:aF},n∈l->mO n l=true:=by
 intro l;induction l with
 |nil=>intro n h;cases h
 |cons m r ih=>
  intro n h;rcases cB.1 h with rfl|h
  ·simp[mO]
  ·simp only[mO,ih h,Kn]
theorem qw{l:az aF}{n:aF}(h:mO n l=ak):n∉l:=λhm=>by rw[Jx hm]at h;cases h
theorem c_.one{E:fQ}{w:bL}{K:aF->Prop}{u:bk}{x:CV}(h:c_ E w K u x):u.oneCell'=true:=by cases h<;>rfl
theorem XO(p:Pl):(lW p).oneCell'=true:=by unfold lW;split<;>rfl
theorem XC.one{E:fQ}{w:bL}{G:aF->aF->Pl}{i j:aF}{u:bk}{x:CV}(h:XC E w G i j u x):u.oneCell'=true:=by
 cases x with
 |l e ys=>rw[h.1];exact XO _
 |i=>rw[show u=_ from h.1];rfl
 |b=>rw[show u=_ from h.1];rfl
 |s=>rw[show u=_ from h.1];rfl
theorem JY{x:CV}:(Qg x).oneCell'=true:=by cases x<;>rfl
theorem w_{α:Type}{b:aX}{x y:Rd α}(h:b=ai):(bif b then x else y)=x:=by rw[h];rfl
theorem ET{α:Type}{b:aX}{x y:Rd α}(h:b=ak):(bif b then x else y)=y:=by rw[h];rfl
theorem sS{α β γ:Type}{σ:St}{a x:α}{b y:β}{c z:γ}(h:(Rd.ret (a,b,c)).val σ=ah (x,y,z)):a=x/\b=y/\c=z:=by obtain⟨h1,h2⟩:=bW (aJ h);obtain⟨h2,h3⟩:=bW h2;exact⟨h1,h2,h3⟩
section
variable {P:c5} {E:fQ} {σ:St} {a:Act} {w:bL} {c:e9} {o:fC} {nm:aF} {e:s8}
theorem Cb(cf:Ok E σ w c){el:aF}{te:TI}(ht:E.ty el=ah te){s:AV}{v:bk}(hs:eM E w c s v){Dy:aX}{xs:aR}{b:az aF}(h:(w9 el s).val σ=ah (Dy,xs,b)):
  ∃p g,Km E σ w c te v Dy xs b p g:=by
 have aj2:∀b,(∀m∈b,∃ob,σ (c8 m)= .o ob)->v= .slice aj 0 0->∀Dy,Km E σ w c te v Dy [] b ⟨ai,0,0,0,0,te.ks.length⟩ (Ly E te.ks):=λb hb hv Dy=>
  ⟨hv,rfl,λy hy=>(by cases hy),⟨rfl,λ_=>⟨rfl,rfl⟩,λh=>(by cases h)⟩,λ_=>wh (λ_ _=>rfl),λh=>(by cases h),λ_ i j ⟨y,x,h,_⟩=>(by simp at h),hb⟩
 cases s with
 |nl=>obtain⟨rfl,rfl,rfl⟩:=sS h;exact⟨_,_,aj2 [] (λm hm=>by cases hm) hs ai⟩
 |own n=>
  obtain⟨ob,hg,h⟩:=Rd.bind_some h;have hg:=dz hg;cases ob with
  |row e' ex ys=>obtain⟨h1,h9⟩:=cR h;have:=aU h1;subst this;have h:=h9;obtain⟨rfl,rfl,rfl⟩:=sS h;obtain⟨⟨t2,q1,q2,q3⟩,q4,q5⟩:=cf.obj n _ hg;obtain rfl:te=t2:=aJ (ht.symm.trans q1);exact⟨c.P n,c.G n,hs,q2,q3,q4,q5,λhn=>⟨n,_,by simp,hg, .inl ⟨hn,rfl⟩⟩,λhx i j hh hn=>⟨n,_,by simp,hg, .inr ⟨hx,i,j,hh,hn,rfl⟩⟩,λm hm=>by rw[aZ]at hm;subst hm;exact⟨_,hg⟩⟩
  |_=>simp at h
 |vw n lo hi=>
  obtain⟨ob,hg,h⟩:=Rd.bind_some h;have hg:=dz hg;cases ob with
  |row e' ex ys=>
   obtain⟨h1,h9⟩:=cR h;have:=aU h1;subst this;have h:=h9;obtain⟨rfl,rfl,rfl⟩:=sS h;obtain⟨⟨t2,q1,q2,q3⟩,q4,q5⟩:=cf.obj n _ hg;obtain rfl:te=t2:=aJ (ht.symm.trans q1);obtain⟨v1,v2,v3,v4⟩:=hs;have hle:hi<=ys.length:=by rw[<-q4.n];exact v2
   have hvl:=mG (xs:=ys) (lo:=lo) hle;have hb:∀m∈[n],∃ob,σ (c8 m)= .o ob:=λm hm=>by rw[aZ]at hm;subst hm;exact⟨_,hg⟩
   cases hq:(c.P n).nil with
   |true=>
    have hy:=(q4.nil hq).1;subst hy;have QG:eA ([]:aR) lo hi=[]:=by unfold eA;simp
    rw[QG];exact⟨_,_,aj2 [n] hb (v3 hq) ex⟩
   |false=>
    obtain⟨vals,k1,k2,k3,k4,k5⟩:=q4.mem hq;rcases v4 hq with ⟨u1,hv⟩|⟨u1,oo,u2,hv⟩
    ·have X9:∀i j,gj (eA ys lo hi) i j->gj ys (lo+i) j:=by
      rintro i j ⟨y,x,h1,h2,h3⟩;rw[uh]at h1;split at h1
      ·exact⟨y,x,h1,h2,h3⟩
      ·cases h1
     refine⟨⟨ak,(c.P n).blk,(c.P n).off+lo*(c.P n).sz,(c.P n).cap-lo,hi-lo,(c.P n).sz⟩,λi j=>c.G n (lo+i) j,hv,q2,λy hy=>q3 y (CJ hy),⟨hvl.symm,λh=>(by cases h),λ_=>⟨vals,k1,by show hi-lo<=(c.P n).cap-lo;omega,by show(c.P n).cap-lo<=maxLen;omega, ?_,λi y j x h1 h2=> ?_⟩⟩,λhx=>⟨λi j hh hn _=>(q5 hx).out _ j (X9 i j hh) hn hq,λi j i' j' hh A7 hn kM he=> ?_⟩,λ_=>⟨n,_,by simp,hg, .inl ⟨hq,rfl⟩⟩,λhx i j hh hn=>⟨n,_,by simp,hg, .inr ⟨hx,lo+i,j,X9 i j hh,hn,rfl⟩⟩,hb⟩
     ·show(c.P n).off+lo*(c.P n).sz+((c.P n).cap-lo)*(c.P n).sz<=vals.size;have:lo*(c.P n).sz+((c.P n).cap-lo)*(c.P n).sz=(c.P n).cap*(c.P n).sz:=by rw[<-dp];congr 1;omega
      omega
     ·rw[uh]at h1;split at h1
      ·obtain⟨u,hu,hr⟩:=k5 (lo+i) y j x h1 h2;refine⟨u, ?_, ?_⟩
       ·show vals[(c.P n).off+lo*(c.P n).sz+i*(c.P n).sz+j]? =ah u;rw[<-hu];congr 1;rw[dp];omega
       ·split at hr
        ·rename_i hx;rw[bz hx];cases x with
         |l e1 z1=>exact hr
         |_=>exact hr
        ·rename_i hx;rw[bH hx];exact hr
      ·cases h1
     ·have:=(q5 hx).one _ j _ j' (X9 i j hh) (X9 i' j' A7) hn kM he;exact⟨by omega,this.2⟩
    ·have h0:hi-lo=0:=by omega
     have QG:eA ys lo hi=[]:=gd (hvl.trans h0);rw[QG];exact⟨⟨ak,(c.P n).blk,oo,0,0,(c.P n).sz⟩,Ly E te.ks,hv,q2,λy hy=>(by cases hy),⟨rfl,λh=>(by cases h),λ_=>⟨vals,k1,cF _,bI _,by show oo+0*(c.P n).sz<=vals.size;rw[Nat.zero_mul];omega,λi y j x h=>(by simp at h)⟩⟩,λ_=>wh (λ_ _=>rfl),λ_=>⟨n,_,by simp,hg, .inl ⟨hq,rfl⟩⟩,λ_ i j ⟨y,x,h,_⟩=>(by simp at h),hb⟩
  |_=>simp at h
 |_=>simp[w9]at h
theorem rO{u:aF}(hu:(∃e',P.underlying u=ah (.slice e'))\/P.underlying u=ah .string){z:du bk}{v:bk}{ys:aR}{ks:az Ck}(ll:0<ks.length){R:aF->aF->bk->CV->Prop}(hs:oz w v ys ks.length R)(mR:∀y∈ys,y.map CV.kd=ks)(h1:∀i j u x,R i j u x->u.oneCell'=ai):
  ∃news,App P w u v z ks.length ys.length news/\∀(i:aF) (y:az CV) (j:aF) (x:CV),ys[i]? =ah y->y[j]? =ah x->∃u:bk,news[i*ks.length+j]? =ah u/\R i j u x:=by
 have hl:∀y∈ys,y.length=ks.length:=λy hy=>by rw[<-mR y hy];simp
 obtain⟨A,cp,news,rfl,n1,n2,n3⟩:=hs.list hl;have first:∀W:bL,(∀q,W.cell? q=w.cell? q)->(fB ks.length ys.length (.slice A ys.length cp)).run P W= .ok news.toArray W:=by
  intro W hW;rcases n2 with h|⟨b,oo,rfl,h⟩
  ·subst h;have hn:news=[]:=gd (by rw[n1];simp);subst hn;cases A with
   |none=>exact run_firstCells_none _ _ _ _ _
   |some a=>exact run_firstCells_some W ks.length 0 a _ _ [] (by simp) (λj v hj=>by simp at hj)
  ·exact run_firstCells_some W ks.length ys.length _ _ _ news n1 (λj v hj=>by rw[hW,Addr.oa];exact h j v hj)
 refine⟨news,⟨.inl ⟨hu,by simp[pJ],first w (λ_=>rfl),first w.drew (λ_=>rfl)⟩,n1,λv hv=> ?_⟩,n3⟩
 obtain⟨q,hq⟩:=bY hv;have XW:q<ys.length*ks.length:=by rw[<-n1];exact(aT.1 hq).1
 have hi:q/ks.length<ys.length:=by rw[yK ll];exact XW
 have hj:q%ks.length<ys[q/ks.length].length:=by rw[hl _ (bC hi)];exact Dx _ ll
 obtain⟨u',sD,hr⟩:=n3 (q/ks.length) ys[q/ks.length] (q%ks.length) (ys[q/ks.length][q%ks.length]) (by simp[hi]) (by simp[hj]);have:q/ks.length*ks.length+q%ks.length=q:=by have:=J_ q ks.length;rw[EA]at this;exact this
 rw[this,hq]at sD;cases sD;exact h1 _ _ _ _ hr
theorem T0(hE:eH P E)(cf:Ok E σ w c){tQ el:aF}{te:TI}(ht:E.ty el=ah te)(ll:0<te.ks.length){u:aF}(hu:(∃e',P.underlying u=ah (.slice e'))\/P.underlying u=ah .string){z:du bk}{b:az aF}{x:AV}{v:bk}(hx:eM E w c x v)
  {A5:aX} {ys:aR} {w2:az (aF×eT)} (h:(TZ E tQ el te.ks b x).val σ=ah (A5,ys,w2)):
  ∃D news gx,w2=kq D/\App P w u v z te.ks.length ys.length news/\rC E σ w c te b A5 ys D news gx:=by
 have inK:∀D q,c.K q->K1 σ c D q:=λD q h=> .inl h;have PL:plain te.ks=ai->∀ys,oz w v ys te.ks.length (λ_ _ u x=>Sc u x)->(∀y∈ys,y.map CV.kd=te.ks)->∃D news gx,([]:az (aF×eT))=kq D/\App P w u v z te.ks.length ys.length news/\rC E σ w c te b ai ys D news gx:=by
  intro hp ys hs mR;obtain⟨news,n1,n2⟩:=rO (P:=P) (z:=z) hu ll hs mR (λi j u x hr=>by rw[hr.1];exact JY);refine⟨[],news,λ_ _=>⟨ai,0,0,0,0,0⟩,rfl,n1,mR,λ_ i y j x hy hx=> ?_,λh=>(by cases h),λ_ i j _ hn=>(by cases hn),λ_ i j _ _ _ _ hn=>(by cases hn),λn x hn=>(by cases hn)⟩
  obtain⟨u,hu,hr⟩:=n2 i y j x hy hx;exact⟨_,hu,uQ (iw hp (mR y (aQ hy)) hx) hr⟩
 have PLr:plain te.ks=ai->∀ys,(mJ E x).val σ=ah (el,ys)->∃D news gx,([]:az (aF×eT))=kq D/\App P w u v z te.ks.length ys.length news/\rC E σ w c te b ai ys D news gx:=by intro hp ys hr;obtain⟨q1,q2,_⟩:=Ay cf hx hr ht hp;exact PL hp ys q1 q2
 have SH:∀ys,oz w v ys te.ks.length (λ_ _ u x=>c_ E w c.K u x)->(∀y∈ys,y.map CV.kd=te.ks)->∃D news gx,([]:az (aF×eT))=kq D/\App P w u v z te.ks.length ys.length news/\rC E σ w c te b ak ys D news gx:=by
  intro ys hs mR;obtain⟨news,n1,n2⟩:=rO (P:=P) (z:=z) hu ll hs mR (λi j u x hr=>hr.one);refine⟨[],news,λ_ _=>⟨ai,0,0,0,0,0⟩,rfl,n1,mR,λh=>(by cases h),λ_ i y j x hy hx=> ?_,λh=>(by cases h),λh=>(by cases h),λn x hn=>(by cases hn)⟩
  obtain⟨u,hu,hr⟩:=n2 i y j x hy hx;exact⟨_,hu,hr.frame (λ_ _=>rfl) (inK [])⟩
 have SHv:∀ys,c_ E w c.K v (.l el ys)->∃D news gx,([]:az (aF×eT))=kq D/\App P w u v z te.ks.length ys.length news/\rC E σ w c te b ak ys D news gx:=by intro ys hh;obtain⟨q1,q2⟩:=zV ht hh;exact SH ys q1 q2
 have HP:∀ys,c_ E w c.K v (.l el ys)->(mJ E x).val σ=ah (el,ys)->∃D news gx,([]:az (aF×eT))=kq D/\App P w u v z te.ks.length ys.length news/\rC E σ w c te b (plain te.ks) ys D news gx:=by
  intro ys hh hr;cases hp:plain te.ks with
  |true=>exact PLr hp ys hr
  |false=>exact SHv ys hh
 have FZ:∀n xs lo hi,σ (c8 n)= .o (.row el ai xs)->n∉b->w8 (c.P n) lo hi v->∃D news gx,[(c8 n,eT.o (.fT el xs))]=kq D/\App P w u v z te.ks.length (eA xs lo hi).length news/\rC E σ w c te b ak (eA xs lo hi) D news gx:=by
  intro n xs lo hi hg Lf hv;obtain⟨⟨t2,q1,q2,q3⟩,q4,q5⟩:=cf.obj n _ hg;obtain rfl:te=t2:=aJ (ht.symm.trans q1);obtain⟨t3,r1,r2,r3⟩:=x_ cf hg hv;obtain rfl:te=t3:=aJ (ht.symm.trans r1);let D:az (aF×Obj):=[(n, .fT el xs)]
  have kin:∀i j,gj xs i j->(c.G n i j).nil=ak->K1 σ c D (c.G n i j).blk:=λi j hh hn=> .inr ⟨n,el,xs,_,aZ.2 rfl,hg, .inr ⟨rfl,i,j,hh,hn,rfl⟩⟩;have gf:jl w (c.P n) xs (λ_ _ u x=>c_ E w (K1 σ c D) u x):=q4.frame (λ_=>rfl) (λi j y x u hy hx hr=>by rw[bz rfl]at hr;exact yH hr (λhl hn=>kin i j ⟨y,x,hy,hx,hl⟩ hn));have D9:oz w v (eA xs lo hi) te.ks.length (λ_ _ u x=>c_ E w (K1 σ c D) u x):=by have:=L_ gf hv;rwa[q2]at this
  obtain⟨news,n1,n2⟩:=rO (P:=P) (z:=z) hu ll D9 r2 (λi j u x hr=>hr.one);refine⟨D,news,λ_ _=>⟨ai,0,0,0,0,0⟩,rfl,n1,r2,λh=>(by cases h),λ_=>n2,λh=>(by cases h),λh=>(by cases h),λm y hm=> ?_⟩
  rw[aZ]at hm;cases hm;exact⟨Lf,⟨_,hg⟩, .inr ⟨rfl,el,xs,rfl,qb ht q2 q3 gf (λhn=> .inr ⟨n,el,xs,_,aZ.2 rfl,hg, .inl ⟨hn,rfl⟩⟩),q4.n,te,ht,q2⟩⟩
 cases x with
 |s s=>
  obtain⟨h1,h⟩:=cR h;obtain⟨rfl,rfl,rfl⟩:=sS h;have hk:te.ks=[.i .u8]:=by
   unfold u8s at h1;split at h1
   ·assumption
   ·cases h1
  have hv:v= .string s:=hx.1;subst hv;refine⟨[],(s.data.map λb=>Value.int .u8 b.toNat).toList,λ_ _=>⟨ai,0,0,0,0,0⟩,rfl,⟨.inl ⟨hu, ?_, ?_, ?_⟩, ?_, ?_⟩,by rw[hk];exact JQ s,λ_ i y j x hy hx=> ?_,λh=>(by cases h),λ_ i j _ hn=>(by cases hn),λ_ i j _ _ _ _ hn=>(by cases hn),λn x hn=>(by cases hn)⟩
  ·simp[pJ,mj]
  ·simp[fB,mj];apply sH;simp
  ·simp[fB,mj];apply sH;simp
  ·rw[hk,mj];simp
  ·intro v hv;have hv:∃b,b∈s.data/\Value.int bh (b.toNat:aw)=v:=by simpa using hv
   obtain⟨b,_,rfl⟩:=hv;rfl
  ·obtain⟨rfl,b,hb,rfl⟩:=HD hy hx;refine⟨.int .u8 b.toNat, ?_,rfl,trivial⟩
   rw[hk];simp[hb]
 |nl=>obtain⟨rfl,rfl,rfl⟩:=sS h;have hv:v= .slice aj 0 0:=hx;subst hv;refine⟨[],[],λ_ _=>⟨ai,0,0,0,0,0⟩,rfl,⟨.inl ⟨hu,by simp[pJ],run_firstCells_none _ _ _ _ _,run_firstCells_none _ _ _ _ _⟩,by simp,λv hv=>(by cases hv)⟩,λy hy=>(by cases hy),λ_ i y j x hy=>(by simp at hy),λh=>(by cases h),λ_ i j _ hn=>(by cases hn),λ_ i j _ _ _ _ hn=>(by cases hn),λn x hn=>(by cases hn)⟩
 |sh e' xs=>obtain⟨h1,h9⟩:=cR h;have:=aU h1;subst this;have h:=h9;obtain⟨rfl,rfl,rfl⟩:=sS h;exact HP xs hx rfl
 |own n=>
  obtain⟨ob,hg,h⟩:=Rd.bind_some h;have hg:=dz hg;have hv:v=lW (c.P n):=hx;cases ob with
  |row e' ex xs=>
   obtain⟨h1,h9⟩:=cR h;have:=aU h1;subst this;have h:=h9;have Jn:(mJ E (.own n)).val σ=ah (el,xs):=by simp[mJ,jP,hg]
   have Wz:w8 (c.P n) 0 xs.length v:=by rw[hv];exact wu cf hg
   cases hp:plain te.ks with
   |true=>rw[w_ (by rw[hp];rfl)]at h;obtain⟨rfl,rfl,rfl⟩:=sS h;rw[hp];exact PLr hp xs Jn
   |false=>
    cases ex with
    |false=>rw[w_ (by simp)]at h;obtain⟨rfl,rfl,rfl⟩:=sS h;rw[hp];obtain⟨t3,r1,r2,r3⟩:=x_ cf hg Wz;obtain rfl:te=t3:=aJ (ht.symm.trans r1);rw[qY]at r2 r3;exact SH xs (r3.imp λi y j x u _ _ hr=>by simpa using hr) r2
    |true=>
     rw[ET (by rw[hp];rfl)]at h;cases hm:mO n b with
     |true=>rw[hm]at h;simp at h
     |false=>
      have Lf:=qw hm;rw[hm]at h;cases Hg:E.tk tQ with
      |true=>rw[Hg]at h;obtain⟨rfl,rfl,rfl⟩:=sS h;have:=FZ n xs 0 xs.length hg Lf Wz;rwa[qY]at this
      |false=>
       rw[Hg]at h;obtain⟨rfl,rfl,rfl⟩:=sS h;obtain⟨t3,r1,r2,r3⟩:=x_ cf hg Wz;obtain rfl:te=t3:=aJ (ht.symm.trans r1);rw[qY]at r2 r3;have r3':=r3.imp (R':=λi j u x=>XC E w (c.G n) i j u x) (λi y j x u _ _ hr=>by rw[bz rfl,bV]at hr;exact hr);obtain⟨news,n1,n2⟩:=rO (P:=P) (z:=z) hu ll r3' r2 (λi j u x hr=>hr.one);refine⟨[(n, .dead)],news,c.G n,rfl,n1,r2,λ_=>n2,λh=>(by cases h),λ_ i j hh hn=>⟨n,_,aZ.2 rfl,hg, .inr ⟨rfl,i,j,hh,hn,rfl⟩⟩,λ_=>((cf.obj n _ hg).inn rfl).one,λm y hm=> ?_⟩
       rw[aZ]at hm;cases hm;exact⟨Lf,⟨_,hg⟩, .inl rfl⟩
  |fT e' xs=>obtain⟨h1,h9⟩:=cR h;have:=aU h1;subst this;have h:=h9;obtain⟨rfl,rfl,rfl⟩:=sS h;refine HP xs ?_ (by simp[mJ,jP,hg]);rw[hv];exact(cf.obj n _ hg).1
  |_=>simp at h
 |vw n lo hi=>
  obtain⟨ob,hg,h⟩:=Rd.bind_some h;have hg:=dz hg;cases ob with
  |row e' ex xs=>
   obtain⟨h1,h9⟩:=cR h;have:=aU h1;subst this;have h:=h9;have Jn:(mJ E (.vw n lo hi)).val σ=ah (el,eA xs lo hi):=by simp[mJ,jP,hg]
   cases hp:plain te.ks with
   |true=>rw[w_ (by rw[hp];rfl)]at h;obtain⟨rfl,rfl,rfl⟩:=sS h;rw[hp];exact PLr hp _ Jn
   |false=>
    cases ex with
    |false=>rw[w_ (by simp)]at h;obtain⟨rfl,rfl,rfl⟩:=sS h;rw[hp];obtain⟨t3,r1,r2,r3⟩:=x_ cf hg hx;obtain rfl:te=t3:=aJ (ht.symm.trans r1);exact SH _ (r3.imp λi y j x u _ _ hr=>by simpa using hr) r2
    |true=>
     rw[ET (by rw[hp];rfl)]at h;cases hm:mO n b with
     |true=>rw[hm]at h;simp at h
     |false=>
      have Lf:=qw hm;rw[hm]at h;cases Hg:E.tk tQ with
      |true=>rw[Hg]at h;obtain⟨rfl,rfl,rfl⟩:=sS h;exact FZ n xs lo hi hg Lf hx
      |false=>rw[Hg]at h;simp at h
  |fT e' xs=>obtain⟨h1,h9⟩:=cR h;have:=aU h1;subst this;have h:=h9;obtain⟨rfl,rfl,rfl⟩:=sS h;exact HP _ (pC cf hg hx) (by simp[mJ,jP,hg])
  |_=>simp at h
 |inn n i j=>obtain⟨h1,h⟩:=cR h;obtain⟨⟨e',xs⟩,h2,h⟩:=Rd.bind_some h;obtain⟨h3,h9⟩:=cR h;have:=aU h3;subst this;have h:=h9;obtain⟨rfl,rfl,rfl⟩:=sS h;exact PLr h1 xs h2
 |_=>simp[TZ]at h
theorem PU(hE:eH P E)(cf:Ok E σ w c)(dK:fE E σ a w c)(hd:∀d,o.dst=ah d->d<a.tmps.size){cl:Call}(ho:o.op= .call cl)(hb:cl.callee= .builtin .append)(h:(ml E nm o).val σ=ah e)(hc:e.cond=ai):gZ P E σ a w c o e.ws:=by
 simp only[ml,ho,hb]at h;split at h
 ·rename_i s x t u sB aft;obtain⟨ku,h1,h⟩:=Rd.bind_some h;obtain⟨sv,h2,h⟩:=Rd.bind_some h;obtain⟨xv,h3,h⟩:=Rd.bind_some h;obtain⟨es,_⟩:=jb dK h2;obtain⟨ex,_⟩:=jb dK h3;have sB:=Dk sB;have aft:=Dk aft;have exec:∀{r w'},(iy #[t,u] o.type #[a.eval s,a.eval x]).run P w= .ok r w'->(execOp a.eval o).run P w= .ok (.value r) w':=by intro r w' hr;obtain⟨cs,H6⟩:=mZ (P:=P) (a:=a) (w:=w) ho hb;rw[H6,sB,aft];simp only[builtin,DJ,fD,B0];exact ja hr
  have APP:((∃e',P.underlying u=ah (.slice e'))\/P.underlying u=ah .string)->∀b v wl,(GQ E nm t sv xv).val σ=ah (b,v,wl)->b=ai->gZ P E σ a w c o (wl++dw o (.v ak [v])):=by
   intro hu b v wl h hbt;obtain⟨ti,k1,h⟩:=Rd.bind_some h;have k1:=dW k1;split at h
   ·rename_i el uG A_;obtain⟨te,k2,h⟩:=Rd.bind_some h;have k2:=dW k2;obtain⟨zF,h⟩:=cR h;obtain⟨⟨Dy,xs,bl⟩,k3,h⟩:=Rd.bind_some h;obtain⟨⟨A5,ys,w2⟩,k4,h⟩:=Rd.bind_some h;obtain⟨_,k5,h⟩:=Rd.bind_some h;obtain⟨rfl,rfl,rfl⟩:=sS h;obtain⟨hf,jD⟩:=kL k5;have ht:=pr hE k1 uG A_;obtain⟨inf,hi,gh,hby,ll,hz⟩:=hE.info el te k2;obtain⟨z,Kd,Ea,_⟩:=hz zF;obtain⟨p,g,hB⟩:=Cb cf k2 es k3;obtain⟨D,news,gx,rfl,hA,hM⟩:=T0 (P:=P) (z:=z.cells) hE cf k2 ll hu ex k4;simp only[cw,aL,bf]at hbt;obtain⟨p',w',hr,hAd⟩:=t_ (P:=P) (w:=w) (ty:=o.type) (p:=p) (x:=a.eval x) ht hi Kd (by rw[Ea,hB.sz];simp) (by rw[gh,hB.sz]) (λhn=>by rw[hB.at_.n,(hB.at_.nil hn).1];rfl) (λhn=>by obtain⟨vals,m1,m2,m3,m4,_⟩:=hB.at_.mem hn;exact⟨vals,m1,m2,m3,m4⟩) (by rw[hB.sz];exact hA) (by rw[hB.at_.n,hby];exact hbt.1) (by rw[hB.at_.n];exact hbt.2);rw[<-hB.v]at hr;exact E6 cf dK hd k2 hf jD hB hM hAd (exec hr)
   ·simp at h
  have ZER:∀k,P.underlying u=ah (.int k)->∀(kn:nA) (n:aw),a.eval x= .int kn n->∀b v wl,(Wb E nm t sv n).val σ=ah (b,v,wl)->b=ai->gZ P E σ a w c o (wl++dw o (.v ak [v])):=by
   intro k hu kn n hxn b v wl h hbt;obtain⟨ti,k1,h⟩:=Rd.bind_some h;have k1:=dW k1;split at h
   ·rename_i el uG A_;obtain⟨te,k2,h⟩:=Rd.bind_some h;have k2:=dW k2;obtain⟨QE,h⟩:=cR h;simp only[aL]at QE;obtain⟨zF,Pt⟩:=QE;obtain⟨⟨Dy,xs,bl⟩,k3,h⟩:=Rd.bind_some h;obtain⟨_,k5,h⟩:=Rd.bind_some h;obtain⟨rfl,rfl,rfl⟩:=sS h;obtain⟨hf,jD⟩:=kL k5;have ht:=pr hE k1 uG A_;obtain⟨inf,hi,gh,hby,ll,hz⟩:=hE.info el te k2;obtain⟨z,Kd,Ea,_⟩:=hz zF;obtain⟨p,g,hB⟩:=Cb cf k2 es k3;simp only[cw,aL,bf]at hbt;obtain⟨⟨c0,c1,c2⟩,c3⟩:=hbt;have Ll:(aP te.ks n.toNat).length=n.toNat:=by simp[aP]
    have hzc:fN z.cells n.toNat=madeCells (te.ks.map iN).toArray (n.toNat*te.ks.length):=by rw[Ea];show madeCells _ (n.toNat*(te.ks.map iN).toArray.size)=_;simp
    have hA:App P w u (a.eval x) z.cells te.ks.length (aP te.ks n.toNat).length (fN z.cells n.toNat).toList:=by
     refine⟨.inr ⟨⟨k,hu⟩,⟨kn, ?_⟩, ?_⟩, ?_,λv hv=> ?_⟩
     ·rw[hxn,Ll,Int.toNat_of_nonneg c0]
     ·rw[Ll]
     ·rw[Ll,dR,size_zeroCells,Ea];simp
     ·rw[hzc]at hv;obtain⟨q,hq⟩:=bY hv;have XW:q<n.toNat*te.ks.length:=by have:=(aT.1 hq).1;simpa [size_madeCells]using this
      have h1:q/te.ks.length<n.toNat:=by rw[yK ll];exact XW
      have h2:q%te.ks.length<te.ks.length:=Dx _ ll;have:=lX (n:=n.toNat) h1 (show te.ks[q%te.ks.length]? =ah te.ks[q%te.ks.length]by simp[h2]);rw[show q/te.ks.length*te.ks.length+q%te.ks.length=q by have:=J_ q te.ks.length;rw[EA]at this;exact this]at this;rw[cY,this]at hq;cases hq;cases te.ks[q%te.ks.length]<;>rfl
    have hM:rC E σ w c te bl ai (aP te.ks n.toNat) [] (fN z.cells n.toNat).toList (Ly E te.ks):=by
     refine⟨yI zF _,λ_ i y j x hy hx=> ?_,λh=>(by cases h),λ_ i j _ hn=>(by cases hn),λ_ i j _ _ _ _ hn=>(by cases hn),λn x hn=>(by cases hn)⟩
     obtain⟨gg,k,hk,rfl⟩:=uT hy hx;refine⟨iN k, ?_,OJ Pt zF hk⟩
     rw[hzc,cY];exact lX gg hk
    obtain⟨p',w',hr,hAd⟩:=t_ (P:=P) (w:=w) (ty:=o.type) (p:=p) (x:=a.eval x) ht hi Kd (by rw[Ea,hB.sz];simp) (by rw[gh,hB.sz]) (λhn=>by rw[hB.at_.n,(hB.at_.nil hn).1];rfl) (λhn=>by obtain⟨vals,m1,m2,m3,m4,_⟩:=hB.at_.mem hn;exact⟨vals,m1,m2,m3,m4⟩) (by rw[hB.sz];exact hA) (by rw[hB.at_.n,hby,Ll];exact c1) (by rw[hB.at_.n,Ll];exact c2);rw[<-hB.v]at hr;have:=E6 cf dK hd k2 hf jD hB hM hAd (exec hr);rw[ju]at this;exact this
   ·simp at h
  cases ku with
  |i k=>
   cases xv with
   |i k' n=>obtain⟨⟨b,v,wl⟩,h4,h⟩:=Rd.bind_some h;obtain rfl:=aJ h;exact ZER k (zI hE h1) k' n ex b v wl h4 hc
   |_=>simp at h
  |l e'=>obtain⟨⟨b,v,wl⟩,h4,h⟩:=Rd.bind_some h;obtain rfl:=aJ h;exact APP (.inl ⟨e',kP hE h1⟩) b v wl h4 hc
  |s=>obtain⟨⟨b,v,wl⟩,h4,h⟩:=Rd.bind_some h;obtain rfl:=aJ h;exact APP (.inr (lu hE h1)) b v wl h4 hc
  |b=>simp at h
  |o=>simp at h
 ·simp at h
end
end Go.FG

namespace Go.FG
section
variable {P:c5} {E:fQ} {σ:St} {a:Act} {w:bL} {c:e9} {o:fC} {nm:aF} {e:s8}
theorem Xm:∀{xs:az AV} {cs:az CV},(Sq.aeM xs).val σ=ah cs->cs.length=xs.length/\∀(vals:du bk),fZ E w c vals xs->∀(q:aF) (x:CV),cs[q]? =ah x->∃u:bk,vals[q]? =ah u/\c_ E w c.K u x:=by
 intro xs;induction xs with
 |nil=>intro cs h;obtain rfl:=aJ h;exact⟨rfl,λ_ _ q x hq=>by simp at hq⟩
 |cons a xs ih=>
  intro cs h;obtain⟨l,h1,h⟩:=Rd.bind_some h;obtain⟨i1,i2⟩:=ih h1;have main:∀cv,(∀u,eM E w c a u->c_ E w c.K u cv)->cs=cv::l->cs.length=(a::xs).length/\∀(vals:du bk),fZ E w c vals (a::xs)->∀(q:aF) (x:CV),cs[q]? =ah x->∃u:bk,vals[q]? =ah u/\c_ E w c.K u x:=by
   rintro cv hcv rfl;refine⟨by simp[i1],λvals hv q x hq=> ?_⟩
   cases q with
   |zero=>cases hq;obtain⟨u,hu,ha⟩:=hv.2 0 a rfl;exact⟨u,hu,hcv u ha⟩
   |succ q=>
    have ND:fZ E w c (vals.extract 1 vals.size) xs:=by
     refine⟨by simp;have:=hv.1;simp at this;omega,λj b hj=> ?_⟩
     obtain⟨u,hu,hb⟩:=hv.2 (j+1) b hj;refine⟨u, ?_,hb⟩
     have:=(dU.1 hu).1;rw[ea,bz (by omega),jc];exact hu
    obtain⟨u,r1,r2⟩:=i2 _ ND q x hq;refine⟨u, ?_,r2⟩
    rw[ea]at r1;split at r1
    ·rw[jc];exact r1
    ·cases r1
  cases a with
  |i k n=>exact main (.i k n) (λu hu=>by rw[show u=_ from hu];exact .i _ _) (aJ h).symm
  |b x=>exact main (.b x) (λu hu=>by rw[show u=_ from hu];exact .b _) (aJ h).symm
  |s x=>exact main (.s x) (λu hu=>by rw[show u=_ from hu.1];exact .s _ hu.2) (aJ h).symm
  |sh e xs=>exact main (.l e xs) (λu hu=>hu) (aJ h).symm
  |_=>simp at h
def ahK(E:fQ)(σ:St)(w:bL)(c:e9)(D:az (aF×Obj))(cs:az CV)(v:bk):Prop:=
 ∃n,v= .pointer (ah (ad (c.P n).blk 0))/\(((n,Obj.od cs)∈D)\/σ (c8 n)= .o (.od cs))
theorem Xn(cf:Ok E σ w c)(dK:fE E σ a w c):∀{xs:az dy} {l:az (az CV)} {ws:az (aF×eT)},(Sq xs).val σ=ah (l,ws)->l.length=xs.length/\∃D,ws=kq D/\
  (∀n x,(n,x)∈D->∃cs ys,x= .od cs/\σ (c8 n)= .o (.box ys)/\∀(q:aF) (y:CV),cs[q]? =ah y->∃u:bk,w.cell? (ad (c.P n).blk q)=ah u/\c_ E w c.K u y)/\
  ∀(q:aF) (cs:az CV),l[q]? =ah cs->∃x,xs[q]? =ah x/\ahK E σ w c D cs (a.eval x):=by
 intro xs;induction xs with
 |nil=>intro l ws h;obtain⟨rfl,rfl⟩:=bW (aJ h);exact⟨rfl,[],rfl,λn x h=>(by cases h),λq cs h=>by simp at h⟩
 |cons x xs ih=>
  intro l ws h;obtain⟨v,h1,h⟩:=Rd.bind_some h;have hv:=(jb dK h1).1;split at h
  ·rename_i n;obtain⟨ob,hg,h⟩:=Rd.bind_some h;have hg:=dz hg;have hv:a.eval x= .pointer (ah (ad (c.P n).blk 0)):=hv;cases ob with
   |box ys=>
    obtain⟨cs,h2,h⟩:=Rd.bind_some h;obtain⟨⟨l',Ek⟩,h3,h⟩:=Rd.bind_some h;obtain⟨rfl,rfl⟩:=bW (aJ h);obtain⟨i1,D,rfl,i2,i3⟩:=ih h3;obtain⟨_,c2⟩:=Xm (E:=E) (w:=w) (c:=c) h2;obtain⟨vals,hb,gh,hcv⟩:=cf.obj n _ hg;refine⟨by simp[i1],(n, .od cs)::D,rfl,λm y hm=> ?_,λq cs' hq=> ?_⟩
    ·rcases cB.1 hm with hm|hm
     ·cases hm;refine⟨cs,ys,rfl,hg,λq y hq=> ?_⟩
      obtain⟨u,hu,hh⟩:=c2 vals ⟨gh,hcv⟩ q y hq;exact⟨u,(hb.cell q).trans hu,hh⟩
     ·exact i2 m y hm
    ·cases q with
     |zero=>cases hq;exact⟨x,rfl,n,hv, .inl (dq ..)⟩
     |succ q=>obtain⟨x',pL,m,e1,e2⟩:=i3 q cs' hq;exact⟨x',pL,m,e1,e2.imp (c7 _) id⟩
   |od cs=>
    obtain⟨⟨l',Ek⟩,h3,h⟩:=Rd.bind_some h;obtain⟨rfl,rfl⟩:=bW (aJ h);obtain⟨i1,D,rfl,i2,i3⟩:=ih h3;refine⟨by simp[i1],D,rfl,i2,λq cs' hq=> ?_⟩
    cases q with
    |zero=>cases hq;exact⟨x,rfl,n,hv, .inr hg⟩
    |succ q=>exact i3 q cs' hq
   |_=>simp at h
  ·simp at h
theorem JH(cf:Ok E σ w c)(dK:fE E σ a w c)(hd:∀d,o.dst=ah d->d<a.tmps.size){fn:Fn}{first iX:du dy}(ho:o.op= .makeFunc fn first iX)(h:(ml E nm o).val σ=ah e):gZ P E σ a w c o e.ws:=by
 cases fn with
 |func f=>
  simp only[ml,ho]at h;obtain⟨h1,h⟩:=cR h;obtain⟨⟨l,ws⟩,h2,h⟩:=Rd.bind_some h;obtain rfl:=aJ h;obtain⟨hl,D,rfl,hD,Ps⟩:=Xn cf dK h2;have H7:first= #[]:=by simpa using h1
  let K':aF->Prop:=λb=>c.K b\/∃n x,(n,x)∈D/\b=(c.P n).blk;let c':e9:=⟨c.P,c.G,K'⟩
  have kin:∀b,c.K b->K' b:=λb h=> .inl h;have own:∀n x,(n,x)∈D->ka (uV D) σ c (c.P n).blk:=λn x hm=>by obtain⟨cs,ys,_,hg,_⟩:=hD n x hm;exact⟨n,_,⟨x,hm⟩,hg,rfl⟩
  have fb:∀n cs,(n,Obj.od cs)∈D->FB E w K' (c.P n).blk cs:=λn cs hm=>by obtain⟨cs',ys,hx,hg,hc⟩:=hD n _ hm;cases hx;exact⟨.inr ⟨n,_,hm,rfl⟩,λq x hq=>by obtain⟨u,hu,hh⟩:=hc q x hq;exact⟨u,hu,hh.frame (λ_ _=>rfl) kin⟩⟩
  refine K5 cf dK hd (c':=c') (w':=w) (v:= .func (.func f) #[] (iX.map a.eval)) (λm _=>⟨rfl,rfl⟩) ?_ ?_ ?_ ?_ kin ?_ ?_ (λb _ _=>rfl) (cF _) rfl rfl rfl ?_ ?_ ?_
  ·intro n x hm;obtain⟨cs,ys,rfl,hg,hc⟩:=hD n x hm;exact fb n cs hm
  ·intro n x b hm hf;obtain⟨cs,ys,rfl,_⟩:=hD n x hm;exact hf.elim
  ·intro n x n' x' b hm _ hf;obtain⟨cs,ys,rfl,_⟩:=hD n x hm;exact hf.elim
  ·intro n xs hm;obtain⟨cs,ys,hx,_⟩:=hD n _ hm;cases hx
  ·rintro b (h|⟨n,x,hm,rfl⟩)
   ·exact .inl h
   ·exact .inr (.inl (own n x hm))
  ·rintro b (h|⟨n,x,hm,rfl⟩)
   ·exact cf.lt b h
   ·exact wO.lt cf (own n x hm).own
  ·refine⟨iX.map a.eval,rfl,by simp[hl],λq cs hq=> ?_⟩
   obtain⟨x,hx,n,hv,hor⟩:=Ps q cs hq;rw[cY]at hx;refine⟨(c.P n).blk,by rw[OM,hx,<-hv];rfl, ?_⟩
   rcases hor with hm|hg
   ·exact fb n cs hm
   ·exact FB.frame (cf.obj n _ hg) (λ_ _=>rfl) kin
  ·intro n hn;simp[cO,bS]at hn
  ·unfold execOp;rw[ho,H7];refine ja (s:=Wg (.func f) ((#[]:du dy).map a.eval) (iX.map a.eval)) ?_;simp[Wg]
 |_=>simp[ml,ho]at h
end
end Go.FG

namespace Go.FG
theorem n6:∀{l:az (aF×eT)} {k:aF} {c:eT},fM l k=c->c≠ .j9->(k,c)∈l:=by
 intro l;induction l with
 |nil=>intro k c h hc;exact cJ h.symm hc
 |cons d l ih=>
  obtain⟨k',c'⟩:=d;intro k c h hc;unfold fM at h;cases hb:bD k k' with
  |true=>rw[hb]at h;have:=aU hb;subst this;have:c'=c:=h;subst this;exact dq ..
  |false=>rw[hb]at h;exact c7 _ (ih h hc)
theorem si:∀{l:az (aF×eT)} {k:aF} {c:eT},(k,c)∈l->(∀d∈l,d.2≠ .j9)->fM l k≠ .j9:=by
 intro l;induction l with
 |nil=>intro k c h;cases h
 |cons d l ih=>
  obtain⟨k',c'⟩:=d;intro k c h hn;unfold fM;cases hb:bD k k' with
  |true=>exact hn _ (dq ..)
  |false=>
   rcases cB.1 h with h|h
   ·cases h;simp at hb
   ·exact ih h (λd hd=>hn d (c7 _ hd))
theorem PO{nm:aF}{a:AA}{k:aF}{c:eT}:(k,c)∈Ff nm a↔∃e ex xs,a= .ow e ex xs/\k=c8 nm/\c= .o (.row e ex xs):=by
 cases a with
 |ow e ex xs=>simp only[Ff,aZ,ji];exact⟨λ⟨h1,h2⟩=>⟨e,ex,xs,rfl,h1,h2⟩,λ⟨e',uE,Mi,h,h1,h2⟩=>by cases h;exact⟨h1,h2⟩⟩
 |_=>simp[Ff]
theorem CH:∀{xs:az AA} {nm:aF} {k:aF} {c:eT},(k,c)∈tL nm xs↔∃j e ex ys,xs[j]? =ah (.ow e ex ys)/\k=c8 (nm+j)/\c= .o (.row e ex ys):=by
 intro xs;induction xs with
 |nil=>intro nm k c;simp[tL]
 |cons a xs ih=>
  intro nm k c;simp only[tL,ba,PO,ih];constructor
  ·rintro (⟨e,ex,ys,rfl,h1,h2⟩|⟨j,e,ex,ys,h0,h1,h2⟩)
   ·exact⟨0,e,ex,ys,rfl,h1,h2⟩
   ·exact⟨j+1,e,ex,ys,h0,by rw[h1];congr 1;omega,h2⟩
  ·rintro ⟨j,e,ex,ys,h0,h1,h2⟩;cases j with
   |zero=>cases h0;exact .inl ⟨e,ex,ys,rfl,h1,h2⟩
   |succ j=>exact .inr ⟨j,e,ex,ys,h0,by rw[h1];congr 1;omega,h2⟩
theorem iD{p:aF}{a:fw}{k:aF}{c:eT}:(k,c)∈vB p a↔(∃xs,a= .pt xs/\k=c8 (dS p 900)/\c= .o (.box (gz (dS p 0) xs)))\/∃xs j e ex ys,((∃g,a= .v g xs)\/a= .pt xs)/\xs[j]? =ah (.ow e ex ys)/\k=c8 (dS p j)/\c= .o (.row e ex ys):=by
 have hn:∀j,dS p 0+j=dS p j:=λj=>by unfold dS;omega
 cases a with
 |v g xs=>
  simp only[vB,CH,hn];constructor
  ·rintro ⟨j,e,ex,ys,h⟩;exact .inr ⟨xs,j,e,ex,ys, .inl ⟨g,rfl⟩,h⟩
  ·rintro (⟨Mi,h,_⟩|⟨Mi,j,e,ex,ys,h,h'⟩)
   ·cases h
   ·rcases h with ⟨g',h⟩|h<;>cases h;exact⟨j,e,ex,ys,h'⟩
 |pt xs=>
  simp only[vB,cB,CH,hn,ji];constructor
  ·rintro (⟨h1,h2⟩|⟨j,e,ex,ys,h⟩)
   ·exact .inl ⟨xs,rfl,h1,h2⟩
   ·exact .inr ⟨xs,j,e,ex,ys, .inr rfl,h⟩
  ·rintro (⟨Mi,h,h1,h2⟩|⟨Mi,j,e,ex,ys,h,h'⟩)
   ·cases h;exact .inl ⟨h1,h2⟩
   ·rcases h with ⟨g',h⟩|h<;>cases h;exact .inr ⟨j,e,ex,ys,h'⟩
 |fb xs=>
  simp only[vB,gG,false_iff];rintro (⟨Mi,h,_⟩|⟨Mi,j,e,ex,ys,h,h'⟩)
  ·cases h
  ·rcases h with ⟨g',h⟩|h<;>cases h
theorem lY:∀{l:az fw} {q:aF} {k:aF} {c:eT},(k,c)∈Lm q l↔∃p a,l[p]? =ah a/\((k=qx (q+p)/\c= .v (tM (q+p) a))\/(k,c)∈vB (q+p) a):=by
 intro l;induction l with
 |nil=>intro q k c;simp[Lm]
 |cons a l ih=>
  intro q k c;simp only[Lm,cB,ba,ih,ji];constructor
  ·rintro ((⟨h1,h2⟩|h)|⟨p,b,h0,h⟩)
   ·exact⟨0,a,rfl, .inl ⟨h1,h2⟩⟩
   ·exact⟨0,a,rfl, .inr h⟩
   ·exact⟨p+1,b,h0,by rw[show q+(p+1)=q+1+p by omega];exact h⟩
  ·rintro ⟨p,b,h0,h⟩;cases p with
   |zero=>
    cases h0;rcases h with ⟨h1,h2⟩|h
    ·exact .inl (.inl ⟨h1,h2⟩)
    ·exact .inl (.inr h)
   |succ p=>exact .inr (⟨p,b,h0,by rw[show q+1+p=q+(p+1)by omega];exact h⟩)
theorem Jq{l:az fw}{q:aF}:∀d∈Lm q l,d.2≠ .j9:=by
 rintro ⟨k,c⟩ h;obtain⟨p,a,_,h⟩:=lY.1 h;rcases h with ⟨_,h⟩|h
 ·rw[h];simp
 ·rcases iD.1 h with ⟨_,_,_,h⟩|⟨_,_,_,_,_,_,_,_,h⟩<;>rw[h]<;>simp
theorem Bz{args:az fw}{m:aF}{ob:Obj}(h:inj args (c8 m)= .o ob):∃p a,args[p]? =ah a/\((∃xs,a= .pt xs/\m=dS p 900/\ob= .box (gz (dS p 0) xs))\/∃xs j e ex ys,((∃g,a= .v g xs)\/a= .pt xs)/\xs[j]? =ah (.ow e ex ys)/\m=dS p j/\ob= .row e ex ys):=by
 obtain⟨p,a,h0,h⟩:=lY.1 (n6 h (by simp));rw[bV]at h;refine⟨p,a,h0, ?_⟩
 rcases h with ⟨h,_⟩|h
 ·exact cJ h (mA _ _)
 ·rcases iD.1 h with ⟨xs,h1,h2,h3⟩|⟨xs,j,e,ex,ys,h1,h2,h3,h4⟩
  ·cases h3;exact .inl ⟨xs,h1,j4 h2,rfl⟩
  ·cases h4;exact .inr ⟨xs,j,e,ex,ys,h1,h2,j4 h3,rfl⟩
theorem Js{args:az fw}{n:aF}:(∃a,args[n]? =ah a/\slot (inj args) n=tM n a)\/slot (inj args) n= .un:=by
 unfold slot;cases h:inj args (qx n)with
 |v x=>
  obtain⟨p,a,h0,h⟩:=lY.1 (n6 h (by simp));rw[bV]at h;rcases h with ⟨h1,h2⟩|h
  ·have:=HI h1;subst this;cases h2;exact .inl ⟨a,h0,rfl⟩
  ·rcases iD.1 h with ⟨_,_,h,_⟩|⟨_,_,_,_,_,_,_,h,_⟩<;>exact cJ h (se _ _)
 |o=>exact .inr rfl
 |j9=>exact .inr rfl
theorem qQ{args:az fw}{p:aF}{a:fw}(h:args[p]? =ah a):(∀xs,a= .pt xs->inj args (c8 (dS p 900))≠ .j9)/\∀xs j e ex ys,((∃g,a= .v g xs)\/a= .pt xs)->xs[j]? =ah (.ow e ex ys)->inj args (c8 (dS p j))≠ .j9:=by
 constructor
 ·intro xs hx;exact si (lY.2 ⟨p,a,h, .inr (iD.2 (.inl ⟨xs,hx,by rw[bV],rfl⟩))⟩) Jq
 ·intro xs j e ex ys hx hj;exact si (lY.2 ⟨p,a,h, .inr (iD.2 (.inr ⟨xs,j,e,ex,ys,hx,hj,by rw[bV],rfl⟩))⟩) Jq
theorem iF:∀{xs:az AA} {nm j:aF},(gz nm xs)[j]? =(xs[j]?).map (lD (nm+j)):=by
 intro xs;induction xs with
 |nil=>intro nm j;simp[gz]
 |cons a xs ih=>
  intro nm j;cases j with
  |zero=>rfl
  |succ j=>simp only[gz,dO,ih];congr 2;omega
theorem iV:∀{xs:az AA} {nm:aF},(gz nm xs).length=xs.length:=by
 intro xs;induction xs with
 |nil=>intro nm;rfl
 |cons a xs ih=>intro nm;simp[gz,ih]
theorem tP{nm:aF}{a:AA}{n:aF}(h:n∈bS (lD nm a)):n=nm/\∃e ex ys,a= .ow e ex ys:=by cases a<;>simp[lD,bS]at h;exact⟨h,_,_,_,rfl⟩
theorem Jr{args:az fw}(n:aF):mV (inj args) (slot (inj args) n):=by
 rcases Js (args:=args) (n:=n)with ⟨a,h0,h⟩|h
 ·rw[h];intro m hm;have cells:∀xs,((∃g,a= .v g xs)\/a= .pt xs)->m∈(gz (dS n 0) xs).flatMap bS->inj args (c8 m)≠ .j9:=by
   intro xs hx hm;obtain⟨v,hv,hm⟩:=bQ.1 hm;obtain⟨j,hj⟩:=bY hv;rw[iF]at hj;cases hy:xs[j]? with
   |none=>rw[hy]at hj;cases hj
   |some y=>
    rw[hy]at hj;cases hj;obtain⟨rfl,e,ex,ys,rfl⟩:=tP hm;have:=(qQ h0).2 xs j e ex ys hx hy;have hn:dS n 0+j=dS n j:=by unfold dS;omega
    rw[hn];exact this
  cases a with
  |v g xs=>exact cells xs (.inl ⟨g,rfl⟩) hm
  |pt xs=>
   have:m=dS n 900:=by simpa [tM,cO,bS]using hm
   rw[this];exact(qQ h0).1 xs rfl
  |fb xs=>simp[tM,cO,bS]at hm
 ·rw[h];intro m hm;simp[cO]at hm
theorem Hh{args:az fw}{nm:aF}{xs:az AV}(h:inj args (c8 nm)= .o (.box xs)):∀a∈xs,jj (inj args) a:=by
 obtain⟨p,a,h0,hh⟩:=Bz h;rcases hh with ⟨ys,rfl,_,hb⟩|⟨_,_,_,_,_,_,_,_,hb⟩
 ·cases hb;intro v hv m hm;obtain⟨j,hj⟩:=bY hv;rw[iF]at hj;cases hy:ys[j]? with
  |none=>rw[hy]at hj;cases hj
  |some y=>
   rw[hy]at hj;cases hj;obtain⟨rfl,e,ex,zs,rfl⟩:=tP hm;have:=(qQ h0).2 ys j e ex zs (.inr rfl) hy;have hn:dS p 0+j=dS p j:=by unfold dS;omega
   rw[hn];exact this
 ·cases hb
end Go.FG

namespace Go.FG
theorem uL{p j:aF}(h:j<1000):(dS p j-900000000)/1000=p/\(dS p j-900000000)%1000=j:=by unfold dS;omega
theorem CO(p j:aF):900000000<=dS p j:=by unfold dS;omega
theorem uM{p j p' j':aF}(h:j<1000)(h':j'<1000)(e:dS p j=dS p' j'):p=p'/\j=j':=by unfold dS at e;omega
section
variable {P:c5} {E:fQ} {σ:St} {a:Act} {w:bL} {c:e9} {o:fC} {nm:aF} {e:s8}
theorem sd(cf:Ok E σ w c){n el:aF}{ex:aX}{xs:aR}(hg:σ (c8 n)= .o (.row el ex xs)){K:aF->Prop}(hK:∀b,c.K b->K b)(hF:∀b,fL c n (.row el ex xs) b->K b):c_ E w K (lW (c.P n)) (.l el xs):=by
 obtain⟨⟨t2,q1,q2,q3⟩,q4,q5⟩:=cf.obj n _ hg;refine qb q1 q2 q3 (q4.frame (λ_=>rfl) (λi j y x u hy hx hr=> ?_)) (λhn=>hF _ (.inl ⟨hn,rfl⟩));split at hr
 ·rename_i pL;exact yH hr (λhl hn=>hF _ (.inr ⟨pL,i,j,⟨y,x,hy,hx,hl⟩,hn,rfl⟩))
 ·exact hr.frame (λ_ _=>rfl) hK
theorem FE(cf:Ok E σ w c){n el:aF}{ex:aX}{xs:aR}(hg:σ (c8 n)= .o (.row el ex xs)){K:aF->Prop}(hK:∀b,c.K b->K b)(hF:∀b,fL c n (.row el ex xs) b->K b){lo hi:aF}{v:bk}(hv:w8 (c.P n) lo hi v):c_ E w K v (.l el (eA xs lo hi)):=by obtain⟨⟨t2,q1,q2,q3⟩,q4,q5⟩:=cf.obj n _ hg;exact Jl q1 (sd cf hg hK hF) q4.n q2 hv
def K1r(σ:St)(c:e9)(nP:az aF)(b:aF):Prop:=c.K b\/∃n∈nP,∃o,σ (c8 n)= .o o/\fL c n o b
def vR(T:Tab)(σ:St)(w:bL)(c:e9)(nP:az aF)(k:Pk)(u:bk):Prop:=
 match k.src with
 | .own nm e ex=>∃xs,σ (c8 nm)= .o (.row e ex xs)/\k.a= .ow e ex xs/\u=lW (c.P nm)
 | .no=>(∀c1:e9,(∀b,K1r σ c nP b->c1.K b)->∀nm,eM T w c1 (lD nm k.a) u)/\∀e ex xs,k.a≠ .ow e ex xs
theorem vR.mono{T:Tab}{nP UX:az aF}{k:Pk}{u:bk}(h:vR T σ w c nP k u)(hs:∀n∈nP,n∈UX):vR T σ w c UX k u:=by
 unfold vR at h⊢;split
 ·rename_i hk;rw[hk]at h;exact h
 ·rename_i hk;rw[hk]at h;exact⟨λc1 h1=>h.1 c1 (λb hb=>h1 b (hb.imp id (λ⟨n,hn,hh⟩=>⟨n,hs n hn,hh⟩))),h.2⟩
theorem CZ(cf:Ok E σ w c){mt:aX}{x:AV}{k:Pk}{u:bk}(h:(Av E mt x).val σ=ah k)(hx:eM E w c x u):vR E σ w c k.rd k u:=by
 have rd:∀{n el:aF} {ex:aX} {xs:aR},σ (c8 n)= .o (.row el ex xs)->∀c1:e9,(∀b,K1r σ c [n] b->c1.K b)->(∀b,c.K b->c1.K b)/\∀b,fL c n (.row el ex xs) b->c1.K b:=λhg c1 h=>⟨λb hb=>h b (.inl hb),λb hb=>h b (.inr ⟨_,aZ.2 rfl,_,hg,hb⟩)⟩
 cases x with
 |i=>obtain rfl:=aJ h;exact⟨λc1 _ _=>hx,λ_ _ _ hh=>by cases hh⟩
 |b=>obtain rfl:=aJ h;exact⟨λc1 _ _=>hx,λ_ _ _ hh=>by cases hh⟩
 |s=>obtain rfl:=aJ h;exact⟨λc1 _ _=>hx,λ_ _ _ hh=>by cases hh⟩
 |nl=>obtain rfl:=aJ h;exact⟨λc1 _ _=>hx,λ_ _ _ hh=>by cases hh⟩
 |sh e xs=>obtain rfl:=aJ h;exact⟨λc1 h1 _=>c_.frame hx (λ_ _=>rfl) (λb hb=>h1 b (.inl hb)),λ_ _ _ hh=>by cases hh⟩
 |fn f iX=>obtain rfl:=aJ h;exact⟨λc1 h1 _=>eM.frame (a:= .fn f iX) hx (λ_ _=>rfl) (λb hb=>h1 b (.inl hb)) (λn hn=>by simp[bS]at hn),λ_ _ _ hh=>by cases hh⟩
 |own n=>
  obtain⟨ob,hg,h⟩:=Rd.bind_some h;have hg:=dz hg;have hx:u=lW (c.P n):=hx;cases ob with
  |row el ex xs=>
   cases mt with
   |true=>obtain rfl:=aJ h;exact⟨xs,hg,rfl,hx⟩
   |false=>
    obtain rfl:=aJ h;refine⟨λc1 h1 _=> ?_,λ_ _ _ hh=>by cases hh⟩
    obtain⟨r1,r2⟩:=rd hg c1 h1;rw[hx];exact sd cf hg r1 r2
  |fT el xs=>
   obtain rfl:=aJ h;refine⟨λc1 h1 _=> ?_,λ_ _ _ hh=>by cases hh⟩
   rw[hx];exact c_.frame (cf.obj n _ hg).1 (λ_ _=>rfl) (λb hb=>h1 b (.inl hb))
  |_=>simp at h
 |vw n lo hi=>
  cases mt with
  |true=>simp[Av]at h
  |false=>
  obtain⟨ob,hg,h⟩:=Rd.bind_some h;have hg:=dz hg;cases ob with
  |row el ex xs=>
   obtain rfl:=aJ h;refine⟨λc1 h1 _=> ?_,λ_ _ _ hh=>by cases hh⟩
   obtain⟨r1,r2⟩:=rd hg c1 h1;exact FE cf hg r1 r2 hx
  |fT el xs=>
   obtain rfl:=aJ h;refine⟨λc1 h1 _=> ?_,λ_ _ _ hh=>by cases hh⟩
   exact c_.frame (pC cf hg hx) (λ_ _=>rfl) (λb hb=>h1 b (.inl hb))
  |_=>simp at h
 |inn n i j=>
  obtain⟨ob,hg,h⟩:=Rd.bind_some h;have hg:=dz hg;cases ob with
  |row el ex xs=>
   cases ex with
   |false=>simp at h
   |true=>
   obtain⟨te,ht,h⟩:=Rd.bind_some h;have ht:=dW ht;split at h
   ·rename_i e2 Ap;obtain⟨t2,Hf,h⟩:=Rd.bind_some h;obtain⟨_,h⟩:=cR h;obtain rfl:=aJ h;obtain⟨⟨hi,hx⟩,_⟩:=hx;obtain⟨zs,y,t3,q1,q2,q3,q4,q5,q6,q7,q8⟩:=BA cf hg ht Ap hi;refine⟨λc1 h1 _=> ?_,λ_ _ _ hh=>by cases hh⟩
    show c_ E w c1.K u (.l e2 (jz (ar xs i j)));rw[fG q1 q2,hx];obtain⟨r1,r2⟩:=rd hg c1 h1;exact qb q3 q5 q6 (q7.frame (λ_=>rfl) (λi' j' y' x' u' hy' pL hr=>kT (iw q4 (q6 y' (aQ hy')) pL) hr)) (λhn=>r2 _ (.inr ⟨rfl,i,j,⟨y,_,q1,q2,rfl⟩,hn,rfl⟩))
   ·simp at h
  |_=>simp at h
 |_=>simp[Av]at h
theorem Fu(cf:Ok E σ w c){mt:aX}:∀{xs:az AV} {l:az Pk},(C0 E mt xs).val σ=ah l->l.length=xs.length/\∀(j:aF) (k:Pk),l[j]? =ah k->∃x,xs[j]? =ah x/\(Av E mt x).val σ=ah k:=by
 intro xs;induction xs with
 |nil=>intro l h;obtain rfl:=aJ h;exact⟨rfl,λj k h=>by simp at h⟩
 |cons x xs ih=>
  intro l h;obtain⟨k,h1,h⟩:=Rd.bind_some h;obtain⟨l',h2,h⟩:=Rd.bind_some h;obtain rfl:=aJ h;obtain⟨i1,i2⟩:=ih h2;refine⟨by simp[i1],λj k' hj=> ?_⟩
  cases j with
  |zero=>cases hj;exact⟨x,rfl,h1⟩
  |succ j=>exact i2 j k' hj
structure AO (T:Tab) (σ:St) (w:bL) (c:e9) (nP:az aF) (pa:Pa) (v:bk):Prop where
 len:pa.cs.length<=100
 val:pa.box=aj->∃agg,pa.arg= .v agg (pa.cs.map (·.a))/\((agg=ak/\∃k,pa.cs=[k]/\vR T σ w c nP k v)\/(agg=ai/\∃vals:du bk,v= .agg vals/\vals.size=pa.cs.length/\∀(j:aF) (k:Pk),pa.cs[j]? =ah k->∃u:bk,vals[j]? =ah u/\vR T σ w c nP k u))
 box:∀n xs,pa.box=ah (n,xs)->pa.arg= .pt (pa.cs.map (·.a))/\v= .pointer (ah (ad (c.P n).blk 0))/\σ (c8 n)= .o (.box xs)/\pa.cs.length=xs.length/\
  (∃vals,n8 w (c.P n).blk vals/\vals.size=xs.length/\∀(j:aF) (k:Pk),pa.cs[j]? =ah k->∃u:bk,vals[j]? =ah u/\vR T σ w c nP k u)/\
  ∀(j:aF) (k:Pk) (nm e:aF) (ex:aX),pa.cs[j]? =ah k->k.src= .own nm e ex->xs[j]? =ah (.own nm)
theorem Hq{pa:Pa}{j:aF}{k:Pk}(h:pa.cs[j]? =ah k):∀n∈k.rd,n∈pa.nP:=λn hn=>bQ.2 ⟨k,aQ h,hn⟩
theorem P0{mt:aX}{x:AV}{k:Pk}(h:(Av E mt x).val σ=ah k){nm e:aF}{ex:aX}(hs:k.src= .own nm e ex):x= .own nm:=by
 cases x with
 |own n=>
  obtain⟨ob,hg,h⟩:=Rd.bind_some h;cases ob with
  |row el uE xs=>
   cases mt with
   |true=>obtain rfl:=aJ h;cases hs;rfl
   |false=>obtain rfl:=aJ h;cases hs
  |fT el xs=>obtain rfl:=aJ h;cases hs
  |_=>simp at h
 |vw n lo hi=>
  cases mt with
  |true=>simp[Av]at h
  |false=>
  obtain⟨ob,hg,h⟩:=Rd.bind_some h;cases ob with
  |row=>obtain rfl:=aJ h;cases hs
  |fT=>obtain rfl:=aJ h;cases hs
  |_=>simp at h
 |inn n i j=>
  obtain⟨ob,hg,h⟩:=Rd.bind_some h;cases ob with
  |row el ex xs=>
   cases ex with
   |false=>simp at h
   |true=>
   obtain⟨te,ht,h⟩:=Rd.bind_some h;split at h
   ·obtain⟨t2,Hf,h⟩:=Rd.bind_some h;obtain⟨_,h⟩:=cR h;obtain rfl:=aJ h;cases hs
   ·simp at h
  |_=>simp at h
 |i=>obtain rfl:=aJ h;cases hs
 |b=>obtain rfl:=aJ h;cases hs
 |s=>obtain rfl:=aJ h;cases hs
 |nl=>obtain rfl:=aJ h;cases hs
 |sh=>obtain rfl:=aJ h;cases hs
 |fn=>obtain rfl:=aJ h;cases hs
 |_=>simp[Av]at h
theorem Xf(cf:Ok E σ w c){mt:aX}{x:SV}{pa:Pa}{v:bk}(h:(aeF E mt x).val σ=ah pa)(hl:pa.cs.length<=100)(hx:jm E w c x v):AO E σ w c pa.nP pa v:=by
 have gen:∀agg xs,x= .v agg xs->((C0 E mt xs).bind λl=>Rd.ret (⟨.v agg (l.map (·.a)),aj,l⟩:Pa)).val σ=ah pa->AO E σ w c pa.nP pa v:=by
  rintro agg xs rfl h;obtain⟨l,h1,h⟩:=Rd.bind_some h;obtain rfl:=aJ h;obtain⟨i1,i2⟩:=Fu cf h1;refine⟨hl,λ_=>⟨agg,rfl, ?_⟩,λn ys hb=>by cases hb⟩
  replace hx:qq E w c agg xs v:=hx;unfold qq at hx;split at hx
  ·rename_i y;left;obtain⟨k,rfl⟩:=g6.1 (i1.trans rfl);obtain⟨y',hy,hk⟩:=i2 0 k rfl;cases hy;exact⟨rfl,k,rfl,(CZ cf hk hx).mono (Hq (j:=0) (pa:=⟨.v ak ([k].map (·.a)),aj,[k]⟩) rfl)⟩
  ·obtain⟨vals,rfl,hs,hv⟩:=hx;right;refine⟨rfl,vals,rfl,by rw[hs];exact i1.symm,λj k hj=> ?_⟩
   obtain⟨y,hy,hk⟩:=i2 j k hj;obtain⟨u,hu,ha⟩:=hv j y hy;exact⟨u,hu,(CZ cf hk ha).mono (Hq (j:=j) (pa:=⟨.v ai (l.map (·.a)),aj,l⟩) hj)⟩
  ·exact hx.elim
 unfold aeF at h;split at h
 ·rename_i n;obtain⟨_,h⟩:=cR h;obtain⟨ob,hg,h⟩:=Rd.bind_some h;have hg:=dz hg;cases ob with
  |box xs=>
   obtain⟨l,h1,h⟩:=Rd.bind_some h;obtain rfl:=aJ h;obtain⟨i1,i2⟩:=Fu cf h1;obtain⟨vals,hb,hs,hv⟩:=cf.obj n _ hg;refine⟨hl,λhb=>(by cases hb),λm ys QD=> ?_⟩
   cases QD;refine⟨rfl,hx,hg,i1,⟨vals,hb,hs,λj k hj=> ?_⟩,λj k nm e ex hj D9=> ?_⟩
   ·obtain⟨y,hy,hk⟩:=i2 j k hj;obtain⟨u,hu,ha⟩:=hv j y hy;exact⟨u,hu,(CZ cf hk ha).mono (Hq (j:=j) (pa:=⟨.pt (l.map (·.a)),ah (n,xs),l⟩) hj)⟩
   ·obtain⟨y,hy,hk⟩:=i2 j k hj;rw[hy,P0 hk D9]
  |_=>simp at h
 ·rename_i agg xs _;exact gen _ _ rfl h
 ·simp at h
theorem NS{T:Tab}{k:Ck}{y:AV}{u:bk}(h:eM T w c y u):eM T w c (Zi k y) u:=by
 unfold Zi;split
 ·rename_i e;have:u= .slice aj 0 0:=h;subst this;exact .nl _ _ _
 ·exact h
theorem JD:∀(ks:az Ck) (xs:az AV),(CN ks xs).length=xs.length
 |[],[]=>rfl
 |[],_::_=>rfl
 |_::_,[]=>rfl
 |k::ks,y::r=>by simp[CN,JD ks r]
theorem NT{T:Tab}:∀(ks:az Ck) (xs:az AV) (j:aF) (y:AV),(CN ks xs)[j]? =ah y->∃z,xs[j]? =ah z/\∀u,eM T w c z u->eM T w c y u
 |[],xs,j,y,h=>⟨y,by simpa [CN]using h,λ_ h=>h⟩
 |_::_,[],j,y,h=>by simp[CN]at h
 |k::ks,x::r,0,y,h=>by
  simp only[CN,sI,jG]at h;subst h;exact⟨x,rfl,λu hu=>NS hu⟩
 |k::ks,x::r,j+1,y,h=>by simp only[CN,dO]at h;exact NT ks r j y h
theorem agc{T:Tab}{t:aC aF}{s:SV}{v:bk}(h:jm T w c s v):jm T w c (nlz T t s) v:=by
 unfold nlz;split
 ·exact h
 ·split
  ·rename_i ti g xs _;have h:qq T w c g xs v:=h;show qq T w c g (CN ti.ks xs) v;unfold qq at h;split at h
   ·rename_i y;cases hk:ti.ks with
    |nil=>exact h
    |cons k ks=>
     have e:∀z,CN (k::ks) [z]=[Zi k z]:=λz=>by cases ks<;>rfl
     rw[e];exact NS h
   ·obtain⟨vals,h1,h2,h3⟩:=h;refine⟨vals,h1,by rw[JD];exact h2,λj y hj=> ?_⟩
    obtain⟨z,hz,hy⟩:=NT (T:=T) (w:=w) (c:=c) ti.ks _ j y hj;obtain⟨u,hu,ha⟩:=h3 j z hz;exact⟨u,hu,hy u ha⟩
   ·cases h
  ·exact h
theorem Si(cf:Ok E σ w c)(dK:fE E σ a w c){f:aF}{QL:aC (az aF)}:∀{xs:az dy} {p:aF} {ps:az Pa},(Sh E f QL p xs).val σ=ah ps->ps.length=xs.length/\∀(q:aF) (pa:Pa),ps[q]? =ah pa->∃x,xs[q]? =ah x/\AO E σ w c pa.nP pa (a.eval x):=by
 intro xs;induction xs with
 |nil=>intro p ps h;obtain rfl:=aJ h;exact⟨rfl,λq pa h=>by simp at h⟩
 |cons x xs ih=>
  intro p ps h;obtain⟨v,h1,h⟩:=Rd.bind_some h;obtain⟨pa,h2,h⟩:=Rd.bind_some h;obtain⟨hl,h⟩:=cR h;obtain⟨l,h3,h⟩:=Rd.bind_some h;obtain rfl:=aJ h;obtain⟨i1,i2⟩:=ih h3;refine⟨by simp[i1],λq pa' hq=> ?_⟩
  cases q with
  |zero=>
   cases hq;refine⟨x,rfl,Xf cf h2 (cM hl) ?_⟩
   cases E.mode f p with
   |true=>exact(mB dK h1).1
   |false=>exact agc (mB dK h1).1
  |succ q=>exact i2 q pa' hq
theorem AO.mono{T:Tab}{nP UX:az aF}{pa:Pa}{v:bk}(h:AO T σ w c nP pa v)(hs:∀n∈nP,n∈UX):AO T σ w c UX pa v:=by
 refine⟨h.len,λhb=> ?_,λn xs hb=> ?_⟩
 ·obtain⟨agg,h1,h2⟩:=h.val hb;refine⟨agg,h1, ?_⟩
  rcases h2 with ⟨h3,k,h4,h5⟩|⟨h3,vals,h4,h5,h6⟩
  ·exact .inl ⟨h3,k,h4,h5.mono hs⟩
  ·exact .inr ⟨h3,vals,h4,h5,λj k hj=>by obtain⟨u,hu,hk⟩:=h6 j k hj;exact⟨u,hu,hk.mono hs⟩⟩
 ·obtain⟨h1,h2,h3,h4,⟨vals,h5,h6,h7⟩,h8⟩:=h.box n xs hb;exact⟨h1,h2,h3,h4,⟨vals,h5,h6,λj k hj=>by obtain⟨u,hu,hk⟩:=h7 j k hj;exact⟨u,hu,hk.mono hs⟩⟩,h8⟩
end
end Go.FG

namespace Go.FG
theorem lZ{α:Type}{f:α->az aF}:∀{l:az α},(l.flatMap f).Nodup->(∀(i j:aF) (x y:α) (z:aF),l[i]? =ah x->l[j]? =ah y->z∈f x->z∈f y->i=j)/\∀x∈l,(f x).Nodup:=by
 intro l;induction l with
 |nil=>intro _;exact⟨λi j x y z h=>by simp at h,λx h=>by cases h⟩
 |cons a l ih=>
  intro h;rw[yV]at h;obtain⟨h1,h2,h3⟩:=eQ.1 h;obtain⟨i1,i2⟩:=ih h2;refine⟨λi j x y z hi hj hx hy=> ?_,λx hx=> ?_⟩
  ·cases i with
   |zero=>
    cases hi;cases j with
    |zero=>rfl
    |succ j=>exact cJ rfl (h3 z hx z (bQ.2 ⟨y,aQ hj,hy⟩))
   |succ i=>
    cases j with
    |zero=>cases hj;exact cJ rfl (h3 z hy z (bQ.2 ⟨x,aQ hi,hx⟩))
    |succ j=>rw[i1 i j x y z hi hj hx hy]
  ·rcases cB.1 hx with rfl|hx
   ·exact h1
   ·exact i2 x hx
def loc(ps:az Pa)(m:aF):aC aF:=
 match ps[(m-900000000)/1000]? with
 |none=>aj
 |some pa=>if(m-900000000)%1000=900 then pa.box.map (·.1)else(pa.cs[(m-900000000)%1000]?).bind λk=>match k.src with| .own nm _ _=>ah nm| .no=>aj
theorem Hn{ps:az Pa}{p j:aF}{pa:Pa}{k:Pk}{nm e:aF}{ex:aX}(hp:ps[p]? =ah pa)(hj:pa.cs[j]? =ah k)(hs:k.src= .own nm e ex)(hl:j<900):loc ps (dS p j)=ah nm:=by obtain⟨h1,h2⟩:=uL (p:=p) (j:=j) (by omega);unfold loc;rw[h1,h2,hp];simp only;rw[bH (by omega),hj];simp only[Option.bind_some,hs]
theorem BB{ps:az Pa}{p n:aF}{pa:Pa}{xs:az AV}(hp:ps[p]? =ah pa)(hb:pa.box=ah (n,xs)):loc ps (dS p 900)=ah n:=by obtain⟨h1,h2⟩:=uL (p:=p) (j:=900) (by omega);unfold loc;rw[h1,h2,hp];simp[hb]
def qO(σ:St)(c:e9)(ps:az Pa):e9:=
 ⟨λm=>match loc ps m with|some n=>c.P n|none=>⟨ai,0,0,0,0,0⟩,λm=>match loc ps m with|some n=>c.G n|none=>λ_ _=>⟨ai,0,0,0,0,0⟩,K1r σ c (ps.flatMap (·.nP))⟩
theorem uC{σ:St}{c:e9}{ps:az Pa}{m n:aF}(h:loc ps m=ah n):(qO σ c ps).P m=c.P n/\(qO σ c ps).G m=c.G n:=by unfold qO;simp only[h];exact⟨trivial,trivial⟩
section
variable {P:c5} {E:fQ} {σ:St} {a:Act} {w:bL} {c:e9} {o:fC} {nm:aF} {e:s8}
structure Handed (T:Tab) (σ:St) (w:bL) (c:e9) (ps:az Pa) (Bt:az (az CV)) (vs:du bk):Prop where
 size:vs.size=ps.length+Bt.length
 at_:∀(q:aF) (pa:Pa),ps[q]? =ah pa->∃v,vs[q]? =ah v/\AO T σ w c (ps.flatMap (·.nP)) pa v
 fb:∀(q:aF) (cs:az CV),Bt[q]? =ah cs->∃b,vs[ps.length+q]? =ah (.pointer (ah (ad b 0)))/\FB T w c.K b cs
 nd:(ps.flatMap (·.uK)).Nodup
 ap:∀n∈ps.flatMap (·.uK),n∉ps.flatMap (·.nP)
def jO(ps:az Pa)(Bt:az (az CV)):az fw:=ps.map (·.arg)++Bt.map fw.fb
theorem v9{ps:az Pa}{Bt:az (az CV)}{p:aF}{x:fw}(h:(jO ps Bt)[p]? =ah x):(∃pa,ps[p]? =ah pa/\x=pa.arg)\/(ps.length<=p/\∃cs,Bt[p-ps.length]? =ah cs/\x= .fb cs):=by
 unfold jO at h;by_cases hp:p<ps.length
 ·rw[dH (by simpa using hp),bK]at h;cases hq:ps[p]? with
  |none=>rw[hq]at h;cases h
  |some pa=>rw[hq]at h;cases h;exact .inl ⟨pa,rfl,rfl⟩
 ·rw[da (by simp;omega),bK,bU]at h;cases hq:Bt[p-ps.length]? with
  |none=>rw[hq]at h;cases h
  |some cs=>rw[hq]at h;cases h;exact .inr ⟨by omega,cs,rfl,rfl⟩
theorem UK{T:Tab}{ps:az Pa}{p j:aF}{pa:Pa}{k:Pk}{u:bk}(hp:ps[p]? =ah pa)(hj:pa.cs[j]? =ah k)(hl:j<900)(h:vR T σ w c (ps.flatMap (·.nP)) k u):eM T w (qO σ c ps) (lD (dS p j) k.a) u:=by
 unfold vR at h;split at h
 ·rename_i n e ex hs;obtain⟨xs,h1,h2,h3⟩:=h;rw[h2];show u=lW ((qO σ c ps).P (dS p j));rw[(uC (Hn hp hj hs hl)).1];exact h3
 ·exact h.1 _ (λb hb=>hb) _
theorem UI{T:Tab}{nP:az aF}{pa:Pa}{v:bk}(h:AO T σ w c nP pa v){xs:az AA}(hx:(∃g,pa.arg= .v g xs)\/pa.arg= .pt xs):xs=pa.cs.map (·.a)/\∀(j:aF) (k:Pk),pa.cs[j]? =ah k->∃u,vR T σ w c nP k u:=by
 cases hb:pa.box with
 |none=>
  obtain⟨agg,h1,h2⟩:=h.val hb;rw[h1]at hx;have:xs=pa.cs.map (·.a):=by rcases hx with ⟨g,hx⟩|hx<;>cases hx;rfl
  refine⟨this,λj k hj=> ?_⟩
  rcases h2 with ⟨_,k',hk,hp⟩|⟨_,vals,_,_,hp⟩
  ·rw[hk]at hj;cases j with
   |zero=>cases hj;exact⟨_,hp⟩
   |succ j=>simp at hj
  ·obtain⟨u,_,hu⟩:=hp j k hj;exact⟨u,hu⟩
 |some nx=>
  obtain⟨n,ys⟩:=nx;obtain⟨h1,_,_,_,⟨vals,_,_,hp⟩,_⟩:=h.box n ys hb;rw[h1]at hx;have:xs=pa.cs.map (·.a):=by rcases hx with ⟨g,hx⟩|hx<;>cases hx;rfl
  exact⟨this,λj k hj=>by obtain⟨u,_,hu⟩:=hp j k hj;exact⟨u,hu⟩⟩
theorem xP(cf:Ok E σ w c){ps:az Pa}{Bt:az (az CV)}{vs:du bk}(hh:Handed E σ w c ps Bt vs){m:aF}{ob:Obj}(h:inj (jO ps Bt) (c8 m)= .o ob):
  ∃n o p pa,loc ps m=ah n/\ps[p]? =ah pa/\n∈pa.uK/\σ (c8 n)= .o o/\pU E w (qO σ c ps) m ob/\(∀b,fL (qO σ c ps) m ob b->fL c n o b)/\
   ((m=dS p 900/\∃xs,pa.box=ah (n,xs))\/∃j k e ex,m=dS p j/\j<900/\pa.cs[j]? =ah k/\k.src= .own n e ex):=by
 obtain⟨p,x,h0,h⟩:=Bz h;have auU:∀cs xs,x= .fb cs->¬((∃g,x= .v g xs)\/x= .pt xs):=by rintro cs xs rfl (⟨g,h⟩|h)<;>cases h
 rcases v9 h0 with ⟨pa,hp,rfl⟩|⟨_,cs,_,hx⟩
 ·obtain⟨v,hv,Lh⟩:=hh.at_ p pa hp;rcases h with ⟨xs,hx,rfl,rfl⟩|⟨xs,j,e,ex,ys,hx,hj,rfl,rfl⟩
  ·cases hb:pa.box with
   |none=>obtain⟨agg,h1,_⟩:=Lh.val hb;rw[h1]at hx;cases hx
   |some nx=>
    obtain⟨n,zs⟩:=nx;obtain⟨h1,h2,h3,h4,⟨vals,h5,h6,h7⟩,_⟩:=Lh.box n zs hb;rw[h1]at hx;cases hx;have SZ:=BB hp hb;obtain⟨e1,e2⟩:=uC (σ:=σ) (c:=c) SZ;refine⟨n,_,p,pa,SZ,hp,by simp[Pa.uK,hb],h3, ?_,λb hf=>by rw[show b=_ from hf,e1];rfl, .inl ⟨rfl,zs,hb⟩⟩
    refine⟨vals,by rw[e1];exact h5,by rw[iV,bU,h6];exact h4.symm,λj y hj=> ?_⟩
    rw[iF,bK]at hj;cases hk:pa.cs[j]? with
    |none=>rw[hk]at hj;cases hj
    |some k=>
     rw[hk]at hj;cases hj;obtain⟨u,hu,XU⟩:=h7 j k hk;have j8:j<900:=by have:=(aT.1 hk).1;have:=Lh.len;omega
     refine⟨u,hu, ?_⟩
     have hn:dS p 0+j=dS p j:=by unfold dS;omega
     rw[hn];exact UK hp hk j8 XU
  ·obtain⟨hxs,XU⟩:=UI Lh hx;rw[hxs,bK]at hj;cases hk:pa.cs[j]? with
   |none=>rw[hk]at hj;cases hj
   |some k=>
    rw[hk]at hj;have hka:k.a= .ow e ex ys:=by simpa using hj
    obtain⟨u,hu⟩:=XU j k hk;have j8:j<900:=by have:=(aT.1 hk).1;have:=Lh.len;omega
    unfold vR at hu;split at hu
    ·rename_i n e' uE hs;obtain⟨zs,q1,q2,q3⟩:=hu;rw[hka]at q2;cases q2;have SZ:=Hn hp hk hs j8;obtain⟨e1,e2⟩:=uC (σ:=σ) (c:=c) SZ;refine⟨n,_,p,pa,SZ,hp, ?_,q1, ?_,λb hf=>by rw[my (c:=⟨λ_=>c.P n,λ_=>c.G n,c.K⟩) (c':=qO σ c ps) ⟨e1,e2⟩]at hf;exact hf, .inr ⟨j,k,e,ex,rfl,j8,hk,hs⟩⟩
     ·refine bN _ (bQ.2 ⟨k,aQ hk, ?_⟩);simp[Pk.uK,hs]
     ·have m9:=cf.obj n _ q1;obtain⟨⟨t2,r1,r2,r3⟩,r4,r5⟩:=m9;refine⟨⟨t2,r1,by rw[e1];exact r2,r3⟩, ?_,λhx=>by rw[e1,e2];exact r5 hx⟩
      rw[e1,e2];refine r4.frame (λ_=>rfl) (λi j y x u hy hx hr=> ?_);split at hr
      ·rename_i pL;rw[bz pL];exact hr
      ·rename_i pL;rw[bH pL];exact hr.frame (λ_ _=>rfl) (λb hb=> .inl hb)
    ·exact cJ hka (hu.2 _ _ _)
 ·rcases h with ⟨xs,h,_⟩|⟨xs,j,e,ex,ys,h,_⟩
  ·rw[hx]at h;cases h
  ·exact cJ h (auU cs xs hx)
theorem enter(cf:Ok E σ w c){ps:az Pa}{Bt:az (az CV)}{vs:du bk}(hh:Handed E σ w c ps Bt vs):
  Ok E (inj (jO ps Bt)) w (qO σ c ps)/\(∀(p:aF) (x:fw),(jO ps Bt)[p]? =ah x->∃v,vs[p]? =ah v/\jm E w (qO σ c ps) (tM p x) v)/\
  ∀b,wO (inj (jO ps Bt)) (qO σ c ps) b->∃n∈ps.flatMap (·.uK),∃o,σ (c8 n)= .o o/\fL c n o b:=by
 have JC:∀{p:aF} {pa:Pa} {n:aF},ps[p]? =ah pa->n∈pa.uK->n∈ps.flatMap (·.uK):=λhp hn=>bQ.2 ⟨_,aQ hp,hn⟩;obtain⟨nd1,nd2⟩:=lZ hh.nd;refine⟨⟨λm ob h=> ?_,λm ob m' ob' b h h' hf vu=> ?_,λm ob b h hf hk=> ?_,λb hb=> ?_,λm xs h=>Hh h⟩,λp x hx=> ?_, ?_⟩
 ·obtain⟨n,o,p,pa,_,_,_,_,h,_⟩:=xP cf hh h;exact h
 ·obtain⟨n,o,p,pa,_,hp,hn,ho,_,pY,ll⟩:=xP cf hh h;obtain⟨n',o',p',pa',_,mN,kM,vA,_,SX,abh⟩:=xP cf hh h';have:=cf.sep n o n' o' b ho vA (pY b hf) (SX b vu);subst this;have:=nd1 p p' pa pa' n hp mN hn kM;subst this;rw[hp]at mN;cases mN;have ndm:=nd2 pa (aQ hp);unfold Pa.uK at ndm;obtain⟨_,m2,m3⟩:=eQ.1 ndm;have ajs:∀(j:aF) (k:Pk) (e:aF) (ex:aX),pa.cs[j]? =ah k->k.src= .own n e ex->n∈pa.cs.flatMap (·.uK):=λj k e ex hk hs=>bQ.2 ⟨k,aQ hk,by simp[Pk.uK,hs]⟩;rcases ll with ⟨rfl,xs,hb⟩|⟨j,k,e,ex,rfl,hj,hk,hs⟩
  ·rcases abh with ⟨rfl,_⟩|⟨j',k',e',uE,rfl,Kc,vx,hs'⟩
   ·rfl
   ·exact cJ rfl (m3 n (by simp[hb]) n (ajs _ _ _ _ vx hs'))
  ·rcases abh with ⟨rfl,xs,hb⟩|⟨j',k',e',uE,rfl,Kc,vx,hs'⟩
   ·exact cJ rfl (m3 n (by simp[hb]) n (ajs _ _ _ _ hk hs))
   ·have:=(lZ m2).1 j j' k k' n hk vx (by simp[Pk.uK,hs]) (by simp[Pk.uK,hs']);rw[this]
 ·obtain⟨n,o,p,pa,_,hp,hn,ho,_,pY,_⟩:=xP cf hh h;rcases hk with hk|⟨n',kM,o',vA,vu⟩
  ·exact cf.kk n o b ho (pY b hf) hk
  ·have:=cf.sep n o n' o' b ho vA (pY b hf) vu;subst this;exact hh.ap n (JC hp hn) kM
 ·rcases hb with hb|⟨n',kM,o',vA,vu⟩
  ·exact cf.lt b hb
  ·exact wO.lt cf ⟨n',o',vA,vu⟩
 ·rcases v9 hx with ⟨pa,hp,rfl⟩|⟨hle,cs,H6,rfl⟩
  ·obtain⟨v,hv,Lh⟩:=hh.at_ p pa hp;refine⟨v,hv, ?_⟩
   have small:∀{j:aF} {k:Pk},pa.cs[j]? =ah k->j<900:=λhj=>by have:=(aT.1 hj).1;have:=Lh.len;omega
   cases hb:pa.box with
   |none=>
    obtain⟨agg,h1,h2⟩:=Lh.val hb;rw[h1];rcases h2 with ⟨rfl,k,hk,XU⟩|⟨rfl,vals,rfl,hs,hc⟩
    ·rw[hk];have:=UK (j:=0) hp (by rw[hk];rfl) (by omega) XU;exact this
    ·refine⟨vals,rfl,by rw[iV,bU];exact hs,λj y hj=> ?_⟩
     rw[iF,bK]at hj;cases hk:pa.cs[j]? with
     |none=>rw[hk]at hj;cases hj
     |some k=>
      rw[hk]at hj;cases hj;obtain⟨u,hu,XU⟩:=hc j k hk;refine⟨u,hu, ?_⟩
      have hn:dS p 0+j=dS p j:=by unfold dS;omega
      rw[hn];exact UK hp hk (small hk) XU
   |some nx=>obtain⟨n,zs⟩:=nx;obtain⟨h1,h2,_⟩:=Lh.box n zs hb;rw[h1];show v= .pointer (ah (ad ((qO σ c ps).P (dS p 900)).blk 0));rw[(uC (BB hp hb)).1];exact h2
  ·obtain⟨b,hv,hf⟩:=hh.fb (p-ps.length) cs H6;rw[show ps.length+(p-ps.length)=p by omega]at hv;exact⟨_,hv,b,rfl,hf.frame (λ_ _=>rfl) (λb hb=> .inl hb)⟩
 ·rintro b ⟨m,ob,h,hf⟩;obtain⟨n,o,p,pa,_,hp,hn,ho,_,pY,_⟩:=xP cf hh h;exact⟨n,JC hp hn,o,ho,pY b hf⟩
end
end Go.FG

namespace Go.FG
def tV(p j:aF)(a:AA):AV:=match a with| .kp _=> .own (dS p j)|a=>lD (dS p (100+j)) a
def oj(p:aF):aF->az AA->az AV
 |_,[]=>[]|j,a::r=>tV p j a::oj p (j+1) r
def JM(p j:aF)(a b:AA):az (aF×eT):=
 match b with
 | .kp ys=>(match a with| .ow e ex _=>[(c8 (dS p j), .o (.row e ex ys))]|_=>[])
 | .ow e ex ys=>[(c8 (dS p (100+j)), .o (.row e ex ys))]
 |_=>[]
def tW(p:aF):aF->az AA->az AA->az (aF×eT)
 |_,_,[]=>[]|j,as,b::r=>JM p j (as.headD .nl) b++tW p (j+1) as.tail r
def CW(p:aF)(a:fw)(l:az AA):az (aF×eT):=
 match a with
 | .v _ xs=>tW p 0 xs l
 | .pt xs=>(c8 (dS p 900), .o (.box (oj p 0 l)))::tW p 0 xs l
 | .fb _=>[]
def LI:aF->az fw->az (az AA)->az (aF×eT)
 |_,[],_=>[]|p,a::r,l=>CW p a (l.headD [])++LI (p+1) r l.tail
def LO:aF->az fw->az (aF×eT)
 |_,[]=>[]|q,a::r=>vB q a++LO (q+1) r
def oC(args:az fw)(r:dA):St:=fM (LO 500 r.rs++LI 0 args r.outs)
def GR(q:aF)(a:fw):aX×az AV:=match a with| .v g xs=>(g,gz (dS q 0) xs)| .pt _=>(ak,[.bp (dS q 900) 0])| .fb xs=>(ak,[.fp xs 0])
def lE:aF->az fw->az (aX×az AV)
 |_,[]=>[]|q,a::r=>GR q a::lE (q+1) r
def ZE(rs:az fw):SV:=sF (lE 500 rs)
def R8(T:Tab)(args:az fw)(r:dA)(c1:e9)(w:bL)(v:bk)(w':bL):Prop:=
 ∃c3,Ok T (oC args r) w' c3/\oG (inj args) c1 w (oC args r) c3 w'/\(∀m,inj args (c8 m)≠ .j9->c3.P m=c1.P m/\c3.G m=c1.G m)/\jm T w' c3 (ZE r.rs) v
def lS(P:c5)(T:Tab)(g:aF)(spec:az fw->aC (aX×dA)):Prop:=
 ∀args r,spec args=ah (ai,r)->∀(w:bL) (c1:e9) (vs:du bk),Ok T (inj args) w c1->vs.size=args.length->(∀(p:aF) (x:fw),args[p]? =ah x->∃v,vs[p]? =ah v/\jm T w c1 (tM p x) v)->
  (∃fn,P.funcs[g]? =ah fn/\fn.body.isSome=ai/\(fn.name== "runtime.NumGoroutine")=ak)/\Calls P g vs w (λ| .returned v,w'=>R8 T args r c1 w v w'|_,_=>False)
abbrev DF:=aF×aC aF×Obj
def find(L:az DF)(m:aF):aC aF:=
 match L with
 |[]=>aj
 |(n,t,_)::r=>if m=n then t else find r m
theorem I8{L:az DF}{m x:aF}(h:find L m=ah x):∃ob,(m,ah x,ob)∈L:=by
 induction L with
 |nil=>cases h
 |cons d L ih=>
  obtain⟨n,t,ob⟩:=d;unfold find at h;split at h
  ·rename_i hm;subst hm;rw[h];exact⟨ob,dq ..⟩
  ·obtain⟨ob,h⟩:=ih h;exact⟨ob,c7 _ h⟩
theorem XD{L:az DF}{m:aF}{t:aC aF}{ob:Obj}(h:(m,t,ob)∈L)(hn:(L.map (·.1)).Nodup):find L m=t:=by
 induction L with
 |nil=>cases h
 |cons d L ih=>
  obtain⟨n,t',ob'⟩:=d;rw[fD,lh]at hn;unfold find;rcases cB.1 h with h'|h'
  ·cases h';rw[bz rfl]
  ·have iB:m≠n:=λe=>hn.1 (cW.2 ⟨_,h',e⟩);rw[bH iB];exact ih h' hn.2
def mb(ok:aX)(L:az DF)(v v3:AV):Prop:=
 (v=v3/\match v with| .i _ _=>True| .b _=>True| .s _=>True| .nl=>True| .sh _ _=>ok=ai|_=>False)\/∃n x ob,v= .own n/\v3= .own x/\(n,ah x,ob)∈L
def aah(L:az DF)(v v3:AV):Prop:=∃n x ob,v= .bp n 0/\v3= .bp x 0/\(n,ah x,ob)∈L
def nT(ok:aX)(L:az DF)(vs vs3:az AV):Prop:=vs.length=vs3.length/\∀(j:aF) (v v3:AV),vs[j]? =ah v->vs3[j]? =ah v3->mb ok L v v3
def ArgRel(ok:aX)(L:az DF)(s s3:aX×az AV):Prop:=s.1=s3.1/\s.2.length=s3.2.length/\∀(j:aF) (v v3:AV),s.2[j]? =ah v->s3.2[j]? =ah v3->mb ok L v v3\/aah L v v3
def FK(ok:aX)(L:az DF)(s s3:az (aX×az AV)):Prop:=s.length=s3.length/\∀(j:aF) (x x3:aX×az AV),s[j]? =ah x->s3[j]? =ah x3->ArgRel ok L x x3
structure aap (σ σ3:St) (c c3:e9) (ok:aX) (uK:az aF) (L:az DF) (n:aF) (t:aC aF) (ob:Obj):Prop where
 old:σ (c8 n)≠ .j9->n∈uK
 new:σ (c8 n)= .j9->n<900000000
 dead:t=aj->ob= .dead
 some_:∀x,t=ah x->(σ (c8 n)≠ .j9->c3.P x=c.P n/\c3.G x=c.G n)/\
  ((∃e ex ys,ob= .row e ex ys/\σ3 (c8 x)= .o (.row e ex ys)/\(ex=ai\/ok=ai))\/∃vs vs3,ob= .box vs/\σ3 (c8 x)= .o (.box vs3)/\nT ok L vs vs3)
section
variable {P:c5} {E:fQ} {σ:St} {a:Act} {w:bL} {c:e9} {o:fC} {nm:aF} {e:s8}
theorem leave(cf:Ok E σ w c)(dK:fE E σ a w c)(hd:∀d,o.dst=ah d->d<a.tmps.size){ps:az Pa}{Bt:az (az CV)}{vs:du bk}(hh:Handed E σ w c ps Bt vs)
  {r:dA} {v:bk} {w':bL} {c3:e9} (Hd:Ok E (oC (jO ps Bt) r) w' c3) (yM:oG (inj (jO ps Bt)) (qO σ c ps) w (oC (jO ps Bt) r) c3 w') (yN:jm E w' c3 (ZE r.rs) v)
  {ok:aX} {L:az DF} {Fz:az (aF×Obj)} (hL:∀n t ob,(n,t,ob)∈L->aap σ (oC (jO ps Bt) r) c c3 ok (ps.flatMap (·.uK)) L n t ob) (Jk:(L.map (·.1)).Nodup)
  (arZ:∀n n' x ob ob',(n,ah x,ob)∈L->(n',ah x,ob')∈L->n=n') (n5:∀n∈ps.flatMap (·.uK),∃t ob,(n,t,ob)∈L)
  (hFz:∀n x,(n,x)∈Fz->ok=ai/\n∈ps.flatMap (·.nP)/\∃el ex xs,σ (c8 n)= .o (.row el ex xs)/\x= .fT el xs) (hFa:ok=ai->∀n∈ps.flatMap (·.nP),∃x,(n,x)∈Fz)
  {ss:az (aX×az AV)} (hss:FK ok L ss (lE 500 r.rs)):
  ∃c',Ok E (wr σ (kq (Fz++L.map λt=>(t.1,t.2.2))++dw o (sF ss))) w' c'/\fE E (wr σ (kq (Fz++L.map λt=>(t.1,t.2.2))++dw o (sF ss))) (a.put o.dst v) w' c'/\oG σ c w (wr σ (kq (Fz++L.map λt=>(t.1,t.2.2))++dw o (sF ss))) c' w'/\jI σ c c':=by
 obtain⟨S1,_,aji⟩:=enter cf hh;let D:az (aF×Obj):=Fz++L.map λt=>(t.1,t.2.2)
 have TX:∀n x,(n,x)∈D->(n,x)∈Fz\/∃t,(n,t,x)∈L:=by
  intro n x hm;rcases ba.1 hm with h|h
  ·exact .inl h
  ·obtain⟨⟨n',t,ob⟩,h1,h2⟩:=cW.1 h;cases h2;exact .inr ⟨t,h1⟩
 have inD:∀n t ob,(n,t,ob)∈L->(n,ob)∈D:=λn t ob h=>bN _ (cW.2 ⟨_,h,rfl⟩);have auS:∀n,n∈ps.flatMap (·.uK)->uV D n:=λn hn=>by obtain⟨t,ob,h⟩:=n5 n hn;exact⟨ob,inD n t ob h⟩
 have LL:∀b,wO (inj (jO ps Bt)) (qO σ c ps) b->ka (uV D) σ c b:=λb hb=>by obtain⟨n,hn,ob,h1,h2⟩:=aji b hb;exact⟨n,ob,auS n hn,h1,h2⟩
 let K':aF->Prop:=λb=>if ok=ai then c3.K b else c.K b
 let c':e9:=⟨λm=>match find L m with|some x=>c3.P x|none=>c.P m,λm=>match find L m with|some x=>c3.G x|none=>c.G m,K'⟩
 have at_:∀n x ob,(n,ah x,ob)∈L->c'.P n=c3.P x/\c'.G n=c3.G x:=λn x ob h=>by have:=XD h Jk;simp only[c',this];exact⟨trivial,trivial⟩
 have aj0:∀n,find L n=aj->c'.P n=c.P n/\c'.G n=c.G n:=λn h=>by simp only[c',h];exact⟨trivial,trivial⟩
 have hA:jI σ c c':=by
  intro m hm;cases hf:find L m with
  |none=>exact aj0 m hf
  |some x=>
   obtain⟨ob,hx⟩:=I8 hf;obtain⟨e1,e2⟩:=at_ m x ob hx;have he:=hL m _ ob hx;rw[e1,e2];by_cases hn:σ (c8 m)= .j9
   ·have:=he.new hn;rcases hm with h|h
    ·exact cJ hn h
    ·omega
   ·exact(he.some_ x rfl).1 hn
 have Kok:ok=ai->∀b,K' b↔c3.K b:=λh b=>by simp only[K',h,if_true]
 have Kno:ok=ak->∀b,K' b↔c.K b:=λh b=>by simp only[K',h];simp
 have K13:∀b,(qO σ c ps).K b->c3.K b:=yM.K;have cK1:∀b,c.K b->(qO σ c ps).K b:=λb hb=> .inl hb;have hK:∀b,c.K b->K' b:=λb hb=>by
  cases h:ok with
  |true=>exact(Kok h b).2 (K13 b (cK1 b hb))
  |false=>exact(Kno h b).2 hb
 have Wt:∀b,K' b->c.K b\/ka (uV D) σ c b\/w.heap.size<=b:=λb hb=>by
  cases h:ok with
  |true=>
   rcases yM.kn b ((Kok h b).1 hb)with h1|h1|h1
   ·rcases h1 with h1|⟨n,hn,ob,h2,h3⟩
    ·exact .inl h1
    ·obtain⟨x,hx⟩:=hFa h n hn;exact .inr (.inl ⟨n,ob,⟨x,bM _ hx⟩,h2,h3⟩)
   ·exact .inr (.inl (LL b h1))
   ·exact .inr (.inr h1)
  |false=>exact .inl ((Kno h b).1 hb)
 have Ha:∀b,K' b->b<w'.heap.size:=λb hb=>by
  cases h:ok with
  |true=>exact Hd.lt b ((Kok h b).1 hb)
  |false=>exact jy (cf.lt b ((Kno h b).1 hb)) yM.size
 have SN:∀n x ob b,(n,ah x,ob)∈L->fL c' n ob b->∃o3,oC (jO ps Bt) r (c8 x)= .o o3/\fL c3 x o3 b:=by
  intro n x ob b hm hf;obtain⟨e1,e2⟩:=at_ n x ob hm;rcases((hL n _ ob hm).some_ x rfl).2 with ⟨e,ex,ys,rfl,h3,_⟩|⟨us,us3,rfl,h3,_⟩
  ·refine⟨_,h3, ?_⟩
   simp only[fL,e1,e2]at hf⊢;exact hf
  ·refine⟨_,h3, ?_⟩
   simp only[fL,e1]at hf⊢;exact hf
 have Ss:∀{v v3:AV} {u:bk},mb ok L v v3->eM E w' c3 v3 u->eM E w' c' v u/\∀n∈bS v,uV D n:=by
  rintro v v3 u (⟨rfl,h⟩|⟨n,x,ob,rfl,rfl,hm⟩) hu
  ·cases v with
   |sh e xs=>exact⟨c_.frame hu (λ_ _=>rfl) (λb hb=>(Kok h b).2 hb),λn hn=>by simp[bS]at hn⟩
   |i=>exact⟨hu,λn hn=>by simp[bS]at hn⟩
   |b=>exact⟨hu,λn hn=>by simp[bS]at hn⟩
   |s=>exact⟨hu,λn hn=>by simp[bS]at hn⟩
   |nl=>exact⟨hu,λn hn=>by simp[bS]at hn⟩
   |_=>exact h.elim
  ·refine⟨?_,λm xN=> ?_⟩
   ·show u=lW (c'.P n);rw[(at_ n x ob hm).1];exact hu
   ·have:m=n:=by simpa [bS]using xN
    subst this;exact⟨ob,inD _ _ _ hm⟩
 have arl:∀{v v3:AV} {u:bk},aah L v v3->eM E w' c3 v3 u->eM E w' c' v u/\∀n∈bS v,uV D n:=by
  rintro v v3 u ⟨n,x,ob,rfl,rfl,hm⟩ hu;refine⟨?_,λm xN=> ?_⟩
  ·show u= .pointer (ah (ad (c'.P n).blk 0));rw[(at_ n x ob hm).1];exact hu
  ·have:m=n:=by simpa [bS]using xN
   subst this;exact⟨ob,inD _ _ _ hm⟩
 have aaY:∀{s s3:aX×az AV} {u:bk},ArgRel ok L s s3->qq E w' c3 s3.1 s3.2 u->qq E w' c' s.1 s.2 u/\∀n∈s.2.flatMap bS,uV D n:=by
  rintro ⟨g,xs⟩ ⟨g3,xs3⟩ u ⟨h1,h2,h3⟩ hu;have h1:g=g3:=h1;subst h1;have one:∀(j:aF) (y:AV) (uu:bk),xs[j]? =ah y->(∀y3,xs3[j]? =ah y3->eM E w' c3 y3 uu)->eM E w' c' y uu/\∀n∈bS y,uV D n:=by
   intro j y uu hj hu3;have j8:j<xs3.length:=by rw[<-h2];exact(aT.1 hj).1
   have Nx:=h3 j y xs3[j] hj (by simp[j8]);have sD:=hu3 xs3[j] (by simp[j8]);rcases Nx with h|h
   ·exact Ss h sD
   ·exact arl h sD
  replace hu:qq E w' c3 g xs3 u:=hu;unfold qq at hu;split at hu
  ·rename_i y3;obtain⟨y,rfl⟩:=g6.1 (show xs.length=1 from h2);obtain⟨k1,k2⟩:=one 0 y u rfl (λy3' h=>by cases h;exact hu);exact⟨k1,λn hn=>k2 n (by simpa using hn)⟩
  ·obtain⟨vals,rfl,hs,hv⟩:=hu;have cell:∀(j:aF) (y:AV),xs[j]? =ah y->∃uu:bk,vals[j]? =ah uu/\eM E w' c' y uu/\∀n∈bS y,uV D n:=by
    intro j y hj;have j8:j<xs3.length:=by rw[<-h2];exact(aT.1 hj).1
    obtain⟨uu,hu,ha⟩:=hv j xs3[j] (by simp[j8]);obtain⟨k1,k2⟩:=one j y uu hj (λy3' h=>by simp[j8]at h;rw[<-h];exact ha);exact⟨uu,hu,k1,k2⟩
   refine⟨⟨vals,rfl,by rw[hs];exact h2.symm,λj y hj=> ?_⟩,λn hn=> ?_⟩
   ·obtain⟨uu,k1,k2,_⟩:=cell j y hj;exact⟨uu,k1,k2⟩
   ·obtain⟨y,hy,hn⟩:=bQ.1 hn;obtain⟨j,hj⟩:=bY hy;obtain⟨uu,_,_,k3⟩:=cell j y hj;exact k3 n hn
  ·exact hu.elim
 have aml:jm E w' c' (sF ss) v/\∀n∈cO (sF ss),uV D n:=by
  obtain⟨hl,hr⟩:=hss;have kl:∀(l l3:az (aX×az AV)),l=ss->l3=lE 500 r.rs->jm E w' c3 (.kl l3) v->jm E w' c' (.kl l) v/\∀n∈cO (.kl l),uV D n:=by
   rintro l l3 rfl rfl ⟨us,rfl,hs,hv⟩;have cell:∀(j:aF) (x:aX×az AV),l[j]? =ah x->∃u:bk,us[j]? =ah u/\qq E w' c' x.1 x.2 u/\∀n∈x.2.flatMap bS,uV D n:=by
    intro j x hj;have j8:j<(lE 500 r.rs).length:=by rw[<-hl];exact(aT.1 hj).1
    have h3:(lE 500 r.rs)[j]? =ah ((lE 500 r.rs)[j].1,(lE 500 r.rs)[j].2):=by simp[j8]
    obtain⟨u,hu,ha⟩:=hv j _ _ h3;obtain⟨k1,k2⟩:=aaY (hr j x _ hj h3) ha;exact⟨u,hu,k1,k2⟩
   refine⟨⟨us,rfl,by rw[hs];exact hl.symm,λj g xs hj=> ?_⟩,λn hn=> ?_⟩
   ·obtain⟨u,k1,k2,_⟩:=cell j (g,xs) hj;exact⟨u,k1,k2⟩
   ·obtain⟨x,hx,hn⟩:=bQ.1 hn;obtain⟨j,hj⟩:=bY hx;obtain⟨u,_,_,k3⟩:=cell j x hj;exact k3 n hn
  unfold ZE at yN;cases h3:lE 500 r.rs with
  |nil=>rw[h3]at yN hl;have:ss=[]:=gd hl;subst this;exact kl [] [] rfl h3.symm yN
  |cons x l=>
   cases l with
   |nil=>obtain⟨g,xs⟩:=x;rw[h3]at yN hl;obtain⟨⟨g',Mi⟩,rfl⟩:=g6.1 (show ss.length=1 from hl);exact aaY (s3:=(g,xs)) (hr 0 _ _ rfl (by rw[h3];rfl)) yN
   |cons y l=>
    rw[h3]at yN hl;match ss,hl with
    |s1::s2::st,_=>exact kl _ (x::y::l) rfl h3.symm yN
    |[_],hl=>simp at hl
    |[],hl=>simp at hl
 refine⟨c', ?_⟩
 have:=IG cf dK hd (D:=D) (s:=sF ss) (v:=v) (w':=w') (c':=c') hA ?_ ?_ ?_ ?_ hK Wt Ha ?_ yM.size yM.os yM.tape yM.output aml.1 (λn hn=> .inr (aml.2 n hn))
 ·exact⟨this.1,this.2.1,this.2.2,hA⟩
 ·intro n x hm;rcases TX n x hm with hm|⟨t,hm⟩
  ·obtain⟨S3,hn,el,ex,xs,hg,rfl⟩:=hFz n x hm;have ajf:find L n=none:=by
    cases hf:find L n with
    |none=>rfl
    |some x=>obtain⟨ob,hx⟩:=I8 hf;have:=(hL n _ ob hx).old (by rw[hg];simp);exact cJ hn (hh.ap n this)
   obtain⟨e1,_⟩:=aj0 n ajf;obtain⟨h1,h2,ti,h3,h4⟩:=ly cf hg;show c_ E w' K' (lW (c'.P n)) _/\(c'.P n).n=_/\_;rw[e1];refine⟨?_,h1,ti,h3,h4.1⟩
   have:=sd cf hg (K:=(qO σ c ps).K) cK1 (λb hb=> .inr ⟨n,hn,_,hg,hb⟩);exact this.frame (yM.aas S1) (λb hb=>(Kok S3 b).2 (K13 b hb))
  ·have he:=hL n t x hm;cases t with
   |none=>rw[he.dead rfl];trivial
   |some y=>
    obtain⟨e1,e2⟩:=at_ n y x hm;rcases(he.some_ y rfl).2 with ⟨el,ex,ys,rfl,h3,hor⟩|⟨us,us3,rfl,h3,hl,hc⟩
    ·obtain⟨⟨t2,r1,r2,r3⟩,r4,r5⟩:=Hd.obj y _ h3;refine⟨⟨t2,r1,by rw[e1];exact r2,r3⟩, ?_,λhx=>by rw[e1,e2];exact r5 hx⟩
     rw[e1,e2];refine r4.frame (λ_=>rfl) (λi j yy xx u hy hx hr=> ?_);split at hr
     ·rename_i pL;rw[bz pL];exact hr
     ·rename_i pL;rw[bH pL];have S3:=hor.resolve_left pL;exact hr.frame (λ_ _=>rfl) (λb hb=>(Kok S3 b).2 hb)
    ·obtain⟨vals,hb,hs,hv⟩:=Hd.obj y _ h3;refine⟨vals,by rw[e1];exact hb,by rw[hs];exact hl.symm,λj yy hj=> ?_⟩
     have j8:j<us3.length:=by rw[<-hl];exact(aT.1 hj).1
     obtain⟨u,hu,ha⟩:=hv j us3[j] (by simp[j8]);exact⟨u,hu,(Ss (hc j yy us3[j] hj (by simp[j8])) ha).1⟩
 ·intro n x b hm hf;rcases TX n x hm with hm|⟨t,hm⟩
  ·obtain⟨_,_,el,ex,xs,_,rfl⟩:=hFz n x hm;exact hf.elim
  ·cases t with
   |none=>rw[(hL n _ x hm).dead rfl]at hf;exact hf.elim
   |some y=>
    obtain⟨o3,h3,hf3⟩:=SN n y x b hm hf;have wg:ka (uV D) σ c b\/w.heap.size<=b:=(yM.own b ⟨y,o3,h3,hf3⟩).imp (LL b) id;refine⟨wg,λhk=> ?_⟩
    cases h:ok with
    |true=>exact Hd.kk y o3 b h3 hf3 ((Kok h b).1 hk)
    |false=>
     have hk:=(Kno h b).1 hk;rcases wg with wg|wg
     ·exact cf.JF wg.own hk
     ·have:=cf.lt b hk;omega
 ·intro n x n' x' b hm xN hf vu;rcases TX n x hm with hm|⟨t,hm⟩
  ·obtain⟨_,_,el,ex,xs,_,rfl⟩:=hFz n x hm;exact hf.elim
  ·rcases TX n' x' xN with xN|⟨t',xN⟩
   ·obtain⟨_,_,el,ex,xs,_,rfl⟩:=hFz n' x' xN;exact vu.elim
   ·cases t with
    |none=>rw[(hL n _ x hm).dead rfl]at hf;exact hf.elim
    |some y=>
     cases t' with
     |none=>rw[(hL n' _ x' xN).dead rfl]at vu;exact vu.elim
     |some y'=>obtain⟨o3,h3,hf3⟩:=SN n y x b hm hf;obtain⟨o3',Nx,arN⟩:=SN n' y' x' b xN vu;have:=Hd.sep y o3 y' o3' b h3 Nx hf3 arN;subst this;exact arZ n n' y x x' hm xN
 ·intro n xs hm y hy m hmm;rcases TX n _ hm with hm|⟨t,hm⟩
  ·obtain⟨_,_,el,ex,zs,_,h⟩:=hFz n _ hm;cases h
  ·have he:=hL n t _ hm;cases t with
   |none=>have:=he.dead rfl;cases this
   |some z=>
    rcases(he.some_ z rfl).2 with ⟨el,ex,ys,h,_⟩|⟨us,us3,h,h3,hl,hc⟩
    ·cases h
    ·cases h;obtain⟨j,hj⟩:=bY hy;have j8:j<us3.length:=by rw[<-hl];exact(aT.1 hj).1
     rcases hc j y us3[j] hj (by simp[j8])with ⟨h1,h2⟩|⟨n',x',ob',h1,_,h2⟩
     ·exfalso;subst h1;cases h:us3[j]<;>rw[h]at hmm h2<;>first|(simp[bS]at hmm;done)|exact h2
     ·rw[h1]at hmm;have:m=n':=by simpa [bS]using hmm
      subst this;exact .inr ⟨ob',inD _ _ _ h2⟩
 ·intro b hb XQ;exact yM.same b hb (λho=>XQ (LL b ho))
end
end Go.FG

namespace Go.FG
def Mp(a:fw)(xs:az AA):Prop:=(∃g,a= .v g xs)\/a= .pt xs
inductive BO (args:az fw) (r:dA):aF->eT->Prop
 |rb (q xs):r.rs[q]? =ah (.pt xs)->BO args r (dS (500+q) 900) (.o (.box (gz (dS (500+q) 0) xs)))
 |rr (q a xs j e ex ys):r.rs[q]? =ah a->Mp a xs->xs[j]? =ah (.ow e ex ys)->BO args r (dS (500+q) j) (.o (.row e ex ys))
 |ob (p xs):args[p]? =ah (.pt xs)->BO args r (dS p 900) (.o (.box (oj p 0 (r.outs.getD p []))))
 |kp (p a xs j e ex z ys):args[p]? =ah a->Mp a xs->xs[j]? =ah (.ow e ex z)->(r.outs.getD p [])[j]? =ah (.kp ys)->BO args r (dS p j) (.o (.row e ex ys))
 |nw (p a xs j e ex ys):args[p]? =ah a->Mp a xs->(r.outs.getD p [])[j]? =ah (.ow e ex ys)->BO args r (dS p (100+j)) (.o (.row e ex ys))
theorem JA:∀{l:az fw} {q:aF} {k:aF} {c:eT},(k,c)∈LO q l↔∃i a,l[i]? =ah a/\(k,c)∈vB (q+i) a:=by
 intro l;induction l with
 |nil=>intro q k c;simp[LO]
 |cons a l ih=>
  intro q k c;simp only[LO,ba,ih];constructor
  ·rintro (h|⟨i,b,h0,h⟩)
   ·exact⟨0,a,rfl,h⟩
   ·exact⟨i+1,b,h0,by rw[show q+(i+1)=q+1+i by omega];exact h⟩
  ·rintro ⟨i,b,h0,h⟩;cases i with
   |zero=>cases h0;exact .inl h
   |succ i=>exact .inr ⟨i,b,h0,by rw[show q+1+i=q+(i+1)by omega];exact h⟩
theorem Jz:∀{l:az fw} {p:aF} {os:az (az AA)} {k:aF} {c:eT},(k,c)∈LI p l os↔∃i a,l[i]? =ah a/\(k,c)∈CW (p+i) a (os.getD i []):=by
 intro l;induction l with
 |nil=>intro p os k c;simp[LI]
 |cons a l ih=>
  intro p os k c;have h0:os.headD []=os.getD 0 []:=by cases os<;>rfl
  have h1:∀i,os.tail.getD i []=os.getD (i+1) []:=λi=>by cases os<;>simp
  simp only[LI,ba,ih,h0,h1];constructor
  ·rintro (h|⟨i,b,hb,h⟩)
   ·exact⟨0,a,rfl,h⟩
   ·exact⟨i+1,b,hb,by rw[show p+(i+1)=p+1+i by omega];exact h⟩
  ·rintro ⟨i,b,hb,h⟩;cases i with
   |zero=>cases hb;exact .inl h
   |succ i=>exact .inr ⟨i,b,hb,by rw[show p+1+i=p+(i+1)by omega];exact h⟩
theorem zM{p j:aF}{a b:AA}{k:aF}{c:eT}:(k,c)∈JM p j a b↔(∃e ex z ys,a= .ow e ex z/\b= .kp ys/\k=c8 (dS p j)/\c= .o (.row e ex ys))\/∃e ex ys,b= .ow e ex ys/\k=c8 (dS p (100+j))/\c= .o (.row e ex ys):=by
 cases b with
 |kp ys=>
  cases a with
  |ow e ex z=>
   constructor
   ·intro h;have h:=aZ.1 h;cases h;exact .inl ⟨e,ex,z,ys,rfl,rfl,rfl,rfl⟩
   ·rintro (⟨e',uE,z',DD,h1,h2,h3,h4⟩|⟨_,_,_,h,_⟩)
    ·cases h1;cases h2;rw[h3,h4];exact aZ.2 rfl
    ·cases h
  |_=>simp[JM]
 |ow e ex ys=>
  constructor
  ·intro h;have h:=aZ.1 h;cases h;exact .inr ⟨e,ex,ys,rfl,rfl,rfl⟩
  ·rintro (⟨_,_,_,_,_,h,_⟩|⟨e',uE,DD,h2,h3,h4⟩)
   ·cases h
   ·cases h2;rw[h3,h4];exact aZ.2 rfl
 |_=>simp[JM]
theorem Lv{p:aF}:∀{l:az AA} {j:aF} {as:az AA} {k:aF} {c:eT},(k,c)∈tW p j as l↔∃i b,l[i]? =ah b/\(k,c)∈JM p (j+i) (as.getD i .nl) b:=by
 intro l;induction l with
 |nil=>intro j as k c;simp[tW]
 |cons b l ih=>
  intro j as k c;have h0:as.headD .nl=as.getD 0 .nl:=by cases as<;>rfl
  have h1:∀i,as.tail.getD i .nl=as.getD (i+1) .nl:=λi=>by cases as<;>simp
  simp only[tW,ba,ih,h0,h1];constructor
  ·rintro (h|⟨i,b',hb,h⟩)
   ·exact⟨0,b,rfl,h⟩
   ·exact⟨i+1,b',hb,by rw[show j+(i+1)=j+1+i by omega];exact h⟩
  ·rintro ⟨i,b',hb,h⟩;cases i with
   |zero=>cases hb;exact .inl h
   |succ i=>exact .inr ⟨i,b',hb,by rw[show j+1+i=j+(i+1)by omega];exact h⟩
theorem G9{xs:az AA}{i e:aF}{ex:aX}{z:aR}:xs.getD i .nl= .ow e ex z↔xs[i]? =ah (.ow e ex z):=by
 rw[cS];cases h:xs[i]? with
 |none=>simp
 |some x=>simp
theorem qR{p:aF}{a:fw}{l:az AA}{k:aF}{c:eT}:(k,c)∈CW p a l↔(∃xs,a= .pt xs/\k=c8 (dS p 900)/\c= .o (.box (oj p 0 l)))\/∃xs,Mp a xs/\((∃j e ex z ys,xs[j]? =ah (.ow e ex z)/\l[j]? =ah (.kp ys)/\k=c8 (dS p j)/\c= .o (.row e ex ys))\/∃j e ex ys,l[j]? =ah (.ow e ex ys)/\k=c8 (dS p (100+j))/\c= .o (.row e ex ys)):=by
 have cells:∀xs,(k,c)∈tW p 0 xs l↔((∃j e ex z ys,xs[j]? =ah (.ow e ex z)/\l[j]? =ah (.kp ys)/\k=c8 (dS p j)/\c= .o (.row e ex ys))\/∃j e ex ys,l[j]? =ah (.ow e ex ys)/\k=c8 (dS p (100+j))/\c= .o (.row e ex ys)):=by
  intro xs;rw[Lv];constructor
  ·rintro ⟨i,b,hb,h⟩;rw[bV]at h;rcases zM.1 h with ⟨e,ex,z,ys,h1,rfl,h2,h3⟩|⟨e,ex,ys,rfl,h2,h3⟩
   ·exact .inl ⟨i,e,ex,z,ys,G9.1 h1,hb,h2,h3⟩
   ·exact .inr ⟨i,e,ex,ys,hb,h2,h3⟩
  ·rintro (⟨i,e,ex,z,ys,h1,hb,h2,h3⟩|⟨i,e,ex,ys,hb,h2,h3⟩)
   ·exact⟨i,_,hb,zM.2 (.inl ⟨e,ex,z,ys,G9.2 h1,rfl,by rw[bV];exact h2,h3⟩)⟩
   ·exact⟨i,_,hb,zM.2 (.inr ⟨e,ex,ys,rfl,by rw[bV];exact h2,h3⟩)⟩
 cases a with
 |v g xs=>
  simp only[CW,cells];constructor
  ·intro h;exact .inr ⟨xs, .inl ⟨g,rfl⟩,h⟩
  ·rintro (⟨ys,h,_⟩|⟨ys,h|h,h'⟩)
   ·cases h
   ·obtain⟨g',h⟩:=h;cases h;exact h'
   ·cases h
 |pt xs=>
  simp only[CW,cB,cells,ji];constructor
  ·rintro (⟨h1,h2⟩|h)
   ·exact .inl ⟨xs,rfl,h1,h2⟩
   ·exact .inr ⟨xs, .inr rfl,h⟩
  ·rintro (⟨ys,h,h1,h2⟩|⟨ys,h|h,h'⟩)
   ·exact .inl ⟨h1,h2⟩
   ·obtain⟨g',h⟩:=h;cases h
   ·cases h;exact .inr h'
 |fb xs=>
  simp only[CW,gG,false_iff];rintro (⟨ys,h,_⟩|⟨ys,h|h,_⟩)
  ·cases h
  ·obtain⟨g',h⟩:=h;cases h
  ·cases h
theorem xF{args:az fw}{r:dA}{m:aF}{c:eT}:(c8 m,c)∈LO 500 r.rs++LI 0 args r.outs↔BO args r m c:=by
 rw[ba,JA,Jz];constructor
 ·rintro (⟨q,a,h0,h⟩|⟨p,a,h0,h⟩)
  ·rcases iD.1 h with ⟨xs,rfl,h1,rfl⟩|⟨xs,j,e,ex,ys,hx,hj,h1,rfl⟩
   ·rw[j4 h1];exact .rb q xs h0
   ·rw[j4 h1];exact .rr q a xs j e ex ys h0 hx hj
  ·rw[bV]at h;rcases qR.1 h with ⟨xs,rfl,h1,rfl⟩|⟨xs,hx,⟨j,e,ex,z,ys,h2,h3,h1,rfl⟩|⟨j,e,ex,ys,h3,h1,rfl⟩⟩
   ·rw[j4 h1];exact .ob p xs h0
   ·rw[j4 h1];exact .kp p a xs j e ex z ys h0 hx h2 h3
   ·rw[j4 h1];exact .nw p a xs j e ex ys h0 hx h3
 ·intro h;cases h with
  |rb q xs h0=>exact .inl ⟨q,_,h0,iD.2 (.inl ⟨xs,rfl,rfl,rfl⟩)⟩
  |rr q a xs j e ex ys h0 hx hj=>exact .inl ⟨q,a,h0,iD.2 (.inr ⟨xs,j,e,ex,ys,hx,hj,rfl,rfl⟩)⟩
  |ob p xs h0=>exact .inr ⟨p,_,h0,qR.2 (.inl ⟨xs,rfl,by rw[bV],by rw[bV]⟩)⟩
  |kp p a xs j e ex z ys h0 hx h2 h3=>exact .inr ⟨p,a,h0,qR.2 (.inr ⟨xs,hx, .inl ⟨j,e,ex,z,ys,h2,h3,by rw[bV],rfl⟩⟩)⟩
  |nw p a xs j e ex ys h0 hx h3=>exact .inr ⟨p,a,h0,qR.2 (.inr ⟨xs,hx, .inr ⟨j,e,ex,ys,h3,by rw[bV],rfl⟩⟩)⟩
def ZG:aC AA->aC eT
 |some (.ow e ex ys)=>ah (.o (.row e ex ys))|_=>aj
def kpC(a b:aC AA):aC eT:=
 match a,b with|some (.ow e ex _),ah (.kp ys)=>ah (.o (.row e ex ys))|_,_=>aj
def Sf:fw->az AA| .v _ xs=>xs| .pt xs=>xs| .fb _=>[]
theorem Mp.eq{a:fw}{xs:az AA}(h:Mp a xs):Sf a=xs:=by rcases h with ⟨g,rfl⟩|rfl<;>rfl
def EZ(args:az fw)(r:dA)(P J:aF):aC eT:=
 if 500<=P then(match r.rs[P-500]? with
  |some a=>if J=900 then ah (.o (.box (gz (dS P 0) (Sf a))))else ZG (Sf a)[J]?
  |none=>aj)
 else(match args[P]? with
  |some a=>if J=900 then ah (.o (.box (oj P 0 (r.outs.getD P []))))else if J<100 then kpC (Sf a)[J]? (r.outs.getD P [])[J]? else ZG (r.outs.getD P [])[J-100]?
  |none=>aj)
structure Small (args:az fw) (r:dA):Prop where
 a:∀(p:aF) (a:fw) (xs:az AA),args[p]? =ah a->Mp a xs->p<500
 rl:∀(q:aF) (a:fw) (xs:az AA),r.rs[q]? =ah a->Mp a xs->xs.length<=100
 o:∀p:aF,(r.outs.getD p []).length<=100
theorem IX{args:az fw}{r:dA}(hs:Small args r){m:aF}{c:eT}(h:BO args r m c):∃P J,m=dS P J/\J<1000/\EZ args r P J=ah c:=by
 cases h with
 |rb q xs h0=>exact⟨500+q,900,rfl,by omega,by simp[EZ,h0,Sf]⟩
 |rr q a xs j e ex ys h0 hx hj=>
  have:=hs.rl q a xs h0 hx;have j8:=(aT.1 hj).1;refine⟨500+q,j,rfl,by omega, ?_⟩
  have:j≠900:=by omega
  simp[EZ,h0,hx.eq,hj,this,ZG]
 |ob p xs h0=>
  have:=hs.a p _ xs h0 (.inr rfl);have:¬500<=p:=by omega
  exact⟨p,900,rfl,by omega,by simp[EZ,h0,this]⟩
 |kp p a xs j e ex z ys h0 hx h2 h3=>
  have:=hs.a p _ xs h0 hx;have h5:¬500<=p:=by omega
  have j8:=(aT.1 h3).1;have:=hs.o p;have Pw:j≠900:=by omega
  have CB:j<100:=by omega
  refine⟨p,j,rfl,by omega, ?_⟩
  simp only[EZ,h0,hx.eq,h2,h3,Pw,CB,h5,if_false,if_true,kpC]
 |nw p a xs j e ex ys h0 hx h3=>
  have:=hs.a p _ xs h0 hx;have h5:¬500<=p:=by omega
  have j8:=(aT.1 h3).1;have:=hs.o p;have Pw:¬100+j=900:=by omega
  have CB:¬100+j<100:=by omega
  refine⟨p,100+j,rfl,by omega, ?_⟩
  have hj3:100+j-100=j:=by omega
  simp only[EZ,h0,h3,Pw,CB,hj3,h5,if_false,ZG]
theorem zW:∀{l:az (aF×eT)} {k:aF} {c:eT},(k,c)∈l->(∀c',(k,c')∈l->c'=c)->fM l k=c:=by
 intro l;induction l with
 |nil=>intro k c h;cases h
 |cons d l ih=>
  obtain⟨k',c'⟩:=d;intro k c h hu;unfold fM;cases hb:bD k k' with
  |true=>have:=aU hb;subst this;exact hu c' (dq ..)
  |false=>
   rcases cB.1 h with h|h
   ·cases h;simp at hb
   ·exact ih h (λc'' h''=>hu c'' (c7 _ h''))
theorem xE{args:az fw}{r:dA}(hs:Small args r){m:aF}{c:eT}(h:BO args r m c):oC args r (c8 m)=c:=by refine zW (xF.2 h) (λc' h'=> ?_);obtain⟨P,J,h1,h2,h3⟩:=IX hs h;obtain⟨P',J',K6,Po,Nx⟩:=IX hs (xF.1 h');obtain⟨rfl,rfl⟩:=uM h2 Po (h1.symm.trans K6);rw[h3]at Nx;cases Nx;rfl
theorem qP{args:az fw}{r:dA}{m:aF}{o:Obj}(h:oC args r (c8 m)= .o o):BO args r m (.o o):=xF.1 (n6 h (by simp))
theorem wm{p:aF}:∀{xs:az AA} {j i:aF},(oj p j xs)[i]? =(xs[i]?).map (tV p (j+i)):=by
 intro xs;induction xs with
 |nil=>intro j i;simp[oj]
 |cons a xs ih=>
  intro j i;cases i with
  |zero=>rfl
  |succ i=>simp only[oj,dO,ih];congr 2;omega
theorem vC{p:aF}:∀{xs:az AA} {j:aF},(oj p j xs).length=xs.length:=by
 intro xs;induction xs with
 |nil=>intro j;rfl
 |cons a xs ih=>intro j;simp[oj,ih]
theorem Fw:∀{l:az fw} {q i:aF},(lE q l)[i]? =(l[i]?).map (GR (q+i)):=by
 intro l;induction l with
 |nil=>intro q i;simp[lE]
 |cons a l ih=>
  intro q i;cases i with
  |zero=>rfl
  |succ i=>simp only[lE,dO,ih];congr 2;omega
theorem xS:∀{l:az fw} {q:aF},(lE q l).length=l.length:=by
 intro l;induction l with
 |nil=>intro q;rfl
 |cons a l ih=>intro q;simp[lE,ih]
end Go.FG

namespace Go.FG
def mF(L:az DF):az (aF×eT):=kq (L.map λt=>(t.1,t.2.2))
theorem iQ(L R:az DF):mF (L++R)=mF L++mF R:=by simp[mF,kq]
def QW(ok:aX)(σ:St)(n:aF)(a:AA):Prop:=
 match a with
 | .ow _ ex _=>(ex=ai\/ok=ai)/\σ (c8 n)= .j9/\n<900000000
 | .sh _ _=>ok=ai| .kp _=>False| .fn _ _=>False|_=>True
def PR(n x:aF)(a:AA):az DF:=match a with| .ow e ex ys=>[(n,ah x, .row e ex ys)]|_=>[]
theorem Jy{n x:aF}{a:AA}{m:aF}{t:aC aF}{ob:Obj}:(m,t,ob)∈PR n x a↔∃e ex ys,a= .ow e ex ys/\m=n/\t=ah x/\ob= .row e ex ys:=by
 cases a with
 |ow e ex ys=>
  constructor
  ·intro h;have h:=aZ.1 h;cases h;exact⟨e,ex,ys,rfl,rfl,rfl,rfl⟩
  ·rintro ⟨e',uE,DD,h,rfl,rfl,rfl⟩;cases h;exact aZ.2 rfl
 |_=>simp[PR]
theorem mb.mono{ok:aX}{L L':az DF}{v v3:AV}(h:mb ok L v v3)(hs:∀e∈L,e∈L'):mb ok L' v v3:=h.imp id (λ⟨n,x,ob,h1,h2,h3⟩=>⟨n,x,ob,h1,h2,hs _ h3⟩)
theorem nT.mono{ok:aX}{L L':az DF}{v v3:az AV}(h:nT ok L v v3)(hs:∀e∈L,e∈L'):nT ok L' v v3:=⟨h.1,λj x y hx hy=>(h.2 j x y hx hy).mono hs⟩
section
variable {P:c5} {E:fQ} {σ:St} {a:Act} {w:bL} {c:e9} {o:fC} {nm:aF} {e:s8}
theorem ER{ok:aX}{n:aF}{a:AA}{v:AV}{ws:az (aF×eT)}(h:(rP ok n a).val σ=ah (v,ws)):QW ok σ n a/\v=lD n a/\∀x,ws=mF (PR n x a)/\mb ok (PR n x a) v (lD x a):=by
 cases a with
 |i=>obtain⟨rfl,rfl⟩:=bW (aJ h);exact⟨trivial,rfl,λx=>⟨rfl, .inl ⟨rfl,trivial⟩⟩⟩
 |b=>obtain⟨rfl,rfl⟩:=bW (aJ h);exact⟨trivial,rfl,λx=>⟨rfl, .inl ⟨rfl,trivial⟩⟩⟩
 |s=>obtain⟨rfl,rfl⟩:=bW (aJ h);exact⟨trivial,rfl,λx=>⟨rfl, .inl ⟨rfl,trivial⟩⟩⟩
 |nl=>obtain⟨rfl,rfl⟩:=bW (aJ h);exact⟨trivial,rfl,λx=>⟨rfl, .inl ⟨rfl,trivial⟩⟩⟩
 |sh e xs=>obtain⟨h1,h⟩:=cR h;obtain⟨rfl,rfl⟩:=bW (aJ h);exact⟨h1,rfl,λx=>⟨rfl, .inl ⟨rfl,h1⟩⟩⟩
 |ow e ex xs=>obtain⟨h1,h⟩:=cR h;obtain⟨u,h2,h⟩:=Rd.bind_some h;obtain⟨rfl,rfl⟩:=bW (aJ h);obtain⟨f1,f2⟩:=kL h2;exact⟨⟨by simpa using h1,f1,f2⟩,rfl,λx=>⟨rfl, .inr ⟨n,x,_,rfl,rfl,aZ.2 rfl⟩⟩⟩
 |kp=>simp[rP]at h
 |fn=>simp[rP]at h
theorem B_{ok:aX}{P:aF}:∀{xs:az AA} {n j:aF} {vs:az AV} {ws:az (aF×eT)},(Bn ok n xs).val σ=ah (vs,ws)->vs=gz n xs/\(∀(i:aF) (a:AA),xs[i]? =ah a->QW ok σ (n+i) a)/\
  ∃L,ws=mF L/\(∀m t ob,(m,t,ob)∈L↔∃i e ex ys,xs[i]? =ah (.ow e ex ys)/\m=n+i/\t=ah (dS P (j+i))/\ob= .row e ex ys)/\∀(i:aF) (v:AV) (a:AA),vs[i]? =ah v->xs[i]? =ah a->mb ok L v (lD (dS P (j+i)) a):=by
 intro xs;induction xs with
 |nil=>intro n j vs ws h;obtain⟨rfl,rfl⟩:=bW (aJ h);exact⟨rfl,λi a h=>by simp at h,[],rfl,λm t ob=>by simp,λi v a h=>by simp at h⟩
 |cons a xs ih=>
  intro n j vs ws h;obtain⟨⟨v,w1⟩,h1,h⟩:=Rd.bind_some h;obtain⟨⟨vr,w2⟩,h2,h⟩:=Rd.bind_some h;obtain⟨rfl,rfl⟩:=bW (aJ h);obtain⟨b1,rfl,b2⟩:=ER h1;obtain⟨rfl,b3⟩:=b2 (dS P j);obtain⟨i1,i2,L,rfl,i3,i4⟩:=ih (j:=j+1) h2;refine⟨by rw[i1];rfl,λi a' hi=> ?_,PR n (dS P j) a++L,by rw[iQ],λm t ob=> ?_,λi v' a' hv ha=> ?_⟩
  ·cases i with
   |zero=>cases hi;exact b1
   |succ i=>have:=i2 i a' hi;rwa[show n+1+i=n+(i+1)by omega]at this
  ·rw[ba,Jy,i3];constructor
   ·rintro (⟨e,ex,ys,rfl,rfl,rfl,rfl⟩|⟨i,e,ex,ys,h1,rfl,rfl,rfl⟩)
    ·exact⟨0,e,ex,ys,rfl,rfl,rfl,rfl⟩
    ·exact⟨i+1,e,ex,ys,h1,by omega,by rw[show j+1+i=j+(i+1)by omega],rfl⟩
   ·rintro ⟨i,e,ex,ys,h1,rfl,rfl,rfl⟩;cases i with
    |zero=>cases h1;exact .inl ⟨e,ex,ys,rfl,rfl,rfl,rfl⟩
    |succ i=>exact .inr ⟨i,e,ex,ys,h1,by omega,by rw[show j+1+i=j+(i+1)by omega],rfl⟩
  ·cases i with
   |zero=>cases hv;cases ha;exact b3.mono (λe he=>bM _ he)
   |succ i=>have:=(i4 i v' a' hv ha).mono (L':=PR n (dS P j) a++L) (λe he=>bN _ he);rwa[show j+1+i=j+(i+1)by omega]at this
def Ih(σ:St)(ok:aX)(b P:aF)(x:fw)(L:az DF)(n:aF)(t:aC aF)(ob:Obj):Prop:=
 (∃xs j e ex ys,Mp x xs/\xs[j]? =ah (.ow e ex ys)/\n=b+j/\t=ah (dS P j)/\ob= .row e ex ys/\(ex=ai\/ok=ai)/\σ (c8 n)= .j9/\n<900000000)\/
 ∃xs,x= .pt xs/\n=b+30/\t=ah (dS P 900)/\ob= .box (gz b xs)/\σ (c8 n)= .j9/\n<900000000/\nT ok L (gz b xs) (gz (dS P 0) xs)
theorem KG{ok:aX}{b P:aF}{x:fw}{s:aX×az AV}{ws:az (aF×eT)}(h:(GU ok b x).val σ=ah (s,ws)):∃L,ws=mF L/\(∀n t ob,(n,t,ob)∈L->Ih σ ok b P x L n t ob)/\ArgRel ok L s (GR P x):=by
 have tQ:∀j,dS P (0+j)=dS P 0+j:=λj=>by unfold dS;omega
 cases x with
 |v g xs=>
  obtain⟨⟨vs,w1⟩,h1,h⟩:=Rd.bind_some h;obtain⟨rfl,rfl⟩:=bW (aJ h);obtain⟨rfl,i2,L,rfl,i3,i4⟩:=B_ (P:=P) (j:=0) h1;refine⟨L,rfl,λn t ob hm=> ?_,rfl,by simp[GR,iV],λj v v3 hv D_=> .inl ?_⟩
  ·obtain⟨i,e,ex,ys,h1,rfl,rfl,rfl⟩:=(i3 n t ob).1 hm;have:=i2 i _ h1;exact .inl ⟨xs,i,e,ex,ys, .inl ⟨g,rfl⟩,h1,rfl,by rw[bV],rfl,this⟩
  ·have D_:(gz (dS P 0) xs)[j]? =ah v3:=D_;rw[iF]at D_;cases hx:xs[j]? with
   |none=>rw[hx]at D_;cases D_
   |some a=>rw[hx]at D_;cases D_;have:=i4 j v a hv hx;rwa[tQ]at this
 |pt xs=>
  obtain⟨⟨vs,w1⟩,h1,h⟩:=Rd.bind_some h;obtain⟨u,h2,h⟩:=Rd.bind_some h;obtain⟨rfl,rfl⟩:=bW (aJ h);obtain⟨f1,f2⟩:=kL h2;obtain⟨rfl,i2,L,rfl,i3,i4⟩:=B_ (P:=P) (j:=0) h1;have cr:nT ok L (gz b xs) (gz (dS P 0) xs):=by
   refine⟨by rw[iV,iV],λj v v3 hv D_=> ?_⟩
   rw[iF]at D_;cases hx:xs[j]? with
   |none=>rw[hx]at D_;cases D_
   |some a=>rw[hx]at D_;cases D_;have:=i4 j v a hv hx;rwa[tQ]at this
  refine⟨L++[(b+30,ah (dS P 900), .box (gz b xs))],by rw[iQ];rfl,λn t ob hm=> ?_,rfl,rfl,λj v v3 hv D_=> .inr ?_⟩
  ·rcases ba.1 hm with hm|hm
   ·obtain⟨i,e,ex,ys,h1,rfl,rfl,rfl⟩:=(i3 n t ob).1 hm;have:=i2 i _ h1;exact .inl ⟨xs,i,e,ex,ys, .inr rfl,h1,rfl,by rw[bV],rfl,this⟩
   ·rw[aZ]at hm;cases hm;exact .inr ⟨xs,rfl,rfl,rfl,rfl,f1,f2,cr.mono (λe he=>bM _ he)⟩
  ·cases j with
   |zero=>cases hv;cases D_;exact⟨_,_,_,rfl,rfl,bN _ (aZ.2 rfl)⟩
   |succ j=>simp at hv
 |fb xs=>simp[GU]at h
theorem ArgRel.mono{ok:aX}{L L':az DF}{s s3:aX×az AV}(h:ArgRel ok L s s3)(hs:∀e∈L,e∈L'):ArgRel ok L' s s3:=⟨h.1,h.2.1,λj x y hx hy=>(h.2.2 j x y hx hy).imp (λh=>h.mono hs) (λ⟨n,x,ob,h1,h2,h3⟩=>⟨n,x,ob,h1,h2,hs _ h3⟩)⟩
theorem Ih.mono{ok:aX}{b P:aF}{x:fw}{L L':az DF}{n:aF}{t:aC aF}{ob:Obj}(h:Ih σ ok b P x L n t ob)(hs:∀e∈L,e∈L'):Ih σ ok b P x L' n t ob:=h.imp id (λ⟨xs,h1,h2,h3,h4,h5,h6,h7⟩=>⟨xs,h1,h2,h3,h4,h5,h6,h7.mono hs⟩)
theorem Iv{ok:aX}:∀{l:az fw} {b P:aF} {ss:az (aX×az AV)} {ws:az (aF×eT)},(Ca ok b l).val σ=ah (ss,ws)->∃L,ws=mF L/\(∀n t ob,(n,t,ob)∈L->∃q x,l[q]? =ah x/\Ih σ ok (b+40*q) (P+q) x L n t ob)/\FK ok L ss (lE P l):=by
 intro l;induction l with
 |nil=>intro b P ss ws h;obtain⟨rfl,rfl⟩:=bW (aJ h);exact⟨[],rfl,λn t ob h=>(by cases h),rfl,λj x x3 h=>by simp at h⟩
 |cons x l ih=>
  intro b P ss ws h;obtain⟨⟨v,w1⟩,h1,h⟩:=Rd.bind_some h;obtain⟨⟨vr,w2⟩,h2,h⟩:=Rd.bind_some h;obtain⟨rfl,rfl⟩:=bW (aJ h);obtain⟨L1,rfl,a1,a2⟩:=KG (P:=P) h1;obtain⟨L2,rfl,b1,b2,b3⟩:=ih (P:=P+1) h2;refine⟨L1++L2,by rw[iQ],λn t ob hm=> ?_,by simp[lE,b2],λj s s3 hs hs3=> ?_⟩
  ·rcases ba.1 hm with hm|hm
   ·exact⟨0,x,rfl,(a1 n t ob hm).mono (λe he=>bM _ he)⟩
   ·obtain⟨q,y,hq,hr⟩:=b1 n t ob hm;refine⟨q+1,y,hq, ?_⟩
    rw[show b+40*(q+1)=b+40+40*q by omega,show P+(q+1)=P+1+q by omega];exact hr.mono (λe he=>bN _ he)
  ·cases j with
   |zero=>cases hs;cases hs3;exact a2.mono (λe he=>bM _ he)
   |succ j=>exact(b3 j s s3 hs hs3).mono (λe he=>bN _ he)
end
end Go.FG

namespace Go.FG
section
variable {P:c5} {E:fQ} {σ:St} {a:Act} {w:bL} {c:e9} {o:fC} {nm:aF} {e:s8}
def rq(σ:St)(ok bx:aX)(b p j:aF)(k:Pk)(a:AA)(n:aF)(t:aC aF)(ob:Obj):Prop:=
 (∃e ex,k.src= .own n e ex/\t=aj/\ob= .dead)\/
 (∃e ex ys,k.src= .own n e ex/\a= .kp ys/\t=ah (dS p j)/\ob= .row e ex ys/\(ex=ai\/ok=ai))\/
 ∃e ex ys,bx=ai/\a= .ow e ex ys/\n=b+j/\t=ah (dS p (100+j))/\ob= .row e ex ys/\(ex=ai\/ok=ai)/\σ (c8 n)= .j9/\n<900000000
theorem UG{ok:aX}{b p j:aF}{k:Pk}{a:AA}{ws:az (aF×eT)}(h:(Ft ok k a).val σ=ah ws):∃L,ws=mF L/\(∀n t ob,(n,t,ob)∈L->rq σ ok ak b p j k a n t ob)/\∀n e ex,k.src= .own n e ex->∃t ob,(n,t,ob)∈L:=by
 cases hs:k.src with
 |no=>
  have h:(Rd.ret []:Rd (az (aF×eT))).val σ=ah ws:=by unfold Ft at h;rw[hs]at h;exact h
  obtain rfl:=aJ h;exact⟨[],rfl,λn t ob h=>(by cases h),λn e ex h=>by cases h⟩
 |own n e ex=>
  cases a with
  |kp ys=>
   have h:(bif ex||ok then Rd.ret [(c8 n,eT.o (.row e ex ys))]else .fail).val σ=ah ws:=by unfold Ft at h;rw[hs]at h;exact h
   obtain⟨h1,h⟩:=cR h;obtain rfl:=aJ h;refine⟨[(n,ah (dS p j), .row e ex ys)],rfl,λm t ob hm=> ?_,λm e' uE h=> ?_⟩
   ·rw[aZ]at hm;cases hm;exact .inr (.inl ⟨e,ex,ys,hs,rfl,rfl,rfl,by simpa using h1⟩)
   ·cases h;exact⟨_,_,aZ.2 rfl⟩
  |nl=>
   have h:(Rd.ret [(c8 n,eT.o .dead)]:Rd (az (aF×eT))).val σ=ah ws:=by unfold Ft at h;rw[hs]at h;exact h
   obtain rfl:=aJ h;refine⟨[(n,aj, .dead)],rfl,λm t ob hm=> ?_,λm e' uE h=> ?_⟩
   ·rw[aZ]at hm;cases hm;exact .inl ⟨e,ex,hs,rfl,rfl⟩
   ·cases h;exact⟨_,_,aZ.2 rfl⟩
  |_=>unfold Ft at h;rw[hs]at h;simp at h
theorem PY{ok:aX}{b p:aF}:∀{r:az Pk} {l:az AA} {j:aF} {ws:az (aF×eT)},(LK ok r l).val σ=ah ws->∃L,ws=mF L/\(∀n t ob,(n,t,ob)∈L->∃i k,r[i]? =ah k/\rq σ ok ak b p (j+i) k (l.getD i .nl) n t ob)/\
  ∀(i:aF) (k:Pk) (n e:aF) (ex:aX),r[i]? =ah k->k.src= .own n e ex->∃t ob,(n,t,ob)∈L:=by
 intro r;induction r with
 |nil=>intro l j ws h;obtain rfl:=aJ h;exact⟨[],rfl,λn t ob h=>(by cases h),λi k n e ex h=>by simp at h⟩
 |cons k r ih=>
  intro l j ws h;obtain⟨w1,h1,h⟩:=Rd.bind_some h;obtain⟨w2,h2,h⟩:=Rd.bind_some h;obtain rfl:=aJ h;obtain⟨L1,rfl,a1,a2⟩:=UG (b:=b) (p:=p) (j:=j) h1;obtain⟨L2,rfl,b1,b2⟩:=ih (j:=j+1) h2;have e0:l.headD .nl=l.getD 0 .nl:=by cases l<;>rfl
  have e1:∀i,l.tail.getD i .nl=l.getD (i+1) .nl:=λi=>by cases l<;>simp
  refine⟨L1++L2,by rw[iQ],λn t ob hm=> ?_,λi k' n e ex hk hs=> ?_⟩
  ·rcases ba.1 hm with hm|hm
   ·exact⟨0,k,rfl,by rw[<-e0];exact a1 n t ob hm⟩
   ·obtain⟨i,k',hk,hc⟩:=b1 n t ob hm;rw[e1]at hc;exact⟨i+1,k',hk,by rw[show j+(i+1)=j+1+i by omega];exact hc⟩
  ·cases i with
   |zero=>cases hk;obtain⟨t,ob,h⟩:=a2 n e ex hs;exact⟨t,ob,bM _ h⟩
   |succ i=>obtain⟨t,ob,h⟩:=b2 i k' n e ex hk hs;exact⟨t,ob,bN _ h⟩
theorem PW{ok:aX}{b p j:aF}{k:Pk}{v v':AV}{a:AA}{ws:az (aF×eT)}(hv:∀n e ex,k.src= .own n e ex->v= .own n)(h:(CU ok (b+j) k v a).val σ=ah (v',ws)):
  ∃L,ws=mF L/\(∀n t ob,(n,t,ob)∈L->rq σ ok ai b p j k a n t ob)/\(∀n e ex,k.src= .own n e ex->∃t ob,(n,t,ob)∈L)/\mb ok L v' (tV p j a):=by
 have new:∀{v':AV} {ws:az (aF×eT)},(rP ok (b+j) a).val σ=ah (v',ws)->∃L,ws=mF L/\(∀n t ob,(n,t,ob)∈L->rq σ ok ai b p j k a n t ob)/\mb ok L v' (tV p j a):=by
  intro v' ws h;obtain⟨b1,rfl,b2⟩:=ER h;obtain⟨rfl,b3⟩:=b2 (dS p (100+j));refine⟨_,rfl,λn t ob hm=> ?_, ?_⟩
  ·obtain⟨e,ex,ys,rfl,rfl,rfl,rfl⟩:=Jy.1 hm;exact .inr (.inr ⟨e,ex,ys,rfl,rfl,rfl,rfl,rfl,b1⟩)
  ·have:tV p j a=lD (dS p (100+j)) a:=by cases a<;>first|rfl|exact b1.elim
   rw[this];exact b3
 cases hs:k.src with
 |no=>
  have h:(rP ok (b+j) a).val σ=ah (v',ws):=by unfold CU at h;rw[hs]at h;exact h
  obtain⟨L,rfl,a1,a2⟩:=new h;exact⟨L,rfl,a1,λm e' uE h=>(by cases h),a2⟩
 |own n e ex=>
  have other:((rP ok (b+j) a).bind λ(x:AV×az (aF×eT))=>Rd.ret (x.1,(c8 n,eT.o .dead)::x.2)).val σ=ah (v',ws)->∃L,ws=mF L/\(∀n t ob,(n,t,ob)∈L->rq σ ok ai b p j k a n t ob)/\(∀n' e' uE,Src.own n e ex= .own n' e' uE->∃t ob,(n',t,ob)∈L)/\mb ok L v' (tV p j a):=by
   intro h;obtain⟨⟨v1,w1⟩,h1,h⟩:=Rd.bind_some h;obtain⟨rfl,rfl⟩:=bW (aJ h);obtain⟨L,rfl,a1,a2⟩:=new h1;refine⟨(n,aj, .dead)::L,rfl,λm t ob hm=> ?_,λm e' uE h=> ?_,a2.mono (λe he=>c7 _ he)⟩
   ·rcases cB.1 hm with hm|hm
    ·cases hm;exact .inl ⟨e,ex,hs,rfl,rfl⟩
    ·exact a1 m t ob hm
   ·cases h;exact⟨_,_,dq ..⟩
  cases a with
  |kp ys=>
   have h:(bif ex||ok then Rd.ret (v,[(c8 n,eT.o (.row e ex ys))])else .fail).val σ=ah (v',ws):=by unfold CU at h;rw[hs]at h;exact h
   obtain⟨h1,h⟩:=cR h;obtain⟨rfl,rfl⟩:=bW (aJ h);refine⟨[(n,ah (dS p j), .row e ex ys)],rfl,λm t ob hm=> ?_,λm e' uE h=> ?_, .inr ⟨n,dS p j,_,hv n e ex hs,rfl,aZ.2 rfl⟩⟩
   ·rw[aZ]at hm;cases hm;exact .inr (.inl ⟨e,ex,ys,hs,rfl,rfl,rfl,by simpa using h1⟩)
   ·cases h;exact⟨_,_,aZ.2 rfl⟩
  |_=>exact other (by unfold CU at h;rw[hs]at h;exact h)
theorem LH{ok:aX}{b p:aF}:∀{r:az Pk} {vs:az AV} {l:az AA} {j:aF} {Kg:az AV} {ws:az (aF×eT)},(∀(i:aF) (k:Pk) (n e:aF) (ex:aX),r[i]? =ah k->k.src= .own n e ex->vs[i]? =ah (.own n))->(r_ ok (b+j) r vs l).val σ=ah (Kg,ws)->
  l.length=r.length/\∃L,ws=mF L/\(∀n t ob,(n,t,ob)∈L->∃i k,r[i]? =ah k/\rq σ ok ai b p (j+i) k (l.getD i .nl) n t ob)/\
  (∀(i:aF) (k:Pk) (n e:aF) (ex:aX),r[i]? =ah k->k.src= .own n e ex->∃t ob,(n,t,ob)∈L)/\Kg.length=l.length/\∀(i:aF) (v:AV) (a:AA),Kg[i]? =ah v->l[i]? =ah a->mb ok L v (tV p (j+i) a):=by
 intro r;induction r with
 |nil=>
  intro vs l j Kg ws hv h;cases vs with
  |cons=>cases l<;>simp[r_]at h
  |nil=>
   cases l with
   |cons=>simp[r_]at h
   |nil=>obtain⟨rfl,rfl⟩:=bW (aJ h);exact⟨rfl,[],rfl,λn t ob h=>(by cases h),λi k n e ex h=>by simp at h,rfl,λi v a h=>by simp at h⟩
 |cons k r ih=>
  intro vs l j Kg ws hv h;cases vs with
  |nil=>cases l<;>simp[r_]at h
  |cons v vs=>
   cases l with
   |nil=>simp[r_]at h
   |cons a l=>
    obtain⟨⟨v1,w1⟩,h1,h⟩:=Rd.bind_some h;obtain⟨⟨vr,w2⟩,h2,h⟩:=Rd.bind_some h;obtain⟨rfl,rfl⟩:=bW (aJ h);obtain⟨L1,rfl,a1,a2,a3⟩:=PW (p:=p) (λn e ex hs=>by have:=hv 0 k n e ex rfl hs;simpa using this) h1;obtain⟨i0,L2,rfl,b1,b2,b3,b4⟩:=ih (j:=j+1) (λi k' n e ex hk hs=>hv (i+1) k' n e ex hk hs) h2;refine⟨by simp[i0],L1++L2,by rw[iQ],λn t ob hm=> ?_,λi k' n e ex hk hs=> ?_,by simp[b3],λi v' a' hv' ha'=> ?_⟩
    ·rcases ba.1 hm with hm|hm
     ·exact⟨0,k,rfl,a1 n t ob hm⟩
     ·obtain⟨i,k',hk,hc⟩:=b1 n t ob hm;exact⟨i+1,k',hk,by rw[show j+(i+1)=j+1+i by omega];exact hc⟩
    ·cases i with
     |zero=>cases hk;obtain⟨t,ob,h⟩:=a2 n e ex hs;exact⟨t,ob,bM _ h⟩
     |succ i=>obtain⟨t,ob,h⟩:=b2 i k' n e ex hk hs;exact⟨t,ob,bN _ h⟩
    ·cases i with
     |zero=>cases hv';cases ha';exact a3.mono (λe he=>bM _ he)
     |succ i=>have:=(b4 i v' a' hv' ha').mono (L':=L1++L2) (λe he=>bN _ he);rwa[show j+1+i=j+(i+1)by omega]at this
def Ie(σ:St)(ok:aX)(b p:aF)(pa:Pa)(l:az AA)(L:az DF)(n:aF)(t:aC aF)(ob:Obj):Prop:=
 (∃i k,pa.cs[i]? =ah k/\rq σ ok pa.box.isSome b p i k (l.getD i .nl) n t ob)\/∃xs Kg,pa.box=ah (n,xs)/\t=ah (dS p 900)/\ob= .box Kg/\nT ok L Kg (oj p 0 l)
theorem UF{T:Tab}{nP:az aF}{v:bk}{ok:aX}{b p:aF}{pa:Pa}(Lh:AO T σ w c nP pa v){l:az AA}{ws:az (aF×eT)}(h:(UE ok b pa l).val σ=ah ws):
  ∃L,ws=mF L/\(∀n t ob,(n,t,ob)∈L->Ie σ ok b p pa l L n t ob)/\∀n∈pa.uK,∃t ob,(n,t,ob)∈L:=by
 have cs:∀n,n∈pa.cs.flatMap (·.uK)->∃(i:aF) (k:Pk) (e:aF) (ex:aX),pa.cs[i]? =ah k/\k.src= .own n e ex:=by
  intro n hn;obtain⟨k,hk,hn⟩:=bQ.1 hn;obtain⟨i,hi⟩:=bY hk;unfold Pk.uK at hn;split at hn
  ·rename_i m e ex hs;have:=aZ.1 hn;subst this;exact⟨i,k,e,ex,hi,hs⟩
  ·cases hn
 unfold UE at h;split at h
 ·rename_i n xs hb;obtain⟨⟨Kg,w1⟩,h1,h⟩:=Rd.bind_some h;obtain rfl:=aJ h;obtain⟨_,_,_,hl,_,wg⟩:=Lh.box n xs hb;obtain⟨i0,L,rfl,a1,a2,a3,a4⟩:=LH (b:=b) (p:=p) (j:=0) wg (by rw[yX];exact h1);have cr:nT ok L Kg (oj p 0 l):=by
   refine⟨by rw[vC,a3],λi v v3 hv D_=> ?_⟩
   rw[wm]at D_;cases hx:l[i]? with
   |none=>rw[hx]at D_;cases D_
   |some y=>rw[hx]at D_;cases D_;exact a4 i v y hv hx
  refine⟨L++[(n,ah (dS p 900), .box Kg)],by rw[iQ];rfl,λm t ob hm=> ?_,λm hm=> ?_⟩
  ·rcases ba.1 hm with hm|hm
   ·obtain⟨i,k,hk,hc⟩:=a1 m t ob hm;rw[bV]at hc;exact .inl ⟨i,k,hk,by rw[hb];exact hc⟩
   ·rw[aZ]at hm;cases hm;exact .inr ⟨xs,Kg,hb,rfl,rfl,cr.mono (λe he=>bM _ he)⟩
  ·unfold Pa.uK at hm;rw[hb]at hm;rcases ba.1 hm with hm|hm
   ·have:=aZ.1 hm;subst this;exact⟨_,_,bN _ (aZ.2 rfl)⟩
   ·obtain⟨i,k,e,ex,hk,hs⟩:=cs m hm;obtain⟨t,ob,h⟩:=a2 i k m e ex hk hs;exact⟨t,ob,bM _ h⟩
 ·rename_i hb;obtain⟨L,rfl,a1,a2⟩:=PY (b:=b) (p:=p) (j:=0) h;refine⟨L,rfl,λm t ob hm=> ?_,λm hm=> ?_⟩
  ·obtain⟨i,k,hk,hc⟩:=a1 m t ob hm;rw[bV]at hc;exact .inl ⟨i,k,hk,by rw[hb];exact hc⟩
  ·unfold Pa.uK at hm;rw[hb,gC]at hm;obtain⟨i,k,e,ex,hk,hs⟩:=cs m hm;exact a2 i k m e ex hk hs
theorem Ie.mono{ok:aX}{b p:aF}{pa:Pa}{l:az AA}{L L':az DF}{n:aF}{t:aC aF}{ob:Obj}(h:Ie σ ok b p pa l L n t ob)(hs:∀e∈L,e∈L'):Ie σ ok b p pa l L' n t ob:=
 h.imp id (λ⟨xs,Kg,h1,h2,h3,h4⟩=>⟨xs,Kg,h1,h2,h3,h4.mono hs⟩)
theorem PX{T:Tab}{nP:az aF}{ok:aX}:∀{ps:az Pa} {b p:aF} {os:az (az AA)} {ws:az (aF×eT)},(∀(q:aF) (pa:Pa),ps[q]? =ah pa->∃v,AO T σ w c nP pa v)->(LJ ok b ps os).val σ=ah ws->
  ∃L,ws=mF L/\(∀n t ob,(n,t,ob)∈L->∃q pa,ps[q]? =ah pa/\Ie σ ok (b+40*q) (p+q) pa (os.getD q []) L n t ob)/\∀n∈ps.flatMap (·.uK),∃t ob,(n,t,ob)∈L:=by
 intro ps;induction ps with
 |nil=>intro b p os ws _ h;obtain rfl:=aJ h;exact⟨[],rfl,λn t ob h=>(by cases h),λn h=>(by cases h)⟩
 |cons pa ps ih=>
  intro b p os ws He h;obtain⟨w1,h1,h⟩:=Rd.bind_some h;obtain⟨w2,h2,h⟩:=Rd.bind_some h;obtain rfl:=aJ h;obtain⟨v,Lh⟩:=He 0 pa rfl;obtain⟨L1,rfl,a1,a2⟩:=UF (p:=p) Lh h1;obtain⟨L2,rfl,b1,b2⟩:=ih (p:=p+1) (λq pa' hq=>He (q+1) pa' hq) h2;have e0:os.headD []=os.getD 0 []:=by cases os<;>rfl
  have e1:∀i,os.tail.getD i []=os.getD (i+1) []:=λi=>by cases os<;>simp
  refine⟨L1++L2,by rw[iQ],λn t ob hm=> ?_,λn hn=> ?_⟩
  ·rcases ba.1 hm with hm|hm
   ·exact⟨0,pa,rfl,by rw[<-e0];exact(a1 n t ob hm).mono (λe he=>bM _ he)⟩
   ·obtain⟨q,pa',hq,hc⟩:=b1 n t ob hm;rw[e1]at hc;refine⟨q+1,pa',hq, ?_⟩
    rw[show b+40*(q+1)=b+40+40*q by omega,show p+(q+1)=p+1+q by omega];exact hc.mono (λe he=>bN _ he)
  ·rw[yV]at hn;rcases ba.1 hn with hn|hn
   ·obtain⟨t,ob,h⟩:=a2 n hn;exact⟨t,ob,bM _ h⟩
   ·obtain⟨t,ob,h⟩:=b2 n hn;exact⟨t,ob,bN _ h⟩
theorem SR:∀{l:az aF} {ws:az (aF×eT)},(SQ l).val σ=ah ws->∃Fz:az (aF×Obj),ws=kq Fz/\(∀n x,(n,x)∈Fz->n∈l/\∃el ex xs,σ (c8 n)= .o (.row el ex xs)/\x= .fT el xs)/\∀n∈l,∃x,(n,x)∈Fz:=by
 intro l;induction l with
 |nil=>intro ws h;obtain rfl:=aJ h;exact⟨[],rfl,λn x h=>(by cases h),λn h=>(by cases h)⟩
 |cons m l ih=>
  intro ws h;obtain⟨ob,hg,h⟩:=Rd.bind_some h;have hg:=dz hg;cases ob with
  |row el ex xs=>
   obtain⟨w1,h1,h⟩:=Rd.bind_some h;obtain rfl:=aJ h;obtain⟨Fz,rfl,a1,a2⟩:=ih h1;refine⟨(m, .fT el xs)::Fz,rfl,λn x hm=> ?_,λn hn=> ?_⟩
   ·rcases cB.1 hm with hm|hm
    ·cases hm;exact⟨dq ..,el,ex,xs,hg,rfl⟩
    ·obtain⟨h1,h2⟩:=a1 n x hm;exact⟨c7 _ h1,h2⟩
   ·rcases cB.1 hn with rfl|hn
    ·exact⟨_,dq ..⟩
    ·obtain⟨x,h⟩:=a2 n hn;exact⟨x,c7 _ h⟩
  |_=>simp at h
end
end Go.FG

namespace Go.FG
section
variable {P:c5} {E:fQ} {σ:St} {a:Act} {w:bL} {c:e9} {o:fC} {nm:aF} {e:s8}
theorem alD{T:Tab}{nP:az aF}{pa:Pa}{v:bk}(h:AO T σ w c nP pa v):∃xs,Mp pa.arg xs/\xs=pa.cs.map (·.a)/\∀(j:aF) (k:Pk),pa.cs[j]? =ah k->∃u,vR T σ w c nP k u:=by
 have h1:Mp pa.arg (pa.cs.map (·.a)):=by
  cases hb:pa.box with
  |none=>obtain⟨g,h1,_⟩:=h.val hb;exact .inl ⟨g,h1⟩
  |some nx=>obtain⟨n,xs⟩:=nx;exact .inr (h.box n xs hb).1
 exact⟨_,h1,rfl,(UI h h1).2⟩
theorem XG{l:az AA}{i:aF}{ys:aR}(h:l.getD i .nl= .kp ys):l[i]? =ah (.kp ys):=by
 rw[cS]at h;cases hx:l[i]? with
 |none=>rw[hx]at h;cases h
 |some x=>rw[hx]at h;rw[<-h];rfl
theorem Fy{f:aF}{fn:Func}{vs psv:du bk}{cl:Call}{fx:dy}(ho:o.op= .call cl)(hc:cl.callee= .value fx)(hf:P.funcs[f]? =ah fn)(hb:fn.body.isSome=ai)(hn:(fn.name== "runtime.NumGoroutine")=ak)(he:a.eval fx= .func (.func f) #[] psv):
  (execOp a.eval o).run P w= .ok (.enter f (cl.args.map a.eval++psv)) w:=by
 have QD:fn.body.isNone=false:=by cases h:fn.body<;>simp_all
 unfold execOp;rw[ho];simp only[resolve,hc,he,Deferred.ofValue,cj,cT,bG,invoke,callFunc,program,nB,hf,hn,QD,dx,if_false,Array.empty_append]
def nameOf(nm:aF)(ps:az Pa)(P J:aF):aC aF:=
 if 500<=P then ah (if J=900 then nm+1+40*(P-500)+30 else nm+1+40*(P-500)+J)
 else if J<100\/J=900 then loc ps (dS P J)else ah (nm+400+40*P+(J-100))
theorem oY:∀{l r:az aF},rN l r=ai->∀n∈l,n∉r
 |[],_,_,n,h=>by cases h
 |m::l,r,h,n,hn=>by
  simp only[rN,aL,dr]at h;rcases cB.1 hn with rfl|hn
  ·exact qw h.1
  ·exact oY h.2 n hn
theorem JG(hE:eH P E)(hF:∀g,lS P E g (E.call g))(cf:Ok E σ w c)(dK:fE E σ a w c)(hd:∀d,o.dst=ah d->d<a.tmps.size){cl:Call}{fx:dy}(ho:o.op= .call cl)(hb:cl.callee= .value fx){f:aF}{iX:az (az CV)}(ef:eM E w c (.fn f iX) (a.eval fx)){QL:aC (az aF)}(h:(GX E nm o f cl.args.toList QL iX).val σ=ah e)(hc:e.cond=ai):gZ P E σ a w c o e.ws:=by
  obtain⟨psv,he,He,aiT⟩:=ef;unfold GX at h;obtain⟨ps,h2,h⟩:=Rd.bind_some h;obtain⟨h3,h⟩:=cR h;simp only[aL]at h3;obtain⟨hlen,Lh⟩:=Si cf dK h2;split at h
  ·rename_i cnd r Jd;obtain⟨h4,h⟩:=cR h;simp only[aL]at h4;obtain⟨w0,h5,h⟩:=Rd.bind_some h;obtain⟨w1,h6,h⟩:=Rd.bind_some h;obtain⟨⟨ss,w2⟩,h7,h⟩:=Rd.bind_some h;obtain⟨h8,h⟩:=cR h;obtain rfl:=aJ h;have hc:cnd=true:=hc;subst hc;have ayK:=cM h4.1.1;have aso:∀{q:aF} {pa:Pa},ps[q]? =ah pa->∀n∈pa.nP,n∈ps.flatMap (·.nP):=λhq n hn=>bQ.2 ⟨_,aQ hq,hn⟩;have hh:Handed E σ w c ps iX (cl.args.map a.eval++psv):=by
    refine⟨by simp[He,hlen],λq pa hq=> ?_,λq cs hq=> ?_,qS h3.1,oY h3.2⟩
    ·obtain⟨x,hx,hp⟩:=Lh q pa hq;rw[cY]at hx;have XW:=(dU.1 hx).1;exact⟨a.eval x,by rw[Eo (by simpa using XW),OM,hx];rfl,hp.mono (aso hq)⟩
    ·obtain⟨b,QD,hf⟩:=aiT q cs hq;refine⟨b, ?_,hf⟩
     rw[Array.getElem?_append_right (by simp[hlen]),<-QD];congr 1;simp[hlen]
   have afp:∀(q:aF) (pa:Pa),ps[q]? =ah pa->∃v,AO E σ w c (ps.flatMap (·.nP)) pa v:=λq pa hq=>by obtain⟨v,_,h⟩:=hh.at_ q pa hq;exact⟨v,h⟩
   obtain⟨S1,asp,_⟩:=enter cf hh;have gh:(cl.args.map a.eval++psv).size=(jO ps iX).length:=by simp[jO,He,hlen]
   have afa:E.call f (jO ps iX)=ah (ai,r):=Jd;obtain⟨⟨fn,g1,g2,g3⟩,La⟩:=hF f _ r afa w (qO σ c ps) _ S1 gh asp;obtain⟨Fz,rfl,z1,z2⟩:=SR h5;obtain⟨Lo,rfl,l1,l2⟩:=PX (p:=0) afp h6;obtain⟨Lr,rfl,m1,m2⟩:=Iv (P:=500) h7;generalize ajg:(E.tk nm||(ps.flatMap (·.nP)).isEmpty)=ok at l1 m1 m2;have hsm:Small (jO ps iX) r:=by
    refine⟨λp x xs hp hx=> ?_,λq x xs hq hx=> ?_,λp=> ?_⟩
    ·rcases v9 hp with ⟨pa,hq,_⟩|⟨_,cs,_,rfl⟩
     ·have:=(aT.1 hq).1;omega
     ·rcases hx with ⟨g,hx⟩|hx<;>cases hx
    ·have:=bu.1 h4.1.2 x (aQ hq);have:=cM this;rcases hx with ⟨g,rfl⟩|rfl<;>(simp only[nF]at this;omega)
    ·rw[cS];cases hx:r.outs[p]? with
     |none=>simp
     |some l=>have:=bu.1 h4.2 l (aQ hx);exact cM this
   have Iu:∀{q:aF} {pa:Pa},ps[q]? =ah pa->(jO ps iX)[q]? =ah pa.arg:=λ{q} {pa} hq=>by have:=(aT.1 hq).1;unfold jO;rw[dH (by simpa using this),bK,hq];rfl
   have JC:∀{q:aF} {pa:Pa} {n:aF},ps[q]? =ah pa->n∈pa.uK->n∈ps.flatMap (·.uK):=λhp hn=>bQ.2 ⟨_,aQ hp,hn⟩;have aiH:∀{q i n e:aF} {ex:aX} {pa:Pa} {k:Pk},ps[q]? =ah pa->pa.cs[i]? =ah k->k.src= .own n e ex->n∈ps.flatMap (·.uK):=λhq hk hs=>JC hq (bN _ (bQ.2 ⟨_,aQ hk,by simp[Pk.uK,hs]⟩));have small:∀{q i:aF} {pa:Pa} {k:Pk},ps[q]? =ah pa->pa.cs[i]? =ah k->i<100:=λhq hk=>by obtain⟨v,hv⟩:=afp _ _ hq;have:=(aT.1 hk).1;have:=hv.len;omega
   unfold gZ;intro K Q hK;unfold OO;rw[Fy (vs:=cl.args.map a.eval++psv) ho hb g1 g2 g3 he,Wh];refine Calls.mono La (λen w'' hR=> ?_);cases en with
   |panicked=>exact hR.elim
   |outgrown=>exact hR.elim
   |returned v=>
    obtain⟨c3,Hd,yM,uG,yN⟩:=hR;have gf:∀m,inj (jO ps iX) (c8 m)≠ .j9->c3.P m=(qO σ c ps).P m/\c3.G m=(qO σ c ps).G m:=uG;have hL:∀n t ob,(n,t,ob)∈Lo++Lr->aap σ (oC (jO ps iX) r) c c3 ok (ps.flatMap (·.uK)) (Lo++Lr) n t ob/\∀x,t=ah x->∃PP J,x=dS PP J/\J<1000/\nameOf nm ps PP J=ah n:=by
     intro n t ob hm;rcases ba.1 hm with hm|hm
     ·obtain⟨q,pa,hq,vA⟩:=l1 n t ob hm;obtain⟨v0,QG⟩:=afp q pa hq;obtain⟨xs,hx1,QH,hx3⟩:=alD QG;have XW:=(aT.1 hq).1;rw[bV]at vA;rcases vA with ⟨i,k,hk,hco⟩|⟨ys,Kg,hbx,rfl,rfl,hcr⟩
      ·have hi:=small hq hk;rcases hco with ⟨e',ex,hs,rfl,rfl⟩|⟨e',ex,ys,hs,ha,rfl,rfl,hex⟩|⟨e',ex,ys,hbx,ha,rfl,rfl,rfl,hex,hf,jD⟩
       ·refine⟨⟨λ_=>aiH hq hk hs,λhn=> ?_,λ_=>rfl,λx hx=>(by cases hx)⟩,λx hx=>(by cases hx)⟩
        obtain⟨u,hu⟩:=hx3 i k hk;unfold vR at hu;rw[hs]at hu;obtain⟨zs,hg,_⟩:=hu;rw[hg]at hn;cases hn
       ·obtain⟨u,hu⟩:=hx3 i k hk;unfold vR at hu;rw[hs]at hu;obtain⟨zs,hg,hka,_⟩:=hu;refine⟨⟨λ_=>aiH hq hk hs,λhn=>(by rw[hg]at hn;cases hn),λhx=>(by cases hx),λx hx=> ?_⟩,λx hx=> ?_⟩
        ·cases hx;refine⟨λ_=> ?_, .inl ⟨e',ex,ys,rfl, ?_,hex⟩⟩
         ·obtain⟨q1,q2⟩:=gf (dS q i) ((qQ (Iu hq)).2 xs i e' ex zs hx1 (by rw[QH,bK,hk];simp[hka]));obtain⟨q3,q4⟩:=uC (σ:=σ) (c:=c) (Hn hq hk hs (by omega));exact⟨q1.trans q3,q2.trans q4⟩
         ·exact xE hsm (.kp q pa.arg xs i e' ex zs ys (Iu hq) hx1 (by rw[QH,bK,hk];simp[hka]) (XG ha))
        ·cases hx;refine⟨q,i,rfl,by omega, ?_⟩
         unfold nameOf;rw[bH (by omega),bz (.inl hi)];exact Hn hq hk hs (by omega)
       ·have hla:=G9.1 ha;refine⟨⟨λhn=>cJ hf hn,λ_=>jD,λhx=>(by cases hx),λx hx=> ?_⟩,λx hx=> ?_⟩
        ·cases hx;exact⟨λhn=>cJ hf hn, .inl ⟨e',ex,ys,rfl,xE hsm (.nw q pa.arg xs i e' ex ys (Iu hq) hx1 hla),hex⟩⟩
        ·cases hx;refine⟨q,100+i,rfl,by omega, ?_⟩
         unfold nameOf;rw[bH (by omega),bH (by omega)];congr 1;omega
      ·obtain⟨p1,p2,p3,_⟩:=QG.box n ys hbx;refine⟨⟨λ_=>JC hq (by simp[Pa.uK,hbx]),λhn=>(by rw[p3]at hn;cases hn),λhx=>(by cases hx),λx hx=> ?_⟩,λx hx=> ?_⟩
       ·cases hx;refine⟨λ_=> ?_, .inr ⟨Kg,_,rfl,xE hsm (.ob q _ (by rw[Iu hq,p1])),hcr.mono (λe he=>bM _ he)⟩⟩
        obtain⟨q1,q2⟩:=gf (dS q 900) ((qQ (Iu hq)).1 _ p1);obtain⟨q3,q4⟩:=uC (σ:=σ) (c:=c) (BB hq hbx);exact⟨q1.trans q3,q2.trans q4⟩
       ·cases hx;refine⟨q,900,rfl,by omega, ?_⟩
        unfold nameOf;rw[bH (by omega),bz (.inr rfl)];exact BB hq hbx
     ·obtain⟨q,x0,hq,hra⟩:=m1 n t ob hm;rcases hra with ⟨xs,j,e',ex,ys,hx,hj,rfl,rfl,rfl,hex,hf,jD⟩|⟨xs,rfl,rfl,rfl,rfl,hf,jD,hcr⟩
      ·have j8:=(aT.1 hj).1;have:=hsm.rl q x0 xs hq hx;refine⟨⟨λhn=>cJ hf hn,λ_=>jD,λhx=>(by cases hx),λx pL=> ?_⟩,λx pL=> ?_⟩
       ·cases pL;exact⟨λhn=>cJ hf hn, .inl ⟨e',ex,ys,rfl,xE hsm (.rr q x0 xs j e' ex ys hq hx hj),hex⟩⟩
       ·cases pL;refine⟨500+q,j,rfl,by omega, ?_⟩
        unfold nameOf;rw[bz (by omega),bH (by omega),show 500+q-500=q by omega]
      ·refine⟨⟨λhn=>cJ hf hn,λ_=>jD,λhx=>(by cases hx),λx pL=> ?_⟩,λx pL=> ?_⟩
       ·cases pL;exact⟨λhn=>cJ hf hn, .inr ⟨_,_,rfl,xE hsm (.rb q xs hq),hcr.mono (λe he=>bN _ he)⟩⟩
       ·cases pL;refine⟨500+q,900,rfl,by omega, ?_⟩
        unfold nameOf;rw[bz (by omega),bz rfl,show 500+q-500=q by omega]
    have Jk:((Lo++Lr).map (·.1)).Nodup:=by
     have:=qS h8;rw[<-iQ]at this;unfold mF kq at this;rw[mv,mv]at this;have e1:(Lo++Lr).map (((λx:aF×eT=>x.1)∘λd:aF×Obj=>(c8 d.1,eT.o d.2))∘λt:DF=>(t.1,t.2.2))=((Lo++Lr).map (·.1)).map c8:=by rw[mv];rfl
     rw[e1]at this;exact rX this
    have S3:ok=ai->∀n∈ps.flatMap (·.nP),∃x,(n,x)∈Fz:=by
     intro hk n hn;rw[<-ajg]at hk;cases Hg:E.tk nm with
     |true=>rw[Hg]at z2;exact z2 n hn
     |false=>
      rw[Hg]at hk;have:ps.flatMap (·.nP)=[]:=by simpa using hk
      rw[this]at hn;cases hn
    have hFz:∀n x,(n,x)∈Fz->ok=ai/\n∈ps.flatMap (·.nP)/\∃el ex xs,σ (c8 n)= .o (.row el ex xs)/\x= .fT el xs:=by
     intro n x hn;obtain⟨y1,y2⟩:=z1 n x hn;cases Hg:E.tk nm with
     |true=>rw[Hg]at y1;exact⟨by rw[<-ajg,Hg];rfl,y1,y2⟩
     |false=>rw[Hg]at y1;cases y1
    have hws:kq Fz++(mF Lo++mF Lr)++dw o (sF ss)=kq (Fz++(Lo++Lr).map λt=>(t.1,t.2.2))++dw o (sF ss):=by rw[<-iQ];simp only[mF,kq,di]
    obtain⟨c',k1,k2,k3,k4⟩:=leave cf dK hd hh Hd yM yN (L:=Lo++Lr) (Fz:=Fz) (λn t ob hm=>(hL n t ob hm).1) Jk
     (λn n' x ob ob' h1 h2=>by obtain⟨P1,J1,e1,e2,e3⟩:=(hL n _ ob h1).2 x rfl;obtain⟨P2,J2,f1,f2,f3⟩:=(hL n' _ ob' h2).2 x rfl;obtain⟨rfl,rfl⟩:=uM e2 f2 (e1.symm.trans f1);rw[e3]at f3;exact aJ f3)
     (λn hn=>by obtain⟨t,ob,h⟩:=l2 n hn;exact⟨t,ob,bM _ h⟩) hFz S3
     (show FK ok (Lo++Lr) ss (lE 500 r.rs)from⟨m2.1,λj x x3 hx hx3=>(m2.2 j x x3 hx hx3).mono (λe he=>bN _ he)⟩)
    show K (a.put o.dst v) w'';rw[<-hws]at k1 k2 k3;exact hK v w'' c' k1 k2 k3 k4.w
  ·simp at h
theorem HA(cf:Ok E σ w c)(dK:fE E σ a w c){o:fC}(hd:∀d,o.dst=ah d->d<a.tmps.size){nm:aF}{ob ob':Obj}{s:SV}{v:bk}{w':bL}
  (hn:σ (c8 nm)= .o ob) (m9:pU E w' c nm ob') (pY:∀b,fL c nm ob' b->fL c nm ob b)
  (Ji:∀xs,ob'= .box xs->∀a∈xs,jj σ a)
  (yN:jm E w' c s v) (A_:mV σ s)
  (hW:∀b,b<w.heap.size->¬fL c nm ob b->w'.heap[b]? =w.heap[b]?) (gh:w.heap.size<=w'.heap.size) (PB:w'.os=w.os) (XZ:w'.tape=w.tape) (XT:w'.output=w.output):
  Ok E (wr σ ([(c8 nm, .o ob')]++dw o s)) w' c/\fE E (wr σ ([(c8 nm, .o ob')]++dw o s)) (a.put o.dst v) w' c/\oG σ c w (wr σ ([(c8 nm, .o ob')]++dw o s)) c w':=by
 let σ1:=pS σ (c8 nm) (.o ob');obtain⟨s1,s2,s3⟩:=sg σ1 o s;have key:∀m,wr σ1 (dw o s) (c8 m)=if m=nm then .o ob' else σ (c8 m):=λm=>by rw[s3];exact qd _ _ _ _
 have iB:∀m,σ (c8 m)≠ .j9->wr σ1 (dw o s) (c8 m)≠ .j9:=λm hm=>by rw[key];split<;>simp_all
 have gg:∀b,fL c nm ob b->ka (λm=>m=nm) σ c b:=λb hb=>⟨nm,ob,rfl,hn,hb⟩
 have hh:=cf.change (σ':=wr σ1 (dw o s)) (w':=w') (c':=c) (λm=>m=nm) (λm hm=>by rw[key,bH hm]) iB (jI.refl _ _)
  (λb hb XQ=>hW b hb (λhf=>XQ (gg b hf))) gh (λ_ h=>h) (λ_ h=> .inl h) (λb hb=>jy (cf.lt b hb) gh)
  (λm x hm ho=>by subst hm;rw[key,bz rfl]at ho;cases ho;exact m9)
  (λm x b hm ho hf=>by subst hm;rw[key,bz rfl]at ho;cases ho;exact⟨.inl (gg b (pY b hf)),cf.kk _ _ b hn (pY b hf)⟩)
  (λm x m' x' b hm xN _ _ _ _=>by rw[hm,xN])
  (λm xs hm ho y hy n kM=>by subst hm;rw[key,bz rfl]at ho;cases ho;exact iB n (Ji xs rfl y hy n kM)) PB XZ XT
 refine⟨hh.1, ?_,hh.2⟩
 refine dK.change cf hh.2 (jI.refl _ _) iB o v (λn kM=>by rw[s1 n kM];exact jt _ _ _ _) (λd ho=>⟨hd d ho, ?_, ?_⟩)
 ·rw[s2 d ho];exact yN
 ·rw[s2 d ho];intro n kM;rw[key];split
  ·simp
  ·exact A_ n kM
theorem LD(hE:eH P E)(hF:∀g,lS P E g (E.call g))(cf:Ok E σ w c)(dK:fE E σ a w c)(hd:∀d,o.dst=ah d->d<a.tmps.size){cl:Call}{fx x y:dy}(ho:o.op= .call cl)(hb:cl.callee= .value fx)(sB:cl.args.toList=[x,y])
  {f n i j:aF} (ef:eM E w c (.fn f []) (a.eval fx)) (hx:eM E w c (.inn n i j) (a.eval x)) (h:(CF E o f n i j y).val σ=ah e) (hc:e.cond=ai):gZ P E σ a w c o e.ws:=by
 unfold CF at h;obtain⟨⟨k,m⟩,h1,h⟩:=Rd.bind_some h;have ey:=p_ dK h1;obtain⟨ob,h2,h⟩:=Rd.bind_some h;have hg:=dz h2;split at h
 ·rename_i el xs;obtain⟨te,h3,h⟩:=Rd.bind_some h;have h6:=dW h3;split at h
  ·rename_i e2 Ap;split at h
   ·rename_i cnd r Jd;split at h
    ·rename_i k2 m2 DD hrs Jn;obtain rfl:=aJ h;have hc:cnd=true:=hc;subst hc;obtain⟨⟨hi,hxv⟩,_⟩:=hx;obtain⟨zs,yy,t2,r1,r2,r3,r4,r5,r6,r7,r8⟩:=BA cf hg h6 Ap hi;rw[fG r1 r2]at Jd;simp only[jz]at Jd;obtain⟨⟨t1,q1,gh,mR⟩,gf,gg⟩:=cf.obj n _ hg;obtain rfl:te=t1:=aJ (h6.symm.trans q1);have mh:i<xs.length:=(aT.1 r1).1;obtain⟨jE,pv,hpb⟩:=gf.pos hi;have D5:gj xs i j:=⟨yy,_,r1,r2,rfl⟩
     generalize hq:c.G n i j=p at r5 r7 r8 hxv;let c1:e9:=⟨λ_=>p,λ_ _ _=>⟨ai,0,0,0,0,0⟩,c.K⟩
     let args:az fw:=[.v ak [.ow e2 ai zs], .v ak [.i k m]]
     have hO:∀q o',inj args (c8 q)= .o o'->q=dS 0 0/\o'= .row e2 ai zs:=by
      intro q o' hq';have hm:=n6 hq' (by simp);simp only[args,Lm,tM,vB,tL,Ff,cB,dn,gC,BZ,gG,or_false,ji]at hm;rcases hm with ⟨hm,_⟩|⟨hm,h⟩|⟨hm,_⟩
      ·exact cJ hm (mA _ _)
      ·exact⟨j4 hm,eT.o.inj h⟩
      ·exact cJ hm (mA _ _)
     have hX:inj args (c8 (dS 0 0))= .o (.row e2 ai zs):=rfl;have CP:∀i j,¬gj zs i j:=by rintro i j ⟨y,x,h1,h2,h3⟩;rw[iw r4 (r6 y (aQ h1)) h2]at h3;cases h3
     have Je:∀b,fL c1 (dS 0 0) (.row e2 ai zs) b->p.nil=ak/\b=p.blk:=by
      rintro b (⟨h1,h2⟩|⟨_,i,j,h,_⟩)
      ·exact⟨h1,h2⟩
      ·exact cJ h (CP i j)
     have hpf:p.nil=ak->fL c n (.row el ai xs) p.blk:=λhn=> .inr ⟨rfl,i,j,D5,by rw[hq];exact hn,by rw[hq]⟩;have S1:Ok E (inj args) w c1:=by
      refine⟨?_, ?_, ?_, ?_, ?_⟩
      ·intro q o' h;obtain⟨rfl,rfl⟩:=hO q o' h;exact⟨⟨t2,r3,r5,r6⟩,r7.frame (λ_=>rfl) (λi j y x u h1 h2 hr=>by rw[bz rfl];exact uQ (iw r4 (r6 y (aQ h1)) h2) hr),λ_=>⟨λi j h=>cJ h (CP i j),λi j i' j' h=>cJ h (CP i j)⟩⟩
      ·intro q o' q' o'' b h h' _ _;rw[(hO q o' h).1,(hO q' o'' h').1]
      ·intro q o' b h hf hk;obtain⟨rfl,rfl⟩:=hO q o' h;obtain⟨hn,rfl⟩:=Je b hf;exact cf.kk _ _ _ hg (hpf hn) hk
      ·exact cf.lt
      ·intro q bs h;obtain⟨_,h⟩:=hO q _ h;cases h
     have S9:(cl.args.map a.eval).size=args.length:=by
      have:cl.args.size=2:=by rw[<-dR,sB];rfl
      simp[args,this]
     have Wu:cl.args.map a.eval= #[a.eval x,a.eval y]:=by apply sH;rw[AD,sB];rfl
     obtain⟨psv,he,He,_⟩:=ef;have asf:psv= #[]:=AB (by simpa using He);subst asf;obtain⟨⟨fn,g1,g2,g3⟩,La⟩:=hF f args r Jd w c1 #[a.eval x,a.eval y] S1 rfl (by
      intro q arg hqa;match q with
      |0=>cases hqa;exact⟨_,rfl,hxv⟩
      |1=>cases hqa;exact⟨_,rfl,ey⟩
      |q+2=>cases hqa)
     unfold gZ;intro K Q hK;unfold OO;rw[Fy (vs:= #[a.eval x,a.eval y]) ho hb g1 g2 g3 he,Wu,Array.append_empty,Wh];refine Calls.mono La (λen w' hR=> ?_);cases en with
     |panicked=>exact hR.elim
     |outgrown=>exact hR.elim
     |returned v=>
      obtain⟨c3,Hd,yM,uG,yN⟩:=hR;obtain⟨rs,outs⟩:=r;simp only at hrs Jn;subst hrs;subst Jn;have hv:v= .int k2 m2:=yN;have hp3:c3.P (dS 0 0)=p:=(uG (dS 0 0) (by rw[hX];simp)).1;have hX3:oC args ⟨[.v ak [.i k2 m2]],[[.kp DD]]⟩ (c8 (dS 0 0))= .o (.row e2 ai DD):=rfl;obtain⟨⟨t3,u1,u2,u3⟩,u4,_⟩:=Hd.obj _ _ hX3;obtain rfl:t2=t3:=aJ (r3.symm.trans u1);rw[hp3]at u2 u4;have arE:jl w' p DD (λ_ _ u x=>Sc u x):=u4.frame (λ_=>rfl) (λi j y x u h1 h2 hr=>by rw[bz rfl]at hr;exact uS hr (iw r4 (u3 y (aQ h1)) h2));have rR:∀b,b<w.heap.size->¬(p.nil=ak/\b=p.blk)->w'.heap[b]? =w.heap[b]? :=λb hb Lf=>yM.same b hb (by rintro ⟨q,o',h1,h2⟩;obtain⟨rfl,rfl⟩:=hO q o' h1;exact Lf (Je b h2));have hjk:j<te.ks.length:=(aT.1 Ap).1;have afg:[CV.l e2 DD].map CV.kd=(te.ks.drop j).take [CV.l e2 DD].length:=by rw[bA,List.take_one,List.head?_drop,Ap];rfl
      have sN:=yx (i:=i) (j:=j) (cs:=[CV.l e2 DD]) mR afg (by simp;omega) mh;have Jh:=lr mR;have CA:=lr sN;have same:∀i' j',gj (eJ xs i j [CV.l e2 DD]) i' j'->gj xs i' j':=λi' j' hx=>(Jh i' j').2 (by have:=(CA i' j').1 hx;rwa[jX]at this);have jD:∀b,fL c n (.row el ai xs) b->b<w.heap.size:=λb hb=>wO.lt cf ⟨n,_,hg,hb⟩;have afo:p.nil=ak->(c.P n).blk≠p.blk:=λhn e=>(gg rfl).out i j D5 (by rw[hq];exact hn) jE (by rw[hq];exact e.symm);have oV:jl w' (c.P n) (eJ xs i j [CV.l e2 DD]) (λi1 j1 u1 x1=>if ai=ai then XC E w' (c.G n) i1 j1 u1 x1 else c_ E w' c.K u1 x1):=by
       obtain⟨vs,k1,k2,k3,k4,k5⟩:=gf.mem jE;refine⟨by rw[jX];exact gf.n,λhn=>(by rw[jE]at hn;cases hn),λ_=>⟨vs,k1.frame (rR _ (jD _ (.inl ⟨jE,rfl⟩)) (λh=>afo h.1 h.2)),k2,k3,k4,λi1 y1 j1 x1 g1 g2=> ?_⟩⟩
       rw[yv r1]at g1;simp only[if_true]at k5⊢;by_cases Jg:i1=i
       ·subst Jg;rw[bz rfl]at g1;cases g1;have Jp:yy.length=te.ks.length:=by rw[<-mR yy (aQ r1)];simp
        rw[pG (by simp;omega)]at g2;by_cases hqq:j<=j1/\j1<j+[CV.l e2 DD].length
        ·rw[bz hqq]at g2;have:j1=j:=by simp at hqq;omega
         subst this;simp at g2;subst g2;obtain⟨u,hu,hr⟩:=k5 _ _ _ _ r1 r2;refine⟨u,hu,hr.1,t2,r3,r4,by rw[hq];exact r5,u3,by rw[hq];exact arE⟩
        ·rw[bH hqq]at g2;obtain⟨u,hu,hr⟩:=k5 _ _ _ _ r1 g2;refine⟨u,hu,hr.frame (λhl hn=>rR _ (jD _ (.inr ⟨rfl,_,_,⟨yy,x1,r1,g2,hl⟩,hn,rfl⟩)) (λe=> ?_))⟩
         have:=((gg rfl).one _ _ _ _ ⟨yy,x1,r1,g2,hl⟩ D5 hn (by rw[hq];exact e.1) (by rw[hq];exact e.2)).2;simp at hqq;omega
       ·rw[bH Jg]at g1;obtain⟨u,hu,hr⟩:=k5 _ _ _ _ g1 g2;exact⟨u,hu,hr.frame (λhl hn=>rR _ (jD _ (.inr ⟨rfl,_,_,⟨y1,x1,g1,g2,hl⟩,hn,rfl⟩)) (λe=>Jg ((gg rfl).one _ _ _ _ ⟨y1,x1,g1,g2,hl⟩ D5 hn (by rw[hq];exact e.1) (by rw[hq];exact e.2)).1))⟩
      obtain⟨z1,z2,z3⟩:=HA cf dK hd hg (ob':= .row el ai (eJ xs i j [CV.l e2 DD])) (w':=w') (s:= .v ak [.i k2 m2]) (v:=v)
       ⟨⟨te,q1,gh,sN⟩,oV,λhx=>⟨λi1 j1 hh=>(gg hx).out i1 j1 (same i1 j1 hh),λi1 j1 i2 j2 h1 h2=>(gg hx).one i1 j1 i2 j2 (same i1 j1 h1) (same i2 j2 h2)⟩⟩
       (by
        rintro b (hb|⟨hx,i1,j1,hh,hn⟩)
        ·exact .inl hb
        ·exact .inr ⟨hx,i1,j1,same i1 j1 hh,hn⟩)
       (λzs hz=>by cases hz) hv (λn hn=>by simp[cO,bS]at hn)
       (λb hb QE=>rR b hb (λe=>QE (by rw[e.2];exact hpf e.1))) yM.size yM.os yM.tape yM.output
      exact hK v w' c z1 z2 z3 (jI.refl _ _).w
    ·simp at h
   ·simp at h
  ·simp at h
 ·simp at h
theorem HS{α:Type}{x y:Rd α}{σ:St}{e:α}(h:(x.or y).val σ=ah e):x.val σ=ah e\/y.val σ=ah e:=by
 induction x with
 |ret a=>exact .inl h
 |fail=>exact .inr h
 |get k f ih=>
  have h':((f (σ k)).or y).val σ=ah e:=by rw[<-h];unfold Rd.val;simp only[Rd.or,Rd.run];rw[lz,lz]
  rcases ih (σ k) h' with h|h
  ·refine .inl ?_;rw[<-h];unfold Rd.val;simp only[Rd.run];rw[lz,lz]
  ·exact .inr h
theorem CQ(hE:eH P E)(hF:∀g,lS P E g (E.call g))(cf:Ok E σ w c)(dK:fE E σ a w c)(hd:∀d,o.dst=ah d->d<a.tmps.size){cl:Call}{fx:dy}(ho:o.op= .call cl)(hb:cl.callee= .value fx){f:aF}{iX:az (az CV)}(ef:eM E w c (.fn f iX) (a.eval fx)){QL:az aF}(h:(M_ E nm o f cl.args.toList QL iX).val σ=ah e)(hc:e.cond=ai):gZ P E σ a w c o e.ws:=by
 rcases HS h with h|h
 ·exact JG hE hF cf dK hd ho hb ef h hc
 ·exact JG hE hF cf dK hd ho hb ef h hc
theorem Zp(hE:eH P E)(hF:∀g,lS P E g (E.call g))(cf:Ok E σ w c)(dK:fE E σ a w c)(hd:∀d,o.dst=ah d->d<a.tmps.size){cl:Call}{fx:dy}(ho:o.op= .call cl)(hb:cl.callee= .value fx)(h:(ml E nm o).val σ=ah e)(hc:e.cond=ai):gZ P E σ a w c o e.ws:=by
 simp only[ml,ho,hb]at h;obtain⟨fv,h1,h⟩:=Rd.bind_some h;have ef:=(jb dK h1).1;cases fv with
 |fn f iX=>
  simp only at h;split at h
  ·rename_i x y sB;obtain⟨sx,h2,h⟩:=Rd.bind_some h;split at h
   ·rename_i n i j;cases hm:E.mode f 0 with
    |true=>rw[hm,au]at h;exact LD hE hF cf dK hd ho hb sB ef (mB dK h2).1 h hc
    |false=>rw[hm,ax]at h;exact CQ hE hF cf dK hd ho hb ef h hc
   ·exact CQ hE hF cf dK hd ho hb ef h hc
  ·exact CQ hE hF cf dK hd ho hb ef h hc
 |_=>simp at h
end
end Go.FG

namespace Go.FG
section
variable {P:c5} {E:fQ} {σ:St} {a:Act} {w:bL} {c:e9} {o:fC} {nm:aF} {e:s8}
theorem alC(hE:eH P E)(hF:∀g,lS P E g (E.call g))(cf:Ok E σ w c)(dK:fE E σ a w c)(hd:∀d,o.dst=ah d->d<a.tmps.size)(h:(ml E nm o).val σ=ah e)(hc:e.cond=ai):gZ P E σ a w c o e.ws:=by
 cases ho:o.op with
 |move x=>exact N0 cf dK hd (.inl ho) h
 |assign x=>exact N0 cf dK hd (.inr ho) h
 |nilCheck x=>exact JI cf dK hd ho h
 |pick x y z=>exact Zr cf dK hd ho h hc
 |alloc t=>exact Uv hE cf dK hd ho h
 |box t x=>exact agn cf dK hd ho h
 |build t ps=>exact Ux hE cf dK hd ho h
 |buildSlice t n ps=>exact Ed hE cf dK hd ho h hc
 |load t p=>exact Zq hE cf dK hd ho h
 |store t p x=>exact UC hE cf dK hd ho h
 |fieldAddr t p f=>exact Ht hE cf dK hd ho h
 |field t x f=>exact Uz hE cf dK hd ho h
 |indexAddr t x i=>exact Hu hE cf dK hd ho h hc
 |index t x i=>exact UA hE cf dK hd ho h hc
 |binOp op t x y ty=>exact Uw hE cf dK hd ho h hc
 |unOp op t x=>exact Zs cf dK hd ho h
 |convert s d x=>exact LF hE cf dK hd ho h hc
 |makeSlice t l m=>exact Hv hE cf dK hd ho h hc
 |slice t x lo hi mx=>exact UB hE cf dK hd ho h hc
 |extract x i=>exact LG cf dK hd ho h
 |makeFunc f first iX=>exact JH cf dK hd ho h
 |call cl=>
  cases hb:cl.callee with
  |value f=>exact Zp hE hF cf dK hd ho hb h hc
  |builtin b=>
   cases b with
   |len=>exact agp hE cf dK hd ho hb h
   |cap=>exact ago hE cf dK hd ho hb h
   |min=>exact Fq ak cf dK hd ho hb h
   |max=>exact Fq ai cf dK hd ho hb h
   |clear=>exact Uy hE cf dK hd ho hb h
   |append=>exact PU hE cf dK hd ho hb h hc
   |_=>simp[ml,ho,hb]at h
  |_=>simp[ml,ho,hb]at h
 |_=>simp[ml,ho]at h
end
end Go.FG

namespace Go.FG
theorem Dm{σ:St}{k:aF}{c:eT}(h:σ k=c):pS σ k c=σ:=by
 funext n;by_cases hn:n=k
 ·subst hn;rw[ug,h]
 ·rw[zY σ c hn]
def We(c c':e9):Prop:=∀m,900000000<=m->c'.P m=c.P m/\c'.G m=c.G m
theorem We.refl(c:e9):We c c:=λ_ _=>⟨rfl,rfl⟩
theorem We.trans{c c1 c2:e9}(h:We c c1)(k:We c1 c2):We c c2:=λm hm=>⟨(k m hm).1.trans (h m hm).1,(k m hm).2.trans (h m hm).2⟩
theorem Ya{m:aF}(h:900000000<=m):zH m=false:=by
 unfold zH;cases hb:qE m 900000000 with
 |true=>have:m<900000000:=by simpa [AM]using hb
        omega
 |false=>simp
theorem rk.aga{σ:St}{c c':e9}(h:rk σ c c'):We c c':=λm hm=>⟨(h m (.inr hm)).1,(h m (.inr hm)).2 (Ya hm)⟩
def mD(all:du fC)(o:fC)(σ:St):aC aX:=
 match o.guard with
 |none=>ah ai
 |some (g,want)=>match (all.getD g default).dst with
  |none=>aj
  |some d=>match σ (qx d)with| .v (.v ak [.b x])=>ah (x==want)| .v (.kl [])=>ah ak|_=>aj
def pX(all:du fC)(o:fC):az aF:=
 match o.guard with
 |none=>[]
 |some (g,_)=>match (all.getD g default).dst with|none=>[]|some d=>[qx d]
def vt(E:fQ)(all:du fC)(nm:aF)(o:fC)(σ:St)(ws:az (aF×eT))(lg:Lg):Prop:=
 (mD all o σ=ah ai/\∃e l,(ml E nm o).run σ []=ah (e,l)/\e.cond=ai/\ws=e.ws/\lg=⟨pX all o++l,e.ws.map (·.1)⟩)\/
 (mD all o σ=ah ak/\ws=dw o (.kl [])/\lg=⟨pX all o,(dw o (.kl [])).map (·.1)⟩)
def LA(oq i:aF):aF:=(oq+1)*1000000+i*1000
abbrev Tr:=az (az (aF×eT)×Lg)
def wE(E:fQ)(all:du fC)(oq:aF):aF->az fC->St->Tr->St->Prop
 |_,[],σ,tr,σ'=>tr=[]/\σ'=σ
 |i,o::os,σ,tr,σ'=>∃ws lg tr',tr=(ws,lg)::tr'/\vt E all (LA oq i) o σ ws lg/\wE E all oq (i+1) os (wr σ ws) tr' σ'
theorem PV{R:Type}(E:fQ)(all:du fC)(oq:aF):∀(os:az fC) (i:aF) (σ:St) (lg:az Lg) (K:St->az Lg->aC R) (r:R),ops E all oq i os σ lg K=ah r->
  ∃tr σ',wE E all oq i os σ tr σ'/\K σ' ((tr.map (·.2)).reverse++lg)=ah r:=by
 intro os;induction os with
 |nil=>intro i σ lg K r h;exact⟨[],σ,⟨rfl,rfl⟩,by simpa [ops]using h⟩
 |cons o os ih=>
  intro i σ lg K r h;have next:∀ws l,vt E all (LA oq i) o σ ws l->ops E all oq (i+1) os (wr σ ws) (l::lg) K=ah r->∃tr σ',wE E all oq i (o::os) σ tr σ'/\K σ' ((tr.map (·.2)).reverse++lg)=ah r:=by intro ws l hs h;obtain⟨tr,σ',h1,h2⟩:=ih _ _ _ _ _ h;exact⟨(ws,l)::tr,σ',⟨ws,l,tr,rfl,hs,h1⟩,by simpa using h2⟩
  have alE:∀rs,rs=pX all o->mD all o σ=ah ai->(match (ml E (LA oq i) o).run σ []with
    |some (e,l)=>bif e.cond then ops E all oq (i+1) os (wr σ e.ws) (⟨rs++l,e.ws.map (·.1)⟩::lg) K else aj
    |none=>aj)=ah r->∃tr σ',wE E all oq i (o::os) σ tr σ'/\K σ' ((tr.map (·.2)).reverse++lg)=ah r:=by
   intro rs hrs hw h
   cases hr:(ml E (LA oq i) o).run σ []with
   |none=>rw[hr]at h;cases h
   |some el=>
    obtain⟨e,l⟩:=el;rw[hr]at h;cases hc:e.cond with
    |false=>simp[hc]at h
    |true=>simp only[hc,au]at h;exact next e.ws _ (.inl ⟨hw,e,l,hr,hc,rfl,by rw[hrs]⟩) h
  unfold ops at h;simp(config:={zeta:=false}) only[E5]at h;cases hg:o.guard with
  |none=>rw[hg]at h;exact alE [] (by simp[pX,hg]) (by simp[mD,hg]) h
  |some gw=>
   obtain⟨g,want⟩:=gw;rw[hg]at h;dsimp only at h;cases hd:(all.getD g default).dst with
   |none=>rw[hd]at h;cases h
   |some d=>
    rw[hd]at h;dsimp only at h;have yM:pX all o=[qx d]:=by unfold pX;rw[hg];dsimp only;rw[hd]
    cases hs:σ (qx d)with
    |v sv=>
     rw[hs]at h;cases sv with
     |v agg xs=>
      cases agg with
      |true=>cases h
      |false=>
       match xs with
       |[]=>cases h
       |_::_::_=>simp at h
       |[av]=>
        cases av with
        |b x=>
         have hwa:mD all o σ=ah (x==want):=by unfold mD;rw[hg];dsimp only;rw[hd];dsimp only;rw[hs]
         have hup:pS σ (qx d) (.v (.v ak [.b x]))=σ:=Dm hs;have skip:mD all o σ=ah ak->ops E all oq (i+1) os (wr (pS σ (qx d) (.v (.v ak [.b x]))) (dw o (.kl []))) (⟨[qx d],(dw o (.kl [])).map (·.1)⟩::lg) K=ah r->∃tr σ',wE E all oq i (o::os) σ tr σ'/\K σ' ((tr.map (·.2)).reverse++lg)=ah r:=by intro hw h;rw[hup]at h;exact next (dw o (.kl [])) _ (.inr ⟨hw,rfl,by rw[yM]⟩) h
         have acJ:mD all o σ=ah ai->(match (ml E (LA oq i) o).run (pS σ (qx d) (.v (.v ak [.b x]))) []with
           |some (e,l)=>bif e.cond then ops E all oq (i+1) os (wr (pS σ (qx d) (.v (.v ak [.b x]))) e.ws) (⟨qx d::l,e.ws.map (·.1)⟩::lg) K else aj
           |none=>aj)=ah r->∃tr σ',wE E all oq i (o::os) σ tr σ'/\K σ' ((tr.map (·.2)).reverse++lg)=ah r:=by
          intro hw h
          rw[hup]at h
          exact alE [qx d] yM.symm hw h
         cases x with
         |true=>
          cases want with
          |true=>exact acJ (by rw[hwa];rfl) h
          |false=>exact skip (by rw[hwa];rfl) h
         |false=>
          cases want with
          |true=>exact skip (by rw[hwa];rfl) h
          |false=>exact acJ (by rw[hwa];rfl) h
        |_=>simp at h
     |kl l=>cases l with
      |nil=>
       have hwa:mD all o σ=ah false:=by unfold mD;rw[hg];dsimp only;rw[hd];dsimp only;rw[hs]
       exact next (dw o (.kl [])) _ (.inr ⟨hwa,rfl,by rw[yM]⟩) h
      |cons=>simp at h
     |un=>simp at h
    |o x=>rw[hs]at h;cases h
    |j9=>rw[hs]at h;cases h
section
variable {P:c5} {E:fQ} {σ:St} {a:Act} {w:bL} {c:e9} {o:fC} {nm:aF} {e:s8}
theorem FF(dK:fE E σ a w c){all:du fC}{x:aX}(h:mD all o σ=ah x):vn o (yielded all a.tmps)=x:=by
 unfold mD at h;unfold vn;cases hg:o.guard with
 |none=>rw[hg]at h;simp at h;simp[<-h]
 |some gw=>
  obtain⟨g,want⟩:=gw;rw[hg]at h;simp only at h⊢;cases hd:(all.getD g default).dst with
  |none=>rw[hd]at h;cases h
  |some d=>
   rw[hd]at h;have hgo:(all[g]?).bind (·.dst)=ah d:=by
    rw[eP]at hd;cases hq:all[g]? with
    |none=>rw[hq]at hd;cases hd
    |some og=>rw[hq]at hd;exact hd
   simp only at h;split at h
   ·rename_i y hy;have h1:=dK.ok d;have:slot σ d= .v ak [.b y]:=by unfold slot;rw[hy]
    rw[this]at h1;have h1:a.eval (.tmp d)= .bool y:=h1;have ht:a.tmps[d]? =ah (.bool y):=by
     have h2:a.tmps.getD d undef= .bool y:=h1;rw[eP]at h2;cases hq:a.tmps[d]? with
     |none=>rw[hq]at h2;cases h2
     |some v=>rw[hq]at h2;rw[show v=_ from h2]
    have Jp:yielded all a.tmps g=ah y:=by unfold yielded;rw[hgo];simp[ht]
    rw[Jp];simp at h;rw[<-h];cases y<;>cases want<;>rfl
   ·rename_i hy;have h1:=dK.ok d;have:slot σ d= .kl []:=by unfold slot;rw[hy]
    rw[this]at h1;obtain⟨vs,h1,h3,_⟩:=h1;have h4:vs= #[]:=by simpa using h3
    subst h4;have ht:a.tmps.getD d undef= .tuple #[]:=h1;have Jp:yielded all a.tmps g=none:=by
     unfold yielded;rw[hgo];rw[eP]at ht;cases hq:a.tmps[d]? with
     |none=>simp[hq]
     |some v=>rw[hq]at ht;simp at ht;simp[hq,ht]
    rw[Jp];have h5:ak=x:=by simpa using h
    rw[<-h5];cases want<;>rfl
   ·cases h
theorem Act.Va(a:Act)(d:aC Tmp)(v:bk):(a.put d v).tmps.size=a.tmps.size:=by cases d<;>simp[Wf]
theorem BI(hE:eH P E)(hF:∀g,lS P E g (E.call g))(cf:Ok E σ w c)(dK:fE E σ a w c)(hd:∀d,o.dst=ah d->d<a.tmps.size){all:du fC}{i:aF}(hi:all[i]? =ah o){ws:az (aF×eT)}{lg:Lg}(h:vt E all nm o σ ws lg)
  {K:Act->bL->Prop} {Q:Exit->Act->bL->Prop} (hK:∀v w' c',Ok E (wr σ ws) w' c'->fE E (wr σ ws) (a.put o.dst v) w' c'->oG σ c w (wr σ ws) c' w'->rk σ c c'->K (a.put o.dst v) w'):wpOp P all Q i K a w:=by
 unfold wpOp;rw[hi];simp only;rcases h with ⟨hw,e,l,hr,hc,rfl,_⟩|⟨hw,rfl,_⟩
 ·rw[bz (FF dK hw)];exact .inl (alC hE hF cf dK hd (Rd.Me hr) hc K Q hK)
 ·rw[bH (by rw[FF dK hw];simp)];obtain⟨s1,s2,s3⟩:=sg σ o (.kl []);obtain⟨h1,h2⟩:=cf.slot s3;refine hK undef w c h1 ?_ h2 (jI.refl _ _).w;refine dK.change cf h2 (jI.refl _ _) (λnm hn=>by rw[s3];exact hn) o undef s1 (λd ho=>⟨hd d ho, ?_, ?_⟩)
  ·rw[s2 d ho];exact⟨#[],rfl,rfl,λj agg xs hj=>by simp at hj⟩
  ·rw[s2 d ho];intro n hn;simp[cO]at hn
structure At (P:c5) (E:fQ) (N:aF) (σ0:St) (c0:e9) (w0:bL) (σ:St) (a:Act) (w:bL) (c:e9):Prop where
 ok:Ok E σ w c
 sl:fE E σ a w c
 sz:a.tmps.size=N
 gr:oG σ0 c0 w0 σ c w
 ag:We c0 c
theorem At.step{N:aF}{σ0:St}{c0:e9}{w0:bL}(h:At P E N σ0 c0 w0 σ a w c){d:aC Tmp}{v:bk}{w':bL}{c':e9}{σ':St}(h1:Ok E σ' w' c')(h2:fE E σ' (a.put d v) w' c')(h3:oG σ c w σ' c' w')(h4:rk σ c c'):At P E N σ0 c0 w0 σ' (a.put d v) w' c':=
 ⟨h1,h2,by rw[Act.Va];exact h.sz,h.gr.trans h3,h.ag.trans h4.aga⟩
theorem KM(hE:eH P E)(hF:∀g,lS P E g (E.call g)){N:aF}{σ0:St}{c0:e9}{w0:bL}{all:du fC}{oq:aF}{Q:Exit->Act->bL->Prop}:∀(os:az fC) (i:aF) (σ:St) (tr:Tr) (σ':St),wE E all oq i os σ tr σ'->(∀j o,os[j]? =ah o->all[i+j]? =ah o)->(∀o∈os,∀d,o.dst=ah d->d<N)->
  (∀a w c,At P E N σ0 c0 w0 σ' a w c->Q .normal a w)->∀a w c,At P E N σ0 c0 w0 σ a w c->wpOps P all Q (mw i os.length) a w:=by
 intro os;induction os with
 |nil=>intro i σ tr σ' h _ _ hQ a w c gf;obtain⟨_,rfl⟩:=h;exact hQ a w c gf
 |cons o os ih=>intro i σ tr σ' h n5 Cz hQ a w c gf;obtain⟨ws,lg,tr',rfl,hs,Wv⟩:=h;have hi:all[i]? =ah o:=n5 0 o rfl;rw[db,List.range'_succ,wpOps_cons];refine BI hE hF gf.ok gf.sl (λd hd=>by rw[gf.sz];exact Cz o (dq ..) d hd) hi hs (λv w' c' h1 h2 h3 h4=> ?_);exact ih (i+1) _ _ _ Wv (λj o' hj=>by have:=n5 (j+1) o' hj;rwa[show i+(j+1)=i+1+j by omega]at this) (λo' vA=>Cz o' (c7 _ vA)) hQ _ _ _ (gf.step h1 h2 h3 h4)
end
end Go.FG

namespace Go.FG
theorem Rd.ZH{α:Type}(m:Rd α):∀{σ:St} {l l':az aF} {a:α},m.run σ l=ah (a,l')->∀k∈l,k∈l':=by
 induction m with
 |ret a=>intro σ l l' b h k hk;cases h;exact hk
 |fail=>intro σ l l' b h;cases h
 |get k f ih=>intro σ l l' b h k' vx;exact ih _ h k' (c7 _ vx)
theorem Rd.Qe{α:Type}(m:Rd α):∀{σ σ':St} {l l':az aF} {a:α},m.run σ l=ah (a,l')->(∀k∈l',σ' k=σ k)->m.run σ' l=ah (a,l'):=by
 induction m with
 |ret a=>intro σ σ' l l' b h _;exact h
 |fail=>intro σ σ' l l' b h;cases h
 |get k f ih=>intro σ σ' l l' b h hk;have h:(f (σ k)).run σ (k::l)=ah (b,l'):=h;have vx:σ' k=σ k:=hk k (Rd.ZH _ h k (dq ..));show(f (σ' k)).run σ' (k::l)=ah (b,l');rw[vx];exact ih _ h hk
theorem yF{all:du fC}{o:fC}{σ σ':St}(h:∀k∈pX all o,σ' k=σ k):mD all o σ'=mD all o σ:=by
 unfold mD pX at*
 cases hg:o.guard with
 |none=>rfl
 |some gw=>
  obtain⟨g,want⟩:=gw;rw[hg]at h;dsimp only at h⊢;cases hd:(all.getD g default).dst with
  |none=>rfl
  |some d=>rw[hd]at h;dsimp only at h⊢;rw[h (qx d) (aZ.2 rfl)]
theorem vt.congr{E:fQ}{all:du fC}{nm:aF}{o:fC}{σ σ':St}{ws:az (aF×eT)}{lg:Lg}(h:vt E all nm o σ ws lg)(hk:∀k∈lg.rs,σ' k=σ k):vt E all nm o σ' ws lg:=by
 rcases h with ⟨h1,e,l,h2,h3,rfl,rfl⟩|⟨h1,rfl,rfl⟩
 ·refine .inl ⟨by rw[yF (λk vx=>hk k (bM _ vx))];exact h1,e,l,Rd.Qe _ h2 (λk vx=>hk k (bN _ vx)),h3,rfl,rfl⟩
 ·exact .inr ⟨by rw[yF (λk vx=>hk k vx)];exact h1,rfl,rfl⟩
theorem vt.keys{E:fQ}{all:du fC}{nm:aF}{o:fC}{σ:St}{ws:az (aF×eT)}{lg:Lg}(h:vt E all nm o σ ws lg):lg.ws=ws.map (·.1):=by rcases h with ⟨h1,e,l,h2,h3,rfl,rfl⟩|⟨h1,rfl,rfl⟩<;>rfl
theorem pI:∀{ws:az (aF×eT)} {σ:St} {k:aF},k∉ws.map (·.1)->wr σ ws k=σ k:=by
 intro ws;induction ws with
 |nil=>intro σ k _;rfl
 |cons d ws ih=>obtain⟨k',c⟩:=d;intro σ k h;rw[fD,cB,not_or]at h;show wr (pS σ k' c) ws k=σ k;rw[ih h.2,zY σ c h.1]
theorem V5:∀{ws:az (aF×eT)} {σ σ':St} {k:aF},k∈ws.map (·.1)->wr σ ws k=wr σ' ws k:=by
 intro ws;induction ws with
 |nil=>intro σ σ' k h;cases h
 |cons d ws ih=>
  obtain⟨k',c⟩:=d;intro σ σ' k h;show wr (pS σ k' c) ws k=wr (pS σ' k' c) ws k;by_cases hk:k∈ws.map (·.1)
  ·exact ih hk
  ·have:k=k':=by
    rcases cB.1 h with h|h
    ·exact h
    ·exact cJ h hk
   subst this;rw[pI hk,pI hk,ug,ug]
theorem V4{ws:az (aF×eT)}{σ σ':St}{k:aF}(h:σ k=σ' k):wr σ ws k=wr σ' ws k:=by
 by_cases hk:k∈ws.map (·.1)
 ·exact V5 hk
 ·rw[pI hk,pI hk];exact h
def DA:Tr->aF->(aF->aX)->St->St
 |[],_,_,σ=>σ
 |(ws,_)::tr,i,S,σ=>DA tr (i+1) S (bif S i then wr σ ws else σ)
theorem uR:∀{tr:Tr} {i:aF} {S S':aF->aX} {σ σ':St} {k:aF},σ k=σ' k->(∀j ws lg,tr[j]? =ah (ws,lg)->S (i+j)≠S' (i+j)->k∉ws.map (·.1))->DA tr i S σ k=DA tr i S' σ' k:=by
 intro tr;induction tr with
 |nil=>intro i S S' σ σ' k h _;exact h
 |cons d tr ih=>
  obtain⟨ws,lg⟩:=d;intro i S S' σ σ' k h hd;refine ih ?_ (λj Ek Dz hj iB=>hd (j+1) Ek Dz hj (by rwa[show i+(j+1)=i+1+j by omega]));by_cases hS:S i=S' i
  ·rw[hS];cases S' i
   ·exact h
   ·exact V4 h
  ·have hk:=hd 0 ws lg rfl hS;cases hs:S i<;>cases hs':S' i
   ·exact cJ (hs.trans hs'.symm) hS
   ·show σ k=wr σ' ws k;rw[pI hk];exact h
   ·show wr σ ws k=σ' k;rw[pI hk];exact h
   ·exact cJ (hs.trans hs'.symm) hS
theorem Dj:∀{tr:Tr} {i:aF} {S:aF->aX} {σ:St},(∀j,i<=j->S j=ak)->DA tr i S σ=σ:=by
 intro tr;induction tr with
 |nil=>intro i S σ _;rfl
 |cons d tr ih=>obtain⟨ws,lg⟩:=d;intro i S σ h;show DA tr (i+1) S (bif S i then wr σ ws else σ)=σ;rw[h i (cF _)];exact ih (λj hj=>h j (by omega))
theorem VN:∀{tr:Tr} {i j:aF} {S:aF->aX} {σ:St} {ws:az (aF×eT)} {lg:Lg},tr[j]? =ah (ws,lg)->S (i+j)=ai->(∀q,i+j<q->S q=ak)->∃τ,DA tr i S σ=wr τ ws:=by
 intro tr;induction tr with
 |nil=>intro i j S σ ws lg h;simp at h
 |cons d tr ih=>
  obtain⟨Ek,Dz⟩:=d;intro i j S σ ws lg h hS hn;cases j with
  |zero=>
   cases h;refine⟨σ, ?_⟩
   show DA tr (i+1) S (bif S i then wr σ Ek else σ)=wr σ Ek;rw[show S i=ai from hS];exact Dj (λq hq=>hn q (by omega))
  |succ j=>exact ih (i:=i+1) h (by rwa[show i+1+j=i+(j+1)by omega]) (λq hq=>hn q (by omega))
theorem Su{E:fQ}{all:du fC}{oq:aF}:∀{os:az fC} {i:aF} {σ σ':St} {tr:Tr},wE E all oq i os σ tr σ'->tr.length=os.length/\DA tr i (λ_=>ai) σ=σ'/\
  ∀(j:aF) (o:fC),os[j]? =ah o->∃ws lg,tr[j]? =ah (ws,lg)/\vt E all (LA oq (i+j)) o (DA tr i (λq=>decide (q<i+j)) σ) ws lg:=by
 intro os;induction os with
 |nil=>intro i σ σ' tr h;obtain⟨rfl,rfl⟩:=h;exact⟨rfl,rfl,λj o h=>by simp at h⟩
 |cons o os ih=>
  intro i σ σ' tr h;obtain⟨ws,lg,tr',rfl,hs,Wv⟩:=h;obtain⟨h1,h2,h3⟩:=ih Wv;refine⟨by simp[h1],h2,λj o' hj=> ?_⟩
  cases j with
  |zero=>
   cases hj;refine⟨ws,lg,rfl, ?_⟩
   rw[show DA ((ws,lg)::tr') i (λq=>decide (q<i+0)) σ=σ from Dj (λq hq=>by simp;omega)];exact hs
  |succ j=>
   obtain⟨Ek,Dz,q1,q2⟩:=h3 j o' hj;refine⟨Ek,Dz,q1, ?_⟩
   have e1:DA ((ws,lg)::tr') i (λq=>decide (q<i+(j+1))) σ=DA tr' (i+1) (λq=>decide (q<i+1+j)) (wr σ ws):=by show DA tr' (i+1) (λq=>decide (q<i+(j+1))) (bif decide (i<i+(j+1))then wr σ ws else σ)=_;rw[aE (by omega:i<i+(j+1))];rw[show i+(j+1)=i+1+j by omega];rfl
   rw[e1,show i+(j+1)=i+1+j by omega];exact q2
theorem tC{a b:Lg}(h:Cg a b=ak):(∀k∈a.ws,k∉b.ws)/\(∀k∈a.ws,k∉b.rs)/\∀k∈b.ws,k∉a.rs:=by simp only[Cg,nk,aL]at h;exact⟨oY h.1.1,oY h.1.2,oY h.2⟩
theorem zL{l:az aF}{n:aF}(h:mO n l=ai):n∈l:=by
 induction l with
 |nil=>cases h
 |cons m r ih=>
  simp only[mO,dL]at h;rcases h with h|h
  ·rw[aU h];exact dq ..
  ·exact c7 _ (ih h)
theorem KI{an:az aF}{j:aF}{a:Lg}:∀{l:az Lg} {i:aF},Bq an j a i l=ai->∀(q:aF) (b:Lg),l[q]? =ah b->i+q∈an\/Cg a b=false:=by
 intro l;induction l with
 |nil=>intro i _ q b h;simp at h
 |cons d l ih=>
  intro i h q b hq;simp only[Bq,aL,dL,dr]at h;cases q with
  |zero=>cases hq;exact h.1.imp zL id
  |succ q=>have:=ih h.2 q b hq;rwa[show i+1+q=i+(q+1)by omega]at this
theorem Nb{an:az (az aF)}:∀{rest:az Lg} {j:aF} {done:az Lg},done.length=j->calm j an done rest=ai->∀(i J:aF) (a b:Lg),i<J->j<=J->(done++rest)[i]? =ah b->(done++rest)[J]? =ah a->i∈an.getD J []\/Cg a b=false:=by
 intro rest;induction rest with
 |nil=>intro j done hd _ i J a b _ hJ _ hb;rw[dn,k_ (by omega)]at hb;cases hb
 |cons d rest ih=>
  intro j done hd h i J a b Pv hJ hi hb;simp only[calm,aL]at h;by_cases hJj:J=j
  ·subst hJj;rw[da (by omega),hd,Nat.sub_self]at hb;cases hb;rw[dH (by omega)]at hi;have:=KI h.1 i b hi;rwa[bV]at this
  ·refine ih (done:=done++[d]) (by simp[hd]) h.2 i J a b Pv (by omega) ?_ ?_
   ·rw[cz];exact hi
   ·rw[cz];exact hb
theorem Xc:∀{os:az fC} {acc:az (az aF)},∃rest,GP acc os=acc++rest/\rest.length=os.length/\
  ∀(t:aF) (o:fC),os[t]? =ah o->rest[t]? =ah (ddA [] (o.after.toList.flatMap λe=>bif mU .any e then e.on::((acc++rest).take (acc.length+t)).getD e.on []else [])):=by
 intro os;induction os with
 |nil=>intro acc;exact⟨[],by simp[GP],rfl,λt o h=>by simp at h⟩
 |cons o os ih=>
  intro acc;let x:=ddA [] (o.after.toList.flatMap λe=>bif mU .any e then e.on::acc.getD e.on []else []);obtain⟨rest,h1,h2,h3⟩:=ih (acc:=acc++[x]);refine⟨x::rest, ?_,by simp[h2],λt o' ht=> ?_⟩
  ·show m8 x (λx=>GP (acc++[x]) os)=_;rw[o0,h1,cz];rfl
  ·cases t with
   |zero=>cases ht;rw[sI,yX,pb (cF _),dD]
   |succ t=>rw[dO,h3 t o' ht];simp only[bP,bA,cz,uZ,show acc.length+1+t=acc.length+(t+1)by omega]
theorem N2:∀{os:az fC} {i:aF},JJ i os=ai->∀(t:aF) (o:fC),os[t]? =ah o->∀e∈o.after,mU .any e=ai->e.on<i+t:=by
 intro os;induction os with
 |nil=>intro i _ t o h;simp at h
 |cons o os ih=>
  intro i h t o' ht e he hb;simp only[JJ,aL]at h;cases t with
  |zero=>
   cases ht;have:=bu.1 h.1 e (by simpa using he);rw[hb]at this;have:qE e.on i=true:=by simpa using this
   simpa [AM]using this
  |succ t=>have:=ih h.2 t o' ht e he hb;omega
theorem B6{os:az fC}{S:aF->aX}(hS:∀(j:aF) (o:fC),S j=ai->os[j]? =ah o->∀e∈o.after,mU .any e=ai->S e.on=ai)(S4:JJ 0 os=ai):
  ∀j,S j=ai->∀i∈(GP [] os).getD j [],S i=true:=by
 obtain⟨rest,h1,h2,h3⟩:=Xc (os:=os) (acc:=[]);rw[gC]at h1;intro j;induction j using Nat.strongRecOn with
 |_ j ih=>
  intro hj i hi;rw[h1,cS]at hi;cases ho:os[j]? with
  |none=>rw[k_ (by rw[h2];exact List.getElem?_eq_none_iff.1 ho)]at hi;cases hi
  |some o=>
   rw[h3 j o ho]at hi;simp only[yY,jT,bV,gC]at hi;have hi:=(GY _ _ _ hi).elim (λh=>by cases h) id;obtain⟨e,he,hi⟩:=bQ.1 hi;have he:e∈o.after:=by simpa using he
   cases hb:mU .any e with
   |false=>rw[hb]at hi;cases hi
   |true=>
    rw[hb]at hi;have jD:=N2 S4 j o ho e he hb;rw[bV]at jD;have hSe:=hS j o hj ho e he hb;rcases cB.1 hi with rfl|hi
    ·exact hSe
    ·refine ih e.on jD hSe i ?_;rw[h1,cS];rw[cS,d_,bz jD]at hi;exact hi
end Go.FG

namespace Go.FG
theorem IK{p p':aF->aX}{i:aF}(hp:p i=ai)(mN:p' i=ak)(iB:∀j,j≠i->p' j=p j):∀{l:az aF},l.Nodup->i∈l->l.countP p'+1=l.countP p:=by
 have same:∀{l:az aF},i∉l->l.countP p'=l.countP p:=by
  intro l;induction l with
  |nil=>intro _;rfl
  |cons m l ih=>intro h;rw[cB,not_or]at h;rw[lJ,lJ,ih h.2,iB m (λe=>h.1 e.symm)]
 intro l;induction l with
 |nil=>intro _ h;cases h
 |cons m l ih=>
  intro hn h;rw[lh]at hn;rcases cB.1 h with rfl|h
  ·rw[lJ,lJ,same hn.1,hp,mN];simp
  ·have hm:m≠i:=λe=>hn.1 (e▸h);rw[lJ,lJ,iB m hm,<-ih hn.2 h];omega
theorem qu{dP:du aX}{i:aF}(h:i<dP.size)(d:aX):(dP.setIfInBounds i ai).getD i d=true:=by simp[h]
section
variable {P:c5} {E:fQ}
theorem O5(hE:eH P E)(hF:∀g,lS P E g (E.call g)){N:aF}{σ0:St}{c0:e9}{w0:bL}{all:du fC}{oq:aF}{Q:Exit->Act->bL->Prop}{σ σ':St}{tr:Tr}(Wv:wE E all oq 0 all.toList σ tr σ')(aa6:calm 0 (GP [] all.toList) [] (tr.map (·.2))=ai)(S4:JJ 0 all.toList=ai)
  (Cz:∀o∈all.toList,∀d,o.dst=ah d->d<N) (hQ:∀a w c,At P E N σ0 c0 w0 σ' a w c->Q .normal a w):
  ∀(fuel:aF) (dP:du aX) (a:Act) (w:bL) (c:e9),dP.size=all.size->(∀(j:aF) (o:fC),dP.getD j ak=ai->all.toList[j]? =ah o->∀e∈o.after,mU .any e=ai->dP.getD e.on ak=ai)->
   (b9 all.size).countP (λj=> !dP.getD j ak)<=fuel->At P E N σ0 c0 w0 (DA tr 0 (λj=>dP.getD j ak) σ) a w c->wpAny P .any all Q fuel dP a w:=by
 obtain⟨t1,t2,t3⟩:=Su Wv;have hlen:all.toList.length=all.size:=dR;have done:∀(dP:du aX) (a:Act) (w:bL) (c:e9),(∀j,j<all.size->dP.getD j ak=ai)->At P E N σ0 c0 w0 (DA tr 0 (λj=>dP.getD j ak) σ) a w c->Q .normal a w:=by
  intro dP a w c n5 gf;refine hQ a w c ?_;have:DA tr 0 (λj=>dP.getD j ak) σ=σ':=by
   rw[<-t2];funext k;refine uR rfl (λj ws lg hj iB=> ?_);have j8:j<all.size:=by rw[<-hlen,<-t1];exact(aT.1 hj).1
   rw[bV]at iB;exact cJ (n5 j j8) iB
  rw[<-this];exact gf
 have aeS:∀(dP:du aX) (j:aF),dP.size=all.size->j<all.size->dP.getD j ai=dP.getD j false:=by
  intro dP j hs hj;rw[eP,eP];have:j<dP.size:=by omega
  simp[this]
 have full:∀dP:du aX,dP.size=all.size->wL .any all dP=[]->∀j,j<all.size->dP.getD j ak=true:=by
  intro dP hs hr j;induction j using Nat.strongRecOn with
  |_ j ih=>
   intro hj;cases h:dP.getD j ak with
   |true=>rfl
   |false=>
    have ho:all[j]? =ah all[j]:=by simp[hj]
    have:j∈wL .any all dP:=by
     rw[mem_ready];refine⟨by rw[aeS dP j hs hj];exact h,all[j],ho,λe he hb=> ?_⟩
     have:=N2 S4 j all[j] (by rw[cY];exact ho) e he hb;rw[bV]at this;exact ih e.on this (by omega)
    rw[hr]at this;cases this
 intro fuel;induction fuel with
 |zero=>
  intro dP a w c hs _ aiU gf;have n5:∀j,j<all.size->dP.getD j ak=true:=by intro j hj;have h0:=List.countP_eq_zero.1 (Nat.le_zero.1 aiU) j (by simpa using hj);simpa using h0
  refine⟨?_,done dP a w c n5 gf⟩
  cases hr:wL .any all dP with
  |nil=>rfl
  |cons i r=>
   have:i∈wL .any all dP:=by rw[hr];exact dq ..
   obtain⟨h0,o,ho,_⟩:=mem_ready.1 this;have hi:i<all.size:=(dU.1 ho).1;rw[aeS dP i hs hi,n5 i hi]at h0;cases h0
 |succ fuel ih=>
  intro dP a w c hs oe aiU gf;refine⟨λhr=>done dP a w c (full dP hs hr) gf,λi hi=> ?_⟩
  obtain⟨h0,o,ho,ase⟩:=mem_ready.1 hi;have hil:i<all.size:=(dU.1 ho).1;rw[aeS dP i hs hil]at h0;have Fb:all.toList[i]? =ah o:=by rw[cY];exact ho
  obtain⟨ws,lg,q1,q2⟩:=t3 i o Fb;rw[bV]at q2;have TG:∀{j:aF} {Ek:az (aF×eT)} {Dz:Lg},tr[j]? =ah (Ek,Dz)->(tr.map (·.2))[j]? =ah Dz/\Dz.ws=Ek.map (·.1):=by
   intro j Ek Dz hj;have j8:j<all.toList.length:=by rw[<-t1];exact(aT.1 hj).1
   obtain⟨ws2,lg2,r1,r2⟩:=t3 j all.toList[j] (by simp[j8]);rw[hj]at r1;cases r1;exact⟨by rw[bK,hj];rfl,r2.keys⟩
  obtain⟨lgi,kwi⟩:=TG q1;have afc:∀(j:aF) (o':fC),(dP.setIfInBounds i ai).getD j ak=ai->all.toList[j]? =ah o'->∀e∈o'.after,mU .any e=ai->(dP.setIfInBounds i ai).getD e.on ak=true:=by
   intro j o' hj vA e he hb;by_cases Ld:i=j
   ·subst Ld;rw[Fb]at vA;cases vA;exact getD_set_true (ase e he hb)
   ·rw[getD_set_ne ak Ld]at hj;exact getD_set_true (oe j o' hj vA e he hb)
  have before:∀j,j<i->dP.getD j ak=ak->∀{Ek:az (aF×eT)} {Dz:Lg},tr[j]? =ah (Ek,Dz)->Cg lg Dz=false:=by
   intro j hj hn Ek Dz hjt;rcases Nb (done:=[]) rfl aa6 j i lg Dz hj (bI _) (TG hjt).1 lgi with h|h
   ·have:=B6 afc S4 i (qu (by omega) ak) j h;rw[getD_set_ne ak (by omega:i≠j)]at this;rw[hn]at this;cases this
   ·exact h
  have after:∀j,i<j->dP.getD j ak=ai->∀{Ek:az (aF×eT)} {Dz:Lg},tr[j]? =ah (Ek,Dz)->Cg Dz lg=false:=by
   intro j hj hn Ek Dz hjt;rcases Nb (done:=[]) rfl aa6 i j Dz lg hj (bI _) lgi (TG hjt).1 with h|h
   ·have:=B6 oe S4 j hn i h;rw[h0]at this;cases this
   ·exact h
  have ajq:vt E all (LA oq i) o (DA tr 0 (λj=>dP.getD j ak) σ) ws lg:=by
   refine q2.congr (λk hk=>uR rfl (λj Ek Dz hj iB hkw=> ?_));rw[bV]at iB;rw[<-(TG hj).2]at hkw;by_cases Ld:j<i
   ·rw[aE Ld]at iB;have hn:dP.getD j ak=false:=by simpa using iB
    exact(tC (before j Ld hn hj)).2.2 k hkw hk
   ·rw[aK Ld]at iB;have hn:dP.getD j ak=true:=by simpa using iB
    have ar2:i<j:=by
     rcases q_ i j with h|h
     ·exact h
     ·have:j=i:=by omega
      subst this;rw[h0]at hn;cases hn
    exact(tC (after j ar2 hn hj)).2.1 k hkw hk
  have zE:wr (DA tr 0 (λj=>dP.getD j ak) σ) ws=DA tr 0 (λj=>(dP.setIfInBounds i ai).getD j ak) σ:=by
   funext k;by_cases hk:k∈ws.map (·.1)
   ·have e1:DA tr 0 (λj=>(dP.setIfInBounds i ai).getD j ak) σ k=DA tr 0 (λj=>(dP.setIfInBounds i ai).getD j ak&&decide (j<=i)) σ k:=by
     refine uR rfl (λj Ek Dz hj iB hkw=> ?_);rw[bV]at iB;rw[<-(TG hj).2]at hkw;have Ld:i<j:=by
      rcases q_ i j with h|h
      ·exact h
      ·rw[aE h,ju]at iB;exact cJ rfl iB
     rw[aK (by omega:¬j<=i),wC,getD_set_ne ak (by omega:i≠j)]at iB;have hn:dP.getD j ak=true:=by simpa using iB
     rw[<-kwi]at hk;exact(tC (after j Ld hn hj)).1 k hkw hk
    obtain⟨τ,hτ⟩:=VN (i:=0) (S:=λj=>(dP.setIfInBounds i ai).getD j ak&&decide (j<=i)) (σ:=σ) q1 (by rw[bV,qu (by omega) ak];simp) (λq hq=>by rw[aK (by omega:¬q<=i),wC]);rw[e1,hτ];exact V5 hk
   ·rw[pI hk];refine uR rfl (λj Ek Dz hj iB hkw=> ?_);rw[bV]at iB;by_cases Ld:i=j
    ·subst Ld;rw[q1]at hj;cases hj;exact hk hkw
    ·rw[getD_set_ne ak Ld]at iB;exact cJ rfl iB
  refine BI hE hF gf.ok gf.sl (λd hd'=>by rw[gf.sz];exact Cz o (aQ Fb) d hd') ho ajq (λv w' c' h1 h2 h3 h4=> ?_);have A6:=gf.step h1 h2 h3 h4;rw[zE]at A6;refine ih (dP.setIfInBounds i ai) _ _ c' (by simp[hs]) afc ?_ A6;have:=IK (p:=λj=> !dP.getD j ak) (p':=λj=> !(dP.setIfInBounds i ai).getD j ak) (i:=i) (by rw[h0];rfl) (by rw[qu (by omega) ak];rfl) (λj hj=>by rw[getD_set_ne ak (λe=>hj e.symm)]) (l:=b9 all.size) List.nodup_range (by simpa using hil);omega
theorem At.drawn{N:aF}{σ0 σ:St}{c0 c:e9}{w0 w:bL}{a:Act}(h:At P E N σ0 c0 w0 σ a w c)(n:aF):At P E N σ0 c0 w0 σ a {w with drawn:=n} c:=by have hh:=h.ok.change (σ':=σ) (w':={w with drawn:=n}) (c':=c) (λ_=>False) (λ_ _=>rfl) (λ_ h=>h) (jI.refl _ _) (λ_ _ _=>rfl) (cF _) (λ_ h=>h) (λ_ h=> .inl h) h.ok.lt (λ_ _ h=>h.elim) (λ_ _ _ h=>h.elim) (λ_ _ _ _ _ h=>h.elim) (λ_ _ h=>h.elim) rfl rfl rfl;refine⟨hh.1,⟨λn'=>(h.sl.ok n').frame (λ_ _=>rfl) (λ_ h=>h) (λ_ _=>⟨rfl,rfl⟩),h.sl.kn,h.sl.df⟩,h.sz,h.gr.trans hh.2,h.ag⟩
theorem P7(hE:eH P E)(hF:∀g,lS P E g (E.call g))(hm:P.follows .mixedOrders=ai){R:Type}{N:aF}{σ0:St}{c0:e9}{w0:bL}{os:du fC}{oq:aF}{draw:aX}{Q:Exit->Act->bL->Prop}{σ:St}{K:Ex->St->aC R}{r:R}
  (h:ops E os oq 0 os.toList σ [] (λσ lg=>bif !draw||(JJ 0 os.toList&&Na (GP [] os.toList) lg.reverse)then K .normal σ else aj)=ah r) (Cz:∀o∈os.toList,∀d,o.dst=ah d->d<N)
  (hQ:∀σ' a w c,K .normal σ'=ah r->At P E N σ0 c0 w0 σ' a w c->Q .normal a w) {a:Act} {w:bL} {c:e9} (gf:At P E N σ0 c0 w0 σ a w c):(Code.region oq os draw).wp P Q a w:=by
 obtain⟨tr,σ',Wv,hk⟩:=PV E os oq _ _ _ _ _ _ h;simp only[dn,vQ,Sn]at hk;cases draw with
 |false=>simp only[bR,AE,au]at hk;refine wp_region ?_;rw[R5,<-dR];exact KM hE hF os.toList 0 σ tr σ' Wv (λj o hj=>by rw[bV,<-cY];exact hj) Cz (λa w c h=>hQ σ' a w c hk h) a w c gf
 |true=>
  cases hc:(JJ 0 os.toList&&calm 0 (GP [] os.toList) [] (tr.map (·.2)))with
  |false=>simp[hc]at hk
  |true=>
   simp only[hc,Kn,au]at hk;simp only[aL]at hc;refine wp_region_any hm ?_;refine O5 hE hF Wv hc.2 hc.1 Cz (λa w c h=>hQ σ' a w c hk h) os.size _ a _ c (by simp) (λj o hj=> ?_) ?_ ?_
   ·exfalso;rw[eP,Ep]at hj;split at hj<;>cases hj
   ·exact dh (List.countP_le_length) (by simp)
   ·have:DA tr 0 (λj=>(Bb os.size ak).getD j ak) σ=σ:=Dj (λj _=>by rw[eP,Ep];split<;>rfl);rw[this];exact gf.drawn _
end
end Go.FG

namespace Go.FG
theorem Ta:∀{l:az aF} {n i:aF},n∈l->∃k,idx n i l=ah k/\i<=k/\k<i+l.length/\l[k-i]? =ah n:=by
 intro l;induction l with
 |nil=>intro n i h;cases h
 |cons m l ih=>
  intro n i h;unfold idx;cases hb:bD n m with
  |true=>have:=aU hb;subst this;exact⟨i,rfl,cF _,by simp,by simp⟩
  |false=>
   rcases cB.1 h with rfl|h
   ·simp at hb
   ·obtain⟨k,h1,h2,h3,h4⟩:=ih (i:=i+1) h;refine⟨k,h1,by omega,by simp;omega, ?_⟩
    rw[show k-i=(k-(i+1))+1 by omega,dO];exact h4
theorem X6:∀{l:az aF} {n i k:aF},idx n i l=ah k->i<=k/\k<i+l.length/\l[k-i]? =ah n:=by
 intro l;induction l with
 |nil=>intro n i k h;cases h
 |cons m l ih=>
  intro n i k h;unfold idx at h;cases hb:bD n m with
  |true=>rw[hb]at h;have:=aU hb;subst this;cases h;exact⟨cF _,by simp,by simp⟩
  |false=>
   rw[hb]at h;obtain⟨h2,h3,h4⟩:=ih h;refine⟨by omega,by simp;omega, ?_⟩
   rw[show k-i=(k-(i+1))+1 by omega,dO];exact h4
theorem KS{f:aX}{k:aF}(h:k<900):enc f k<900000000:=by unfold enc;cases f<;>simp<;>omega
theorem Yb{f:aX}{k:aF}(h:k<900):zH (enc f k)=f:=by
 cases f with
 |false=>
  show(bD (k%1000) 999&&qE k 900000000)=ak;have:bD (k%1000) 999=false:=by
   cases hb:bD (k%1000) 999 with
   |false=>rfl
   |true=>have:=aU hb;omega
  rw[this];rfl
 |true=>show(bD ((k*1000+999)%1000) 999&&qE (k*1000+999) 900000000)=ai;rw[show(k*1000+999)%1000=999 by omega,show qE (k*1000+999) 900000000=ai from Kw (by omega)];rfl
theorem Xu{f f':aX}{k k':aF}(h:k<900)(h':k'<900)(he:enc f k=enc f' k'):k=k':=by unfold enc at he;cases f<;>cases f'<;>simp at he<;>omega
theorem UZ{l:az aF}{n:aF}(h:n∈l):∃k,wq l n=ah k:=by
 unfold wq;cases fK 900000000 n with
 |true=>exact⟨n,by simp[Jx h]⟩
 |false=>obtain⟨k,hk,_⟩:=Ta (i:=0) h;exact⟨enc (zH n) k,by simp[hk]⟩
theorem xZ{l:az aF}{n k:aF}(h:wq l n=ah k):n∈l/\((900000000<=n/\k=n)\/(n<900000000/\∃k0,k=enc (zH n) k0/\k0<l.length/\l[k0]? =ah n)):=by
 unfold wq at h;cases hb:fK 900000000 n with
 |true=>
  rw[hb]at h;cases hm:mO n l with
  |true=>simp only[hm,au]at h;cases h;exact⟨zL hm, .inl ⟨cM hb,rfl⟩⟩
  |false=>simp[hm]at h
 |false=>
  rw[hb,ax]at h;cases hi:idx n 0 l with
  |none=>rw[hi]at h;cases h
  |some k0=>
   rw[hi]at h;cases h;obtain⟨_,h3,h4⟩:=X6 hi;rw[sr]at h4;refine⟨aQ h4, .inr ⟨?_,k0,rfl,by simpa using h3,h4⟩⟩
   rcases q_ n 900000000 with h|h
   ·exact h
   ·rw[Kw h]at hb;cases hb
theorem N5{l:az aF}(hl:l.length<=900){n k:aF}(h:wq l n=ah k):zH k=zH n:=by
 obtain⟨_,⟨_,rfl⟩|⟨_,k0,rfl,h3,_⟩⟩:=xZ h
 ·rfl
 ·exact Yb (by omega)
theorem ZD{l:az aF}(hl:l.length<=900){n n' k:aF}(h:wq l n=ah k)(h':wq l n'=ah k):n=n':=by
 obtain⟨_,h1⟩:=xZ h;obtain⟨_,h2⟩:=xZ h';rcases h1 with ⟨a,b⟩|⟨a,k0,b,d,e⟩<;>rcases h2 with ⟨a',b'⟩|⟨a',k0',b',d',e'⟩
 ·omega
 ·have:=KS (f:=zH n') (k:=k0') (by omega);omega
 ·have:=KS (f:=zH n) (k:=k0) (by omega);omega
 ·have:=Xu (f:=zH n) (f':=zH n') (k:=k0) (k':=k0') (by omega) (by omega) (b.symm.trans b');subst this;rw[e]at e';cases e';rfl
def inv(l:az aF)(m:aF):aC aF:=l.find? λn=>decide (wq l n=ah m)
theorem afA{l:az aF}(hl:l.length<=900){n k:aF}(h:wq l n=ah k):inv l k=ah n:=by
 unfold inv;cases hf:l.find? (λn=>decide (wq l n=ah k))with
 |none=>have:=W6.1 hf n (xZ h).1;simp[h]at this
 |some n'=>have:=vp hf;rw[ZD hl h (cq this)]
theorem Tf{l:az aF}{m n:aF}(h:inv l m=ah n):wq l n=ah m:=cq (vp (p:=λn=>decide (wq l n=ah m)) h)
theorem Fh{l ns:az aF}(h:zJ l ns=ai):∀n∈ns,n∈l:=λn hn=>zL (bu.1 h n hn)
theorem rV{σ:St}{l:az aF}:∀{r:az aF} {k:aF} {x:eT},(k,x)∈wk σ l r↔∃n∈r,∃m,wq l n=ah m/\k=c8 m/\x=P8 l (σ (c8 n)):=by
 intro r;induction r with
 |nil=>intro k x;simp[wk]
 |cons n r ih=>
  intro k x;unfold wk;cases hr:wq l n with
  |none=>
   simp only;rw[ih];constructor
   ·rintro ⟨n',h1,h2⟩;exact⟨n',c7 _ h1,h2⟩
   ·rintro ⟨n',h1,m,h2,h3⟩;rcases cB.1 h1 with rfl|h1
    ·rw[hr]at h2;cases h2
    ·exact⟨n',h1,m,h2,h3⟩
  |some m=>
   simp only[cB,ih];constructor
   ·rintro (h|⟨n',h1,h2⟩)
    ·cases h;exact⟨n, .inl rfl,m,hr,rfl,rfl⟩
    ·exact⟨n', .inr h1,h2⟩
   ·rintro ⟨n',h1|h1,m',h2,rfl,rfl⟩
    ·subst h1;rw[hr]at h2;cases h2;exact .inl rfl
    ·exact .inr ⟨n',h1,m',h2,rfl,rfl⟩
section
variable {P:c5} {E:fQ} {σ:St} {a:Act} {w:bL} {c:e9} {o:fC} {nm:aF} {e:s8}
def xX(c:e9)(l:az aF):e9:=
 ⟨λm=>match inv l m with|some n=>c.P n|none=>c.P m,λm=>match inv l m with|some n=>c.G n|none=>c.G m,c.K⟩
theorem xY{l:az aF}(hl:l.length<=900){n m:aF}(h:wq l n=ah m):(xX c l).P m=c.P n/\(xX c l).G m=c.G n:=by have:=afA hl h;unfold xX;simp only[this];exact⟨trivial,trivial⟩
theorem tZ{T:Tab}{l:az aF}(hl:l.length<=900){x:AV}{u:bk}(hx:eM T w c x u)(hk:∀n∈bS x,n∈l):eM T w (xX c l) (qa l x) u/\∀m∈bS (qa l x),∃n∈l,wq l n=ah m:=by
 have named:∀n,n∈bS x->∃k,wq l n=ah k/\(xX c l).P k=c.P n/\(xX c l).G k=c.G n:=λn hn=>by obtain⟨k,h⟩:=UZ (hk n hn);exact⟨k,h,xY hl h⟩
 have nn:∀m,m∈([]:az aF)->∃n∈l,wq l n=ah m:=λm h=>by cases h
 cases x with
 |i=>exact⟨hx,nn⟩
 |b=>exact⟨hx,nn⟩
 |s=>exact⟨hx,nn⟩
 |nl=>exact⟨hx,nn⟩
 |sh=>exact⟨hx,nn⟩
 |sp=>exact⟨hx,nn⟩
 |fn=>exact⟨hx,nn⟩
 |fp=>exact⟨hx,nn⟩
 |own n=>obtain⟨k,h,e1,e2⟩:=named n (by simp[bS]);simp only[qa,h];exact⟨by simp only[eM,e1]at hx⊢;exact hx,λm hm=>⟨n,hk n (by simp[bS]),by rw[show m=k by simpa [bS]using hm];exact h⟩⟩
 |vw n lo hi=>obtain⟨k,h,e1,e2⟩:=named n (by simp[bS]);simp only[qa,h];exact⟨by simp only[eM,e1]at hx⊢;exact hx,λm hm=>⟨n,hk n (by simp[bS]),by rw[show m=k by simpa [bS]using hm];exact h⟩⟩
 |bp n j=>obtain⟨k,h,e1,e2⟩:=named n (by simp[bS]);simp only[qa,h];exact⟨by simp only[eM,e1]at hx⊢;exact hx,λm hm=>⟨n,hk n (by simp[bS]),by rw[show m=k by simpa [bS]using hm];exact h⟩⟩
 |rp n i j=>obtain⟨k,h,e1,e2⟩:=named n (by simp[bS]);simp only[qa,h];exact⟨by simp only[eM,e1]at hx⊢;exact hx,λm hm=>⟨n,hk n (by simp[bS]),by rw[show m=k by simpa [bS]using hm];exact h⟩⟩
 |inn n i j=>obtain⟨k,h,e1,e2⟩:=named n (by simp[bS]);simp only[qa,h];exact⟨by simp only[eM,e1,e2,N5 hl h]at hx⊢;exact hx,λm hm=>⟨n,hk n (by simp[bS]),by rw[show m=k by simpa [bS]using hm];exact h⟩⟩
 |ip n i j i2 j2=>obtain⟨k,h,e1,e2⟩:=named n (by simp[bS]);simp only[qa,h];exact⟨by simp only[eM,e1,e2,N5 hl h]at hx⊢;exact hx,λm hm=>⟨n,hk n (by simp[bS]),by rw[show m=k by simpa [bS]using hm];exact h⟩⟩
theorem LN{T:Tab}{l:az aF}(hl:l.length<=900){g:aX}{xs:az AV}{u:bk}(hx:qq T w c g xs u)(hk:∀n∈xs.flatMap bS,n∈l):qq T w (xX c l) g (xs.map (qa l)) u/\∀m∈(xs.map (qa l)).flatMap bS,∃n∈l,wq l n=ah m:=by
 have kx:∀x∈xs,∀n∈bS x,n∈l:=λx hx n hn=>hk n (bQ.2 ⟨x,hx,hn⟩);unfold qq at hx;split at hx
 ·rename_i y;obtain⟨h1,h2⟩:=tZ hl hx (kx y (by simp));exact⟨h1,λm hm=>h2 m (by simpa using hm)⟩
 ·obtain⟨vals,rfl,hs,hv⟩:=hx;refine⟨⟨vals,rfl,by simp[hs],λj y hj=> ?_⟩,λm hm=> ?_⟩
  ·rw[bK]at hj;cases X3:xs[j]? with
   |none=>rw[X3]at hj;cases hj
   |some x=>rw[X3]at hj;cases hj;obtain⟨u,hu,ha⟩:=hv j x X3;exact⟨u,hu,(tZ hl ha (kx x (aQ X3))).1⟩
  ·obtain⟨y,hy,hm⟩:=bQ.1 hm;obtain⟨x,hxm,rfl⟩:=cW.1 hy;obtain⟨j,hj⟩:=bY hxm;obtain⟨u,hu,ha⟩:=hv j x hj;exact(tZ hl ha (kx x hxm)).2 m hm
 ·exact hx.elim
theorem JP{T:Tab}{l:az aF}(hl:l.length<=900){s:SV}{u:bk}(hx:jm T w c s u):jm T w (xX c l) (Fv l s) u/\∀m∈cO (Fv l s),∃n∈l,wq l n=ah m:=by
 unfold Fv;cases hk:zJ l (cO s)with
 |false=>exact⟨trivial,λm hm=>by simp[cO]at hm⟩
 |true=>
  have hk:=Fh hk;simp only[au];cases s with
  |un=>exact⟨trivial,λm hm=>by simp[cO]at hm⟩
  |v g xs=>exact LN hl hx hk
  |kl r=>
   obtain⟨vs,rfl,hs,hv⟩:=hx;have kr:∀x∈r,∀n∈x.2.flatMap bS,n∈l:=λx hx n hn=>hk n (bQ.2 ⟨x,hx,hn⟩);refine⟨⟨vs,rfl,by simp[hs],λj g xs hj=> ?_⟩,λm hm=> ?_⟩
   ·rw[bK]at hj;cases X3:r[j]? with
    |none=>rw[X3]at hj;cases hj
    |some x=>rw[X3]at hj;cases hj;obtain⟨u,hu,ha⟩:=hv j x.1 x.2 X3;exact⟨u,hu,(LN hl ha (kr x (aQ X3))).1⟩
   ·obtain⟨y,hy,hm⟩:=bQ.1 hm;obtain⟨x,hxm,rfl⟩:=cW.1 hy;obtain⟨j,hj⟩:=bY hxm;obtain⟨u,hu,ha⟩:=hv j x.1 x.2 hj;exact(LN hl ha (kr x hxm)).2 m hm
theorem UY{l:az aF}{x:eT}:P8 l x≠ .j9:=by
 unfold P8;split
 ·intro h;revert h;cases zJ l _<;>simp
 ·simp
 ·simp
theorem O4{N:aF}{σ0:St}{c0:e9}{w0:bL}{keep:az aF}(h:At P E N σ0 c0 w0 σ a w c):∃c',At P E N σ0 c0 w0 (fM (m8 (KK keep σ) λl=>KJ keep σ l)) a w c':=by
 rw[o0];generalize KK keep σ=l;unfold KJ;cases hle:fK l.length 900 with
 |false=>
  simp only[ax];have hn:∀k,fM [] k= .j9:=λk=>rfl;have no:∀{k:aF} {x:Obj},fM [] k≠ .o x:=λh=>by rw[hn]at h;cases h
  refine⟨c,⟨λnm o ho=>cJ ho no,λnm o xU o' b ho=>cJ ho no,λnm o b ho=>cJ ho no,h.ok.lt,λnm xs ho=>cJ ho no⟩,⟨λn=>trivial,λn m hm=>(by simp[slot,fM,cO]at hm),h.sl.df⟩,h.sz,h.gr.trans ⟨rfl,rfl,rfl,cF _,λ_ h=>h,λ_ _ _=>rfl,λb hb=> ?_,λ_ h=> .inl h⟩,h.ag⟩
  obtain⟨nm,o,ho,_⟩:=hb;exact cJ ho no
 |true=>
  have hl:=cM hle;simp only[au];generalize hT:keep.map (λn=>(qx n,eT.v (Fv l (slot σ n))))++wk σ l l=T;have auX:∀d∈T,d.2≠ .j9:=by
   rintro ⟨k,x⟩ hd;rw[<-hT]at hd;rcases ba.1 hd with hd|hd
   ·obtain⟨n,_,hd⟩:=cW.1 hd;cases hd;simp
   ·obtain⟨n,_,m,_,_,rfl⟩:=rV.1 hd;exact UY
  have auY:∀{m:aF} {ob:Obj},fM T (c8 m)= .o ob->∃n∈l,wq l n=ah m/\P8 l (σ (c8 n))= .o ob:=by
   intro m ob ho;have:=n6 ho (by simp);rw[<-hT]at this;rcases ba.1 this with hd|hd
   ·obtain⟨n,_,hd⟩:=cW.1 hd;injection hd with h1 h2;exact cJ h1 (se n m)
   ·obtain⟨n,hn,m',hr,h1,h2⟩:=rV.1 hd;have:=j4 h1;subst this;exact⟨n,hn,hr,h2.symm⟩
  have TC:∀{m n:aF},n∈l->wq l n=ah m->fM T (c8 m)≠ .j9:=λhn hr=>si (l:=T) (by rw[<-hT];exact bN _ (rV.2 ⟨_,hn,_,hr,rfl,rfl⟩)) auX;have acN:∀n,slot (fM T) n=Fv l (slot σ n)\/slot (fM T) n= .un:=by
   intro n;unfold slot;cases hs:fM T (qx n)with
   |v x=>
    have:=n6 hs (by simp);rw[<-hT]at this;rcases ba.1 this with hd|hd
    ·obtain⟨n',_,hd⟩:=cW.1 hd;injection hd with h1 h2;have:=HI h1;subst this;cases h2;exact .inl rfl
    ·obtain⟨n',hn,m',hr,h1,h2⟩:=rV.1 hd;exact cJ h1 (se _ _)
   |o=>exact .inr rfl
   |j9=>exact .inr rfl
  have was:∀{m:aF} {ob:Obj},fM T (c8 m)= .o ob->ob= .dead\/∃n∈l,wq l n=ah m/\((σ (c8 n)= .o ob/\∀xs,ob≠ .box xs)\/∃xs,σ (c8 n)= .o (.box xs)/\ob= .box (xs.map (qa l))/\∀k∈xs.flatMap bS,k∈l):=by
   intro m ob ho;obtain⟨n,hn,hr,he⟩:=auY ho;unfold P8 at he;split at he
   ·rename_i xs hx;cases hk:zJ l (xs.flatMap bS)with
    |true=>rw[hk]at he;cases he;exact .inr ⟨n,hn,hr, .inr ⟨xs,hx,rfl,Fh hk⟩⟩
    |false=>rw[hk]at he;cases he;exact .inl rfl
   ·rename_i x iB hx;cases he;exact .inr ⟨n,hn,hr, .inl ⟨hx,λxs e=>iB xs e⟩⟩
   ·cases he;exact .inl rfl
  have Nu:∀{m:aF} {ob:Obj} {b:aF},fM T (c8 m)= .o ob->fL (xX c l) m ob b->∃n o,wq l n=ah m/\σ (c8 n)= .o o/\fL c n o b:=by
   intro m ob b ho hf;rcases was ho with rfl|⟨n,hn,hr,⟨h1,_⟩|⟨xs,h1,rfl,_⟩⟩
   ·exact hf.elim
   ·obtain⟨e1,e2⟩:=xY (c:=c) hl hr;refine⟨n,ob,hr,h1, ?_⟩
    cases ob<;>simp only[fL,e1,e2]at hf⊢ <;>exact hf
   ·obtain⟨e1,e2⟩:=xY (c:=c) hl hr;refine⟨n,_,hr,h1, ?_⟩
    simp only[fL,e1]at hf⊢;exact hf
  refine⟨xX c l,⟨?_, ?_, ?_,h.ok.lt, ?_⟩,⟨?_, ?_,h.sl.df⟩,h.sz,h.gr.trans ⟨rfl,rfl,rfl,cF _,λ_ h=>h,λ_ _ _=>rfl, ?_,λ_ h=> .inl h⟩,h.ag.trans ?_⟩
  ·intro m ob ho;rcases was ho with rfl|⟨n,hn,hr,⟨h1,h2⟩|⟨xs,h1,rfl,hk⟩⟩
   ·trivial
   ·obtain⟨e1,e2⟩:=xY (c:=c) hl hr;have m9:=h.ok.obj n ob h1;cases ob with
    |box xs=>exact cJ rfl (h2 xs)
    |dead=>trivial
    |od cs=>show FB E w c.K ((xX c l).P m).blk cs;rw[e1];exact m9
    |fT e' xs=>show c_ E w c.K (lW ((xX c l).P m)) _/\((xX c l).P m).n=_/\_;rw[e1];exact m9
    |row e' ex xs=>obtain⟨q1,q2,q3⟩:=m9;exact⟨by rw[e1];exact q1,by rw[e1,e2];exact q2,by rw[e1,e2];exact q3⟩
   ·obtain⟨e1,e2⟩:=xY (c:=c) hl hr;obtain⟨vals,hb,hs,hv⟩:=h.ok.obj n _ h1;refine⟨vals,by rw[e1];exact hb,by simp[hs],λj y hj=> ?_⟩
    rw[bK]at hj;cases hx:xs[j]? with
    |none=>rw[hx]at hj;cases hj
    |some x=>rw[hx]at hj;cases hj;obtain⟨u,hu,ha⟩:=hv j x hx;exact⟨u,hu,(tZ hl ha (λk vx=>hk k (bQ.2 ⟨x,aQ hx,vx⟩))).1⟩
  ·intro m ob m' ob' b ho vA hf vu;obtain⟨n,o1,r1,s1,f1⟩:=Nu ho hf;obtain⟨n',o2,r2,s2,f2⟩:=Nu vA vu;have:=h.ok.sep n o1 n' o2 b s1 s2 f1 f2;subst this;rw[r1]at r2;cases r2;rfl
  ·intro m ob b ho hf;obtain⟨n,o1,r1,s1,f1⟩:=Nu ho hf;exact h.ok.kk n o1 b s1 f1
  ·intro m xs ho y hy k hk;rcases was ho with h'|⟨n,hn,hr,⟨h1,h2⟩|⟨zs,h1,he,Ji⟩⟩
   ·cases h'
   ·exact cJ rfl (h2 xs)
   ·cases he;obtain⟨x,hxm,rfl⟩:=cW.1 hy;obtain⟨vals,hb,hs,hv⟩:=h.ok.obj n _ h1;obtain⟨j,hj⟩:=bY hxm;obtain⟨u,hu,ha⟩:=hv j x hj;obtain⟨n',kM,D7⟩:=(tZ hl ha (λk vx=>Ji k (bQ.2 ⟨x,hxm,vx⟩))).2 k hk;exact TC kM D7
  ·intro n;rcases acN n with hs|hs
   ·rw[hs];exact(JP hl (h.sl.ok n)).1
   ·rw[hs];trivial
  ·intro n m hm;rcases acN n with hs|hs
   ·rw[hs]at hm;obtain⟨n',kM,D7⟩:=(JP hl (h.sl.ok n)).2 m hm;exact TC kM D7
   ·rw[hs]at hm;simp[cO]at hm
  ·rintro b ⟨m,ob,ho,hf⟩;obtain⟨n,o1,r1,s1,f1⟩:=Nu ho hf;exact .inl ⟨n,o1,s1,f1⟩
  ·intro m hm;unfold xX;cases hi:inv l m with
   |none=>simp only[hi];exact⟨trivial,trivial⟩
   |some n=>
    have:=(xZ (Tf hi)).2;have:n=m:=by
     rcases this with ⟨_,h⟩|⟨_,k0,h,hk0,_⟩
     ·exact h.symm
     ·have:=KS (f:=zH n) (k:=k0) (by omega);omega
    subst this;simp only[hi];exact⟨trivial,trivial⟩
theorem aj3{N:aF}{σ0:St}{c0:e9}{w0:bL}{nm F j e:aF}{xs:az AV}{ti:TI}(hx:E.ty e=ah ti)(jD:F<900000000)(m9:σ (c8 nm)= .o (.box xs))(hF:σ (c8 F)= .j9)(hc:xs[j]? =ah .nl)(h:At P E N σ0 c0 w0 σ a w c):
  ∃c',At P E N σ0 c0 w0 (pS (pS σ (c8 nm) (.o (.box (xs.set j (.own F))))) (c8 F) (.o (.row e ai []))) a w c':=by
 let c':e9:=⟨λn=>if n=F then⟨ai,0,0,0,0,ti.ks.length⟩else c.P n,λn=>if n=F then(λ_ _=>⟨ai,0,0,0,0,0⟩)else c.G n,c.K⟩
 have hP:c'.P F=⟨ai,0,0,0,0,ti.ks.length⟩:=bz rfl;have hA:jI σ c c':=λm hm=>by
  have:m≠F:=by rintro rfl;rcases hm with h|h;exact h hF;omega
  exact⟨bH this,bH this⟩
 have hnF:nm≠F:=by rintro rfl;rw[m9]at hF;cases hF
 have hPn:c'.P nm=c.P nm:=bH hnF;let σ':=pS (pS σ (c8 nm) (.o (.box (xs.set j (.own F))))) (c8 F) (.o (.row e ai []));have key:∀m,σ' (c8 m)=if m=F then .o (.row e ai [])else if m=nm then .o (.box (xs.set j (.own F)))else σ (c8 m):=λm=>by show pS _ _ _ _=_;rw[qd,qd]
 have iB:∀m,σ (c8 m)≠ .j9->σ' (c8 m)≠ .j9:=λm hm=>by
  rw[key];by_cases h1:m=F
  ·rw[bz h1];simp
  ·rw[bH h1];by_cases h2:m=nm
   ·rw[bz h2];simp
   ·rw[bH h2];exact hm
 have noI:∀i j,¬gj [] i j:=λi j ⟨y,x,hy,_⟩=>by simp at hy
 have foF:∀b,¬fL c' F (.row e ai []) b:=by
  rintro b (⟨h1,_⟩|⟨_,i,j,h1,_⟩)
  ·rw[hP]at h1;cases h1
  ·exact noI i j h1
 obtain⟨vals,hb,gh,hv⟩:=h.ok.obj nm _ m9
 have hh:=h.ok.change (σ':=σ') (w':=w) (c':=c') (λm=>m=F\/m=nm)
  (λm hm=>by rw[key,bH (λe=>hm (.inl e)),bH (λe=>hm (.inr e))]) iB hA (λ_ _ _=>rfl) (cF _) (λ_ h=>h) (λ_ h=> .inl h) h.ok.lt
  (λm o hm ho=>by
   rw[key]at ho;by_cases Jj:m=F
   ·rw[bz Jj]at ho;cases ho;subst Jj;refine⟨⟨ti,hx,by rw[hP],λy hy=>by cases hy⟩,⟨by rw[hP];rfl,λ_=>⟨rfl,by rw[hP]⟩,λhn=>by rw[hP]at hn;cases hn⟩,λ_=>⟨λi j hi=>cJ hi (noI i j),λi j _ _ hi=>cJ hi (noI i j)⟩⟩
   ·have hmn:=hm.resolve_left Jj;subst hmn;rw[bH Jj,bz rfl]at ho;cases ho;refine⟨vals,by rw[hPn];exact hb,by rw[cD];exact gh,λk y hk=> ?_⟩
    by_cases hkj:j=k
    ·subst hkj;have hl:j<xs.length:=(aT.1 hc).1;rw[List.getElem?_set_self hl]at hk;cases hk;obtain⟨u,hu,Wu⟩:=hv j _ hc;exact⟨u,hu,by show u=lW (c'.P F);rw[hP];exact Wu⟩
    ·rw[List.getElem?_set_ne hkj]at hk;obtain⟨u,hu,Wu⟩:=hv k y hk;exact⟨u,hu,Wu.frame (λ_ _=>rfl) (λ_ h=>h) (λn hn=>hA n (.inl (h.ok.kn m xs m9 y (aQ hk) n hn)))⟩)
  (λm o b hm ho hf=>by
   rw[key]at ho;by_cases Jj:m=F
   ·rw[bz Jj]at ho;cases ho;subst Jj;exact cJ hf (foF b)
   ·have hmn:=hm.resolve_left Jj;subst hmn;rw[bH Jj,bz rfl]at ho;cases ho;have hf:b=(c'.P m).blk:=hf;rw[hPn]at hf;exact⟨.inl ⟨m,_, .inr rfl,m9,hf⟩,λhk=>h.ok.kk m _ b m9 hf hk⟩)
  (λm o m' o' b hm xN ho vA hf vu=>by
   rw[key]at ho vA;by_cases Jj:m=F
   ·rw[bz Jj]at ho;cases ho;subst Jj;exact cJ hf (foF b)
   ·by_cases afi:m'=F
    ·rw[bz afi]at vA;cases vA;subst afi;exact cJ vu (foF b)
    ·rw[hm.resolve_left Jj,xN.resolve_left afi])
  (λm ys hm ho y hy n hn=>by
   rw[key]at ho;by_cases Jj:m=F
   ·rw[bz Jj]at ho;cases ho
   ·have hmn:=hm.resolve_left Jj;subst hmn;rw[bH Jj,bz rfl]at ho;cases ho;rcases jL hy with hy|hy
    ·exact iB n (h.ok.kn m xs m9 y hy n hn)
    ·subst hy;rw[show n=F from by simpa [bS]using hn,key,bz rfl];simp) rfl rfl rfl
 have sl:=h.sl.change h.ok hh.2 hA iB ({(default:fC)with dst:=none}) undef (λn _=>by show slot (pS _ _ _) n=_;rw[jt,jt]) (λd hd=>by cases hd);exact⟨c',hh.1,sl,h.sz,h.gr.trans hh.2,h.ag.trans hA.w.aga⟩
theorem T1{α:Type}{N:aF}{σ0:St}{c0:e9}{w0:bL}{x:aF}(hx:∃ti,E.ty (kTy x)=ah ti)(h:At P E N σ0 c0 w0 σ a w c):∃σ' c',At P E N σ0 c0 w0 σ' a w c'/\∀f:St->α,Au x σ f=f σ':=by
 obtain⟨ti,hx⟩:=hx;have jD:kNm x<900000000:=by unfold kNm;have:=Dx (x/1000) (show 1000000>0 by omega);omega
 have no:(∀f:St->α,Au x σ f=f σ)->∃σ' c',At P E N σ0 c0 w0 σ' a w c'/\∀f:St->α,Au x σ f=f σ':=λe=>⟨σ,c,h,e⟩
 cases hs:slot σ (ab2 x)with
 |v g l=>
  by_cases hm:∃nm xs,g=ak/\l=[.bp nm 0]/\σ (c8 nm)= .o (.box xs)/\σ (c8 (kNm x))= .j9/\xs[Ty x]? =ah .nl
  ·obtain⟨nm,xs,rfl,rfl,m9,hF,hc⟩:=hm;obtain⟨c',h'⟩:=aj3 hx jD m9 hF hc h;exact⟨_,c',h',λf=>by unfold Au;rw[hs];simp only[m9,hF,hc,nZ]⟩
  ·refine no λf=> ?_;unfold Au;rw[hs];split
   ·rename_i nm he;cases he;split
    ·rename_i xs h1 h2;split
     ·rename_i h3;exact cJ ⟨nm,xs,rfl,rfl,h1,h2,h3⟩ hm
     ·rfl
    ·rfl
   ·rfl
 |kl l=>exact no λf=>by unfold Au;rw[hs]
 |un=>exact no λf=>by unfold Au;rw[hs]
theorem CM{α:Type}{N:aF}{σ0:St}{c0:e9}{w0:bL}:∀(keep:az aF) (σ:St) (c:e9) (hk:∀x∈keep,Yc x=ai->∃ti,E.ty (kTy x)=ah ti) (h:At P E N σ0 c0 w0 σ a w c),∃σ' c',At P E N σ0 c0 w0 σ' a w c'/\∀f:St->α,NR keep σ f=f σ'
 |[],σ,c,_,h=>⟨σ,c,h,λ_=>rfl⟩
 |x::r,σ,c,hk,h=>by
  cases hx:Yc x with
  |false=>obtain⟨σ',c',h',e⟩:=CM r σ c (λy hy=>hk y (c7 _ hy)) h;exact⟨σ',c',h',λf=>by show(bif Yc x then _ else _)=_;rw[hx];exact e f⟩
  |true=>obtain⟨σ1,c1,h1,e1⟩:=T1 (α:=α) (hk x (dq ..) hx) h;obtain⟨σ',c',h',e⟩:=CM r σ1 c1 (λy hy=>hk y (c7 _ hy)) h1;exact⟨σ',c',h',λf=>by show(bif Yc x then _ else _)=_;rw[hx,au,e1,e]⟩
theorem ID{N:aF}{σ0:St}{c0:e9}{w0:bL}{keep:az aF}(hk:∀x∈keep,Yc x=ai->∃ti,E.ty (kTy x)=ah ti)(h:At P E N σ0 c0 w0 σ a w c):∃c',At P E N σ0 c0 w0 (canon keep σ) a w c':=by obtain⟨σ',c1,h1,e⟩:=CM (α:=az (aF×eT)) keep σ c hk h;unfold canon KL;rw[e,o0];exact O4 h1
theorem TB{n:aF}:∀x∈E.Aq n,Yc x=ai->∃ti,E.ty (kTy x)=ah ti:=by
 intro x hx hk;have:=(c9.1 hx).2;rw[hk,au]at this;cases h:E.ty (kTy x)with
 |some ti=>exact⟨ti,rfl⟩
 |none=>rw[h]at this;cases this
end
end Go.FG

namespace Go.FG
def aeV:Ex->Exit| .normal=> .normal| .exit id=> .exit id| .ret=> .ret
def tD(N:aF):Code->aX
 | .region _ os _=>os.toList.all λo=>match o.dst with|some d=>qE d N|none=>ai
 | .seq a b=>tD N a&&tD N b
 | .cond _ a b=>tD N a&&tD N b
 | .block _ c=>tD N c
 | .loop c=>tD N c
 |_=>ai
theorem least{p:aF->Prop}(h:∃n,p n):∃n,p n/\∀k,p k->n<=k:=by
 obtain⟨n,hn⟩:=h;induction n using Nat.strongRecOn with
 |_ n ih=>
  by_cases hm:∃m,m<n/\p m
  ·obtain⟨m,h1,h2⟩:=hm;exact ih m h1 h2
  ·exact⟨n,hn,λk hk=>by
    rcases q_ k n with h|h
    ·exact cJ ⟨k,h,hk⟩ hm
    ·exact h⟩
section
variable {P:c5} {E:fQ}
def b_(E:fQ){R:Type}(it:It R)(c:Code):Prop:=∀L K r,it (gH c) (tF E it c) (canon (E.Aq (gH c))) L K=ah r->∃n,iter (tF E it c) (canon (E.Aq (gH c))) n (fM L) K=ah r
theorem aeU(hE:eH P E)(hF:∀g,lS P E g (E.call g))(hm:P.follows .mixedOrders=ai){R:Type}{N:aF}{σ0:St}{c0:e9}{w0:bL}{it:It R}{r:R}:∀(code:Code),(∀c∈jZ code,b_ E it c)->∀(σ:St) (K:Ex->St->aC R) (Q:Exit->Act->bL->Prop),tF E it code σ K=ah r->tD N code=ai->
  (∀e σ' a w c,K e σ'=ah r->At P E N σ0 c0 w0 σ' a w c->Q (aeV e) a w)->∀a w c,At P E N σ0 c0 w0 σ a w c->code.wp P Q a w:=by
 intro code;induction code with
 |skip=>intro _ σ K Q h _ hQ a w c gf;exact wp_skip (hQ .normal σ a w c h gf)
 |region id os draw=>intro CC σ K Q h hb hQ a w c gf;refine P7 hE hF hm h (λo ho d hd=> ?_) (λσ' a w c hk gf=>hQ .normal σ' a w c hk gf) gf;have:=bu.1 hb o ho;rw[hd]at this;have this:qE d N=true:=this;simpa [AM]using this
 |seq x y ihx ihy=>
  intro CC σ K Q h hb hQ a w c gf;simp only[tD,aL]at hb;refine wp_seq (ihx (λc hc=>CC c (bM _ hc)) σ _ _ h hb.1 (λe σ' a w c hk gf=> ?_) a w c gf);cases e with
  |normal=>exact ihy (λc hc=>CC c (bN _ hc)) σ' K Q hk hb.2 hQ a w c gf
  |exit id=>exact hQ (.exit id) σ' a w c hk gf
  |ret=>exact hQ .ret σ' a w c hk gf
 |cond cnd x y ihx ihy=>
  intro CC σ K Q h hb hQ a w c gf;simp only[tD,aL]at hb;cases cnd with
  |tmp t=>
   unfold tF at h;dsimp only at h;split at h
   ·rename_i b hs;have h1:=gf.sl.ok t;have:slot σ t= .v ak [.b b]:=by unfold slot;rw[hs]
    rw[this]at h1;have h1:a.eval (.tmp t)= .bool b:=h1;cases b with
    |true=>have h:tF E it x (pS σ (qx t) (.v (.v ak [.b ai]))) K=ah r:=h;rw[Dm hs]at h;exact wp_cond_true h1 (ihx (λc hc=>CC c (bM _ hc)) σ K Q h hb.1 hQ a w c gf)
    |false=>have h:tF E it y (pS σ (qx t) (.v (.v ak [.b ak]))) K=ah r:=h;rw[Dm hs]at h;exact wp_cond_false h1 (ihy (λc hc=>CC c (bN _ hc)) σ K Q h hb.2 hQ a w c gf)
   ·cases h
  |_=>simp[tF]at h
 |block id x ih=>
  intro CC σ K Q h hb hQ a w c gf;refine wp_block (ih CC σ _ _ h hb (λe σ' a w c hk gf=> ?_) a w c gf);cases e with
  |normal=>exact hQ .normal σ' a w c hk gf
  |ret=>exact hQ .ret σ' a w c hk gf
  |exit j=>
   have hk:(bif bD j id then K .normal σ' else K (.exit j) σ')=ah r:=hk;show Ib id Q (.exit j) a w;cases hj:bD j id with
   |true=>rw[hj]at hk;have Ld:=aU hj;have h1:Q .normal a w:=hQ .normal σ' a w c hk gf;simp only[Ib,Ld,if_true];exact h1
   |false=>
    rw[hj]at hk;have iB:j≠id:=λe=>by subst e;simp at hj
    have h1:Q (.exit j) a w:=hQ (.exit j) σ' a w c hk gf;simp only[Ib,iB,if_false];exact h1
 |loop x ih=>
  intro CC σ K Q h hb hQ a w c gf;obtain⟨n,h⟩:∃n,iter (tF E it x) (canon (E.Aq (gH x))) n (canon (E.Aq (gH x)) σ) K=ah r:=CC x (dq ..) _ K r h;let f:=tF (R:=R) E it x;let cn:=canon (E.Aq (gH x));let p:Act->bL->aF->Prop:=λa w m=>∃σ c,iter f cn m σ K=ah r/\At P E N σ0 c0 w0 σ a w c;let mu:Act->bL->aF:=λa w=>open Classical in if h:∃m,p a w m then(least h).choose else 0
  have hmu:∀a w,(∃m,p a w m)->p a w (mu a w)/\∀k,p a w k->mu a w<=k:=by
   intro a w h;have:mu a w=(least h).choose:=by simp only[mu];rw[dif_pos h]
   rw[this];exact(least h).choose_spec
  obtain⟨c1,arD⟩:=ID (keep:=E.Aq (gH x)) TB gf;refine wp_loop (λa w=>∃m,p a w m) mu ⟨n,_,c1,h,arD⟩ (λa w hI=> ?_);obtain⟨⟨σ1,c2,h1,oV⟩,hle⟩:=hmu a w hI;cases hm0:mu a w with
  |zero=>rw[hm0]at h1;cases h1
  |succ m=>
   rw[hm0]at h1;refine ih (λc hc=>CC c (c7 _ hc)) σ1 _ _ h1 hb (λe σ' a' w' c' hk A6=> ?_) a w c2 oV;obtain⟨c3,ae6⟩:=ID (keep:=E.Aq (gH x)) TB A6;cases e with
   |normal=>
    have hp:p a' w' m:=⟨_,c3,hk,ae6⟩
    refine⟨⟨m,hp⟩, ?_⟩
    have:=(hmu a' w' ⟨m,hp⟩).2 m hp;omega
   |exit id=>exact hQ (.exit id) _ a' w' c3 hk ae6
   |ret=>exact hQ .ret _ a' w' c3 hk ae6
 |exit id=>intro _ σ K Q h _ hQ a w c gf;exact wp_exit (hQ (.exit id) σ a w c h gf)
 |ret=>intro _ σ K Q h _ hQ a w c gf;exact wp_ret (hQ .ret σ a w c h gf)
 |_=>intro _ σ K Q h;simp[tF]at h
end
end Go.FG

namespace Go.FG
structure jJ where
 aa:AA
 tk:az aF
 fz:az aF
 p:Pl
 g:aF->aF->Pl
 u:bk
section
variable {P:c5} {E:fQ} {σ:St} {a:Act} {w:bL} {c:e9}
def jY(T:Tab)(σ:St)(w:bL)(c:e9)(r:jJ):Prop:=
 (∃e ex ys te,r.aa= .ow e ex ys/\r.fz=[]/\T.ty e=ah te/\r.u=lW r.p/\r.p.sz=te.ks.length/\(∀y∈ys,y.map CV.kd=te.ks)/\jl w r.p ys (λi j u x=>if ex=ai then XC T w r.g i j u x else c_ T w c.K u x)/\(ex=ai->FY r.p r.g ys)/\
  (r.p.nil=ak->∃n ob,n∈r.tk/\σ (c8 n)= .o ob/\fL c n ob r.p.blk)/\(ex=ai->∀i j,gj ys i j->(r.g i j).nil=ak->∃n ob,n∈r.tk/\σ (c8 n)= .o ob/\fL c n ob (r.g i j).blk))\/
 (r.tk=[]/\(∀n∈r.fz,∃el ex xs,σ (c8 n)= .o (.row el ex xs))/\(∀e ex xs,r.aa≠ .ow e ex xs)/\(∀xs,r.aa≠ .kp xs)/\∀c3:e9,(∀b,K1r σ c r.fz b->c3.K b)->∀nm,eM T w c3 (lD nm r.aa) r.u)
theorem I6(cf:Ok E σ w c){om:Om}{k:Ck}{x:AV}{u:bk}{aa:AA}{tk fz:az aF}(h:Al E om σ k x=ah (aa,tk,fz))(hx:eM E w c x u):∃p g,jY E σ w c ⟨aa,tk,fz,p,g,u⟩:=by
 let nl:Pl:=⟨ai,0,0,0,0,0⟩
 have OW:∀e ex ys tk,(w9 e x).val σ=ah (ex,ys,tk)->(∃te,E.ty e=ah te)->∃p g,jY E σ w c ⟨.ow e ex ys,tk,[],p,g,u⟩:=by rintro e ex ys tk hb ⟨te,ht⟩;obtain⟨p,g,hB⟩:=Cb cf ht hx hb;exact⟨p,g, .inl ⟨e,ex,ys,te,rfl,rfl,ht,hB.v,hB.sz,hB.sh,hB.at_,hB.inn,hB.own,hB.owni⟩⟩
 have SH:∀aa fz,(∀n∈fz,∃el ex xs,σ (c8 n)= .o (.row el ex xs))->(∀e ex xs,aa≠ .ow e ex xs)->(∀xs,aa≠ .kp xs)->(∀c3:e9,(∀b,K1r σ c fz b->c3.K b)->∀nm,eM E w c3 (lD nm aa) u)->∃p g,jY E σ w c ⟨aa,[],fz,p,g,u⟩:=
  λaa fz h1 h2 h3 h4=>⟨nl,λ_ _=>nl, .inr ⟨rfl,h1,h2,h3,h4⟩⟩
 have T3:∀n∈([]:az aF),∃el ex xs,σ (c8 n)= .o (.row el ex xs):=λn hn=>by cases hn
 have HT:∀e,Am E e=ai->∃te,E.ty e=ah te:=λe he=>by
  unfold Am at he;cases ht:E.ty e with
  |none=>rw[ht]at he;cases he
  |some te=>exact⟨te,rfl⟩
 have frz:∀{n el:aF} {ex:aX} {xs:aR},σ (c8 n)= .o (.row el ex xs)->∀c3:e9,(∀b,K1r σ c [n] b->c3.K b)->(∀b,c.K b->c3.K b)/\∀b,fL c n (.row el ex xs) b->c3.K b:=λhg c3 h=>⟨λb hb=>h b (.inl hb),λb hb=>h b (.inr ⟨_,aZ.2 rfl,_,hg,hb⟩)⟩
 have fst:∀{n el:aF} {ex:aX} {xs:aR},σ (c8 n)= .o (.row el ex xs)->∀m∈[n],∃el ex xs,σ (c8 m)= .o (.row el ex xs):=λhg m hm=>by rw[aZ]at hm;subst hm;exact⟨_,_,_,hg⟩
 cases x with
 |i k n=>cases h;exact SH _ _ T3 (λ_ _ _ h=>by cases h) (λ_ h=>by cases h) (λc3 _ _=>hx)
 |b y=>cases h;exact SH _ _ T3 (λ_ _ _ h=>by cases h) (λ_ h=>by cases h) (λc3 _ _=>hx)
 |s y=>cases h;exact SH _ _ T3 (λ_ _ _ h=>by cases h) (λ_ h=>by cases h) (λc3 _ _=>hx)
 |sh e xs=>
  cases om with
  |own=>cases h
  |nat=>cases h;exact SH _ _ T3 (λ_ _ _ h=>by cases h) (λ_ h=>by cases h) (λc3 h3 _=>c_.frame hx (λ_ _=>rfl) (λb hb=>h3 b (.inl hb)))
  |sh=>cases h;exact SH _ _ T3 (λ_ _ _ h=>by cases h) (λ_ h=>by cases h) (λc3 h3 _=>c_.frame hx (λ_ _=>rfl) (λb hb=>h3 b (.inl hb)))
 |nl=>
  have hx:u= .slice aj 0 0:=hx;cases om with
  |own e=>
   have h:(bif Am E e then ah (AA.ow e ai [],([]:az aF),([]:az aF))else aj)=ah (aa,tk,fz):=h;cases ht:Am E e with
   |false=>rw[ht]at h;cases h
   |true=>rw[ht]at h;cases h;exact OW e ai [] [] rfl (HT e ht)
  |sh e=>cases h;exact SH _ _ T3 (λ_ _ _ h=>by cases h) (λ_ h=>by cases h) (λc3 _ _=>by rw[hx];exact c_.nl _ _ _)
  |nat=>
   cases k with
   |l e=>
    have h:(bif Am E e then ah (AA.ow e ai [],([]:az aF),([]:az aF))else aj)=ah (aa,tk,fz):=h;cases ht:Am E e with
    |false=>rw[ht]at h;cases h
    |true=>rw[ht]at h;cases h;exact OW e ai [] [] rfl (HT e ht)
   |_=>cases h;exact SH _ _ T3 (λ_ _ _ h=>by cases h) (λ_ h=>by cases h) (λc3 _ _=>hx)
 |own n=>
  unfold Al at h;dsimp only at h;cases ho:σ (c8 n)with
  |v=>rw[ho]at h;cases h
  |j9=>rw[ho]at h;cases h
  |o ob=>
   rw[ho]at h;have hu:u=lW (c.P n):=hx;cases ob with
   |row e ex xs=>
    obtain⟨_,_,ti,ht,_⟩:=ly cf ho;have hb:(w9 e (.own n)).val σ=ah (ex,xs,[n]):=by simp[w9,jP,ho]
    cases om with
    |sh e'=>cases h;refine SH _ _ (fst ho) (λ_ _ _ h=>by cases h) (λ_ h=>by cases h) (λc3 h3 _=> ?_);obtain⟨r1,r2⟩:=frz ho c3 h3;rw[hu];exact sd cf ho r1 r2
    |nat=>cases h;exact OW e ex xs [n] hb ⟨ti,ht⟩
    |own=>cases h;exact OW e ex xs [n] hb ⟨ti,ht⟩
   |fT e xs=>
    have hh:c_ E w c.K u (.l e xs):=by rw[hu];exact(cf.obj n _ ho).1
    cases om with
    |own=>cases h
    |nat=>cases h;exact SH _ _ T3 (λ_ _ _ h=>by cases h) (λ_ h=>by cases h) (λc3 h3 _=>c_.frame hh (λ_ _=>rfl) (λb hb=>h3 b (.inl hb)))
    |sh=>cases h;exact SH _ _ T3 (λ_ _ _ h=>by cases h) (λ_ h=>by cases h) (λc3 h3 _=>c_.frame hh (λ_ _=>rfl) (λb hb=>h3 b (.inl hb)))
   |_=>cases h
 |vw n lo hi=>
  unfold Al at h;dsimp only at h;cases ho:σ (c8 n)with
  |v=>rw[ho]at h;cases h
  |j9=>rw[ho]at h;cases h
  |o ob=>
   rw[ho]at h;cases ob with
   |row e ex xs=>
    obtain⟨_,_,ti,ht,_⟩:=ly cf ho;have hb:(w9 e (.vw n lo hi)).val σ=ah (ex,eA xs lo hi,[n]):=by simp[w9,jP,ho]
    cases om with
    |sh e'=>cases h;refine SH _ _ (fst ho) (λ_ _ _ h=>by cases h) (λ_ h=>by cases h) (λc3 h3 _=> ?_);obtain⟨r1,r2⟩:=frz ho c3 h3;exact FE cf ho r1 r2 hx
    |nat=>cases h;exact OW e ex _ [n] hb ⟨ti,ht⟩
    |own=>cases h;exact OW e ex _ [n] hb ⟨ti,ht⟩
   |fT e xs=>
    have hh:c_ E w c.K u (.l e (eA xs lo hi)):=pC cf ho hx;cases om with
    |own=>cases h
    |nat=>cases h;exact SH _ _ T3 (λ_ _ _ h=>by cases h) (λ_ h=>by cases h) (λc3 h3 _=>c_.frame hh (λ_ _=>rfl) (λb hb=>h3 b (.inl hb)))
    |sh=>cases h;exact SH _ _ T3 (λ_ _ _ h=>by cases h) (λ_ h=>by cases h) (λc3 h3 _=>c_.frame hh (λ_ _=>rfl) (λb hb=>h3 b (.inl hb)))
   |_=>cases h
 |_=>simp[Al]at h
theorem E0(cf:Ok E σ w c){q:aF}:∀{xs:az AV} {j0:aF} {ks:az Ck} {l:az AA} {tk fz:az aF} {vals:du bk},tH E q σ j0 ks xs=ah (l,tk,fz)->fZ E w c vals xs->
  ∃cs:az jJ,l=cs.map (·.aa)/\tk=cs.flatMap (·.tk)/\fz=cs.flatMap (·.fz)/\cs.length=xs.length/\∀(j:aF) (r:jJ),cs[j]? =ah r->vals[j]? =ah r.u/\jY E σ w c r:=by
 intro xs;induction xs with
 |nil=>intro j0 ks l tk fz vals h _;cases h;exact⟨[],rfl,rfl,rfl,rfl,λj r h=>by simp at h⟩
 |cons x xs ih=>
  intro j0 ks l tk fz vals h hv;unfold tH at h;split at h
  ·rename_i aa t f as ts fs h1 h2;cases h;obtain⟨u,hu,ha⟩:=hv.2 0 x rfl;obtain⟨p,g,hc⟩:=I6 cf h1 ha;have ND:fZ E w c (vals.extract 1 vals.size) xs:=by
    refine⟨by simp;have:=hv.1;simp at this;omega,λj b hj=> ?_⟩
    obtain⟨u,hu,hb⟩:=hv.2 (j+1) b hj;refine⟨u, ?_,hb⟩
    have:=(dU.1 hu).1;rw[ea,bz (by omega),jc];exact hu
   obtain⟨cs,rfl,rfl,rfl,i4,i5⟩:=ih h2 ND;refine⟨⟨aa,t,f,p,g,u⟩::cs,rfl,rfl,rfl,by simp[i4],λj r hj=> ?_⟩
   cases j with
   |zero=>cases hj;exact⟨hu,hc⟩
   |succ j=>
    obtain⟨r1,r2⟩:=i5 j r hj;refine⟨?_,r2⟩
    rw[ea]at r1;split at r1
    ·rw[jc];exact r1
    ·cases r1
  ·cases h
end
end Go.FG

namespace Go.FG
structure lj where
 box:aC aF
 agg:aX
 cs:az jJ
 v:bk
def lj.arg(R:lj):fw:=match R.box with|some _=> .pt (R.cs.map (·.aa))|none=> .v R.agg (R.cs.map (·.aa))
def lj.tk(R:lj):az aF:=R.box.toList++R.cs.flatMap (·.tk)
def lj.fz(R:lj):az aF:=R.cs.flatMap (·.fz)
def zR(rv:ResultVar)(tmps:du bk):Sem bk:=match rv with| .tmp t=>pure (tmps.getD t undef)| .cell a t=>do loadVar t (<-asAddr (tmps.getD a undef))
section
variable {P:c5} {E:fQ} {σ:St} {a:Act} {w:bL} {c:e9}
def B1(T:Tab)(σ:St)(w:bL)(c:e9)(R:lj):Prop:=
 (∃nm xs vals,R.box=ah nm/\σ (c8 nm)= .o (.box xs)/\R.v= .pointer (ah (ad (c.P nm).blk 0))/\n8 w (c.P nm).blk vals/\vals.size=R.cs.length/\∀(j:aF) (r:jJ),R.cs[j]? =ah r->vals[j]? =ah r.u/\jY T σ w c r)\/
 (R.box=aj/\((R.agg=ak/\∃r,R.cs=[r]/\r.u=R.v/\jY T σ w c r)\/(R.agg=ai/\∃vals:du bk,R.v= .agg vals/\vals.size=R.cs.length/\∀(j:aF) (r:jJ),R.cs[j]? =ah r->vals[j]? =ah r.u/\jY T σ w c r)))
theorem I7(cf:Ok E σ w c){q:aF}{ks:az Ck}{s:SV}{v:bk}{x:fw}{tk fz:az aF}(h:Ns E q σ ks s=ah (x,tk,fz))(hs:jm E w c s v):∃R:lj,R.arg=x/\R.tk=tk/\R.fz=fz/\R.v=v/\B1 E σ w c R:=by
 have gen:∀g xs,s= .v g xs->(match tH E q σ 0 ks xs with|some (l,ns,ms)=>ah (fw.v g l,ns,ms)|none=>aj)=ah (x,tk,fz)->∃R:lj,R.arg=x/\R.tk=tk/\R.fz=fz/\R.v=v/\B1 E σ w c R:=by
  rintro g xs rfl h;cases hf:tH E q σ 0 ks xs with
  |none=>rw[hf]at h;cases h
  |some t=>
   obtain⟨l,ns,ms⟩:=t;rw[hf]at h;cases h;obtain⟨cs,rfl,rfl,rfl,h4,h5⟩:=E0 cf hf (qq.cells hs);refine⟨⟨aj,g,cs,v⟩,rfl,by simp[lj.tk],rfl,rfl, .inr ⟨rfl, ?_⟩⟩
   replace hs:qq E w c g xs v:=hs;have xO:∀y,qq E w c ak [y] v->v.cells= #[v]:=λy hy=>EU (eM.one hy);unfold qq at hs;split at hs
   ·rename_i y;obtain⟨r,rfl⟩:=g6.1 (h4.trans rfl);obtain⟨h6,h7⟩:=h5 0 r rfl;rw[xO y hs]at h6;exact .inl ⟨rfl,r,rfl,by simpa using h6.symm,h7⟩
   ·obtain⟨vals,rfl,gh,_⟩:=hs;exact .inr ⟨rfl,vals,rfl,by rw[gh];exact h4.symm,h5⟩
   ·exact hs.elim
 unfold Ns at h;split at h
 ·rename_i nm;cases ho:σ (c8 nm)with
  |v=>rw[ho]at h;cases h
  |j9=>rw[ho]at h;cases h
  |o ob=>
   rw[ho]at h;cases ob with
   |box xs=>
    dsimp only at h;cases hf:tH E q σ 0 [] xs with
    |none=>rw[hf]at h;cases h
    |some t=>obtain⟨l,ns,ms⟩:=t;rw[hf]at h;cases h;obtain⟨vals,hb,gh,hv⟩:=cf.obj nm _ ho;obtain⟨cs,rfl,rfl,rfl,h4,h5⟩:=E0 cf hf ⟨gh,hv⟩;exact⟨⟨ah nm,ak,cs,v⟩,rfl,rfl,rfl,rfl, .inl ⟨nm,xs,vals,rfl,ho,hs,hb,by rw[gh];exact h4.symm,h5⟩⟩
   |_=>cases h
 ·exact gen _ _ rfl h
 ·cases h
theorem JT(hE:eH P E){t:aF}{ti:TI}(ht:E.ty t=ah ti){b:aF}{vals:du bk}(hb:n8 w b vals)(hl:vals.size=ti.ks.length):(loadVar t (ad b 0)).run P w= .ok (if ti.agg=ai then .agg vals else vals.toList.headD .nilIface) w:=by
 have h:=C_ (P:=P) w hE ht (b:=b) (o:=0) (cs:=vals.toList) (by simpa using hl) (λj v hj=>by rw[bV,hb.cell];simpa using hj);have e:(yU t (.pointer (ah (ad b 0)))).run P w=(loadVar t (ad b 0)).run P w:=by simp only[yU,uW,cj,cT,bG]
 rw[<-e,h]
theorem U1(hE:eH P E)(cf:Ok E σ w c)(dK:fE E σ a w c){q:aF}{rv:ResultVar}{t:aF}{x:fw}{tk fz:az aF}(h:U0 E q σ rv t=ah (x,tk,fz)):∃R:lj,R.arg=x/\R.tk=tk/\R.fz=fz/\B1 E σ w c R/\(zR rv a.tmps).run P w= .ok R.v w:=by
 unfold U0 at h;cases ht:E.ty t with
 |none=>rw[ht]at h;cases h
 |some ti=>
  rw[ht]at h;cases rv with
  |tmp s=>obtain⟨R,h1,h2,h3,h4,h5⟩:=I7 cf h (dK.ok s);exact⟨R,h1,h2,h3,h5,by rw[h4];rfl⟩
  |cell b t'=>
   dsimp only at h;split at h
   ·rename_i VU nm ht' hs;split at h
    ·rename_i xs ho;cases hb:bD xs.length VU.ks.length with
     |false=>rw[hb]at h;cases h
     |true=>
      rw[hb]at h;have hlen:=aU hb;have hv:a.eval (.tmp b)= .pointer (ah (ad (c.P nm).blk 0)):=by have:=dK.ok b;rw[hs]at this;exact this
      obtain⟨vals,hbl,gh,hcv⟩:=cf.obj nm _ ho;have S5:=JT (P:=P) (w:=w) hE ht' hbl (by rw[gh];exact hlen);have asr:jm E w c (.v VU.agg xs) (if VU.agg=ai then .agg vals else vals.toList.headD .nilIface):=by
       show qq E w c VU.agg xs _;cases uG:VU.agg with
       |true=>rw[bz rfl];exact⟨vals,rfl,gh,hcv⟩
       |false=>
        obtain⟨d,_,_,hn⟩:=hE.desc t' VU ht';have h1:VU.ks.length=1:=by rcases hn uG with ⟨k,h,_⟩|⟨h,_⟩|⟨h,_⟩|⟨e',h,_⟩|⟨h,_⟩<;>simp[h]
        obtain⟨y,rfl⟩:=g6.1 (hlen.trans h1);obtain⟨u,hu,ha⟩:=hcv 0 y rfl;have sD:vals.toList[0]? =ah u:=by simpa using hu
        have:vals.toList.headD .nilIface=u:=by
         cases hl:vals.toList with
         |nil=>rw[hl]at sD;cases sD
         |cons z l=>rw[hl]at sD;cases sD;rfl
        rw[bH (by simp),this];exact ha
      obtain⟨R,h1,h2,h3,h4,h5⟩:=I7 cf h asr;refine⟨R,h1,h2,h3,h5, ?_⟩
      rw[h4,<-S5];have:a.tmps.getD b undef= .pointer (ah (ad (c.P nm).blk 0)):=hv;simp only[zR,this,asAddr,cj,cT,bG]
    ·cases h
   ·cases h
theorem P9(hE:eH P E)(cf:Ok E σ w c)(dK:fE E σ a w c):∀{rs:az ResultVar} {q:aF} {ts:az aF} {as:az fw} {tk fz:az aF},C4 E σ q rs ts=ah (as,tk,fz)->∃RL:az lj,as=RL.map (·.arg)/\tk=RL.flatMap (·.tk)/\fz=RL.flatMap (·.fz)/\(∀R∈RL,B1 E σ w c R)/\RL.length=rs.length/\(rs.mapM (λrv=>zR rv a.tmps)).run P w= .ok (RL.map (·.v)) w:=by
 intro rs;induction rs with
 |nil=>intro q ts as tk fz h;cases h;exact⟨[],rfl,rfl,rfl,λR h=>(by cases h),rfl,by simp⟩
 |cons rv rs ih=>
  intro q ts as tk fz h;unfold C4 at h;split at h
  ·rename_i x l m as' ls ms h1 h2;cases h;obtain⟨R,rfl,rfl,rfl,r4,r5⟩:=U1 hE cf dK h1;obtain⟨RL,rfl,rfl,rfl,i4,i5,i6⟩:=ih h2;refine⟨R::RL,rfl,rfl,rfl,λR' hR=> ?_,by simp[i5], ?_⟩
   ·rcases cB.1 hR with rfl|hR
    ·exact r4
    ·exact i4 R' hR
   ·simp only[W9,cj,r5,i6,bG,cT,fD]
  ·cases h
def C5(vs:az bk):bk:=match vs with|[v]=>v|l=> .tuple l.toArray
theorem JU{fn:Func}{vs:az bk}(h:(fn.results.toList.mapM (λrv=>zR rv a.tmps)).run P w= .ok vs w):(results fn a.tmps).run P w= .ok (C5 vs) w:=by
 have e:(fn.results.mapM (λrv=>zR rv a.tmps)).run P w= .ok vs.toArray w:=by rw[Array.mapM_eq_mapM_toList];simp[h]
 have:results fn a.tmps=(do let vs<-fn.results.mapM (λrv=>zR rv a.tmps);pure (if h:vs.size=1 then vs[0]else .tuple vs)):=rfl;rw[this];simp only[cj,e,bG,cT];match vs with
 |[]=>rfl
 |[v]=>rfl
 |_::_::_=>rfl
end
end Go.FG

namespace Go.FG
structure mX where
 box:aX
 cs:az jJ
def mX.l(O:mX):az AA:=O.cs.map (·.aa)
def mX.ns(O:mX)(p:aF):az aF:=(if O.box=ai then [dS p 900]else [])++O.cs.flatMap (·.tk)
def mX.ms(O:mX):az aF:=O.cs.flatMap (·.fz)
section
variable {P:c5} {E:fQ} {σ:St} {a:Act} {w:bL} {c:e9}
def Kept(σ:St)(p j:aF)(xs:az AA)(r:jJ):Prop:=∃e ex z ys,xs[j]? =ah (.ow e ex z)/\r.aa= .kp ys/\r.tk=[dS p j]/\r.fz=[]/\σ (c8 (dS p j))= .o (.row e ex ys)
def Ig(T:Tab)(σ:St)(w:bL)(c:e9)(p:aF)(x:fw)(O:mX):Prop:=
 (O.box=ak/\(∀xs,x≠ .pt xs)/\(O.cs=[]\/∃g xs,x= .v g xs/\∀(j:aF) (r:jJ),O.cs[j]? =ah r->Kept σ p j xs r\/(r.aa= .nl/\r.tk=[]/\r.fz=[])))\/
 (O.box=ai/\∃xs vs vals,x= .pt xs/\σ (c8 (dS p 900))= .o (.box vs)/\n8 w (c.P (dS p 900)).blk vals/\vals.size=O.cs.length/\
  ∀(j:aF) (r:jJ),O.cs[j]? =ah r->vals[j]? =ah r.u/\((Kept σ p j xs r/\r.u=lW (c.P (dS p j)))\/jY T σ w c r))
theorem JX{a b:aX}(h:JW a b=ai):a=b:=by cases a<;>cases b<;>first|rfl|cases h
theorem Zj(p j i:aF):dS p j+i=dS p (j+i):=by unfold dS;omega
theorem Lq{tk:az aF}{p:aF}:∀{xs:az AA} {j:aF},∃cs:az jJ,(pZ σ tk (dS p j) xs).1=cs.map (·.aa)/\(pZ σ tk (dS p j) xs).2=cs.flatMap (·.tk)/\cs.flatMap (·.fz)=[]/\
  ∀(i:aF) (r:jJ),cs[i]? =ah r->((∃e ex z ys,xs[i]? =ah (.ow e ex z)/\r.aa= .kp ys/\r.tk=[dS p (j+i)]/\r.fz=[]/\σ (c8 (dS p (j+i)))= .o (.row e ex ys))\/(r.aa= .nl/\r.tk=[]/\r.fz=[])):=by
 intro xs;induction xs with
 |nil=>intro j;exact⟨[],rfl,rfl,rfl,λi r h=>by simp at h⟩
 |cons x xs ih=>
  intro j;obtain⟨cs,h1,h2,h3,h4⟩:=ih (j:=j+1);have e1:dS p j+1=dS p (j+1):=Zj p j 1;let pl:Pl:=⟨ai,0,0,0,0,0⟩
  have one:∃r:jJ,nH σ tk (dS p j) x=(r.aa,r.tk)/\r.fz=[]/\((∃e ex z ys,x= .ow e ex z/\r.aa= .kp ys/\r.tk=[dS p j]/\r.fz=[]/\σ (c8 (dS p j))= .o (.row e ex ys))\/(r.aa= .nl/\r.tk=[]/\r.fz=[])):=by
   have no:nH σ tk (dS p j) x=(.nl,[])->∃r:jJ,nH σ tk (dS p j) x=(r.aa,r.tk)/\r.fz=[]/\((∃e ex z ys,x= .ow e ex z/\r.aa= .kp ys/\r.tk=[dS p j]/\r.fz=[]/\σ (c8 (dS p j))= .o (.row e ex ys))\/(r.aa= .nl/\r.tk=[]/\r.fz=[])):=
    λh=>⟨⟨.nl,[],[],pl,λ_ _=>pl,undef⟩,h,rfl, .inr ⟨rfl,rfl,rfl⟩⟩
   cases x with
   |ow e ex z=>
    cases hm:mO (dS p j) tk with
    |true=>exact no (by simp[nH,hm])
    |false=>
     obtain⟨so,ho⟩:∃so,σ (c8 (dS p j))=so:=⟨_,rfl⟩
     cases so with
     |v=>exact no (by simp[nH,hm,ho])
     |j9=>exact no (by simp[nH,hm,ho])
     |o ob=>
      cases ob with
      |row e' uE ys=>
       cases hb:(bD e e'&&JW ex uE)with
       |false=>exact no (by simp only[nH,hm,ax,ho,hb])
       |true=>simp only[aL]at hb;have he:=aU hb.1;have hx:=JX hb.2;subst he;subst hx;exact⟨⟨.kp ys,[dS p j],[],pl,λ_ _=>pl,undef⟩,by simp[nH,hm,ho,hb.2],rfl, .inl ⟨e,ex,z,ys,rfl,rfl,rfl,rfl,ho⟩⟩
      |_=>exact no (by simp[nH,hm,ho])
   |_=>exact no rfl
  obtain⟨r,k1,k2,k3⟩:=one;refine⟨r::cs, ?_, ?_,by simp[k2,h3],λi r' hi=> ?_⟩
  ·show(nH σ tk (dS p j) x).1::(pZ σ tk (dS p j+1) xs).1=_;rw[k1,e1,h1];rfl
  ·show(nH σ tk (dS p j) x).2++(pZ σ tk (dS p j+1) xs).2=_;rw[k1,e1,h2];rfl
  ·cases i with
   |zero=>
    cases hi;rcases k3 with ⟨e,ex,z,ys,q1,q2⟩|q
    ·exact .inl ⟨e,ex,z,ys,by rw[q1];rfl,q2⟩
    ·exact .inr q
   |succ i=>have:=h4 i r' hi;rw[show j+1+i=j+(i+1)by omega]at this;exact this
theorem OZ(cf:Ok E σ w c){q:aF}:∀{xs:az AV} {j:aF} {bs l:az AA} {tk fz:az aF} {vals:du bk},GV E q σ j bs xs=ah (l,tk,fz)->fZ E w c vals xs->
  ∃cs:az jJ,l=cs.map (·.aa)/\tk=cs.flatMap (·.tk)/\fz=cs.flatMap (·.fz)/\cs.length=xs.length/\∀(i:aF) (r:jJ),cs[i]? =ah r->vals[i]? =ah r.u/\
   (((∃e ex z ys,bs[i]? =ah (.ow e ex z)/\r.aa= .kp ys/\r.tk=[dS q (j+i)]/\r.fz=[]/\σ (c8 (dS q (j+i)))= .o (.row e ex ys))/\r.u=lW (c.P (dS q (j+i))))\/jY E σ w c r):=by
 intro xs;induction xs with
 |nil=>intro j bs l tk fz vals h _;cases h;exact⟨[],rfl,rfl,rfl,rfl,λi r h=>by simp at h⟩
 |cons x xs ih=>
  intro j bs l tk fz vals h hv;unfold GV at h;split at h
  ·rename_i aa t f as ts fs h1 h2;cases h;obtain⟨u,hu,ha⟩:=hv.2 0 x rfl;have ND:fZ E w c (vals.extract 1 vals.size) xs:=by
    refine⟨by simp;have:=hv.1;simp at this;omega,λi b hj=> ?_⟩
    obtain⟨u,hu,hb⟩:=hv.2 (i+1) b hj;refine⟨u, ?_,hb⟩
    have:=(dU.1 hu).1;rw[ea,bz (by omega),jc];exact hu
   obtain⟨cs,rfl,rfl,rfl,i4,i5⟩:=ih h2 ND;have one:∃p g,((∃e ex z ys,bs[0]? =ah (.ow e ex z)/\aa= .kp ys/\t=[dS q j]/\f=[]/\σ (c8 (dS q j))= .o (.row e ex ys))/\u=lW (c.P (dS q j)))\/jY E σ w c ⟨aa,t,f,p,g,u⟩:=by
    have other:∀{om k},Al E om σ k x=ah (aa,t,f)->∃p g,((∃e ex z ys,bs[0]? =ah (.ow e ex z)/\aa= .kp ys/\t=[dS q j]/\f=[]/\σ (c8 (dS q j))= .o (.row e ex ys))/\u=lW (c.P (dS q j)))\/jY E σ w c ⟨aa,t,f,p,g,u⟩:=λhh=>by obtain⟨p,g,hc⟩:=I6 cf hh ha;exact⟨p,g, .inr hc⟩
    unfold aa0 at h1;split at h1
    ·rename_i e ex z n _ hb;cases hn:bD n (dS q j)with
     |false=>rw[hn]at h1;exact other (k:= .o) h1
     |true=>
      rw[hn]at h1;have:=aU hn;subst this;obtain⟨so,ho⟩:∃so,σ (c8 (dS q j))=so:=⟨_,rfl⟩
      cases so with
      |v=>simp[ho]at h1
      |j9=>simp[ho]at h1
      |o ob=>
       cases ob with
       |row e' uE ys=>
        simp only[ho,au]at h1;cases E_:(bD e e'&&JW ex uE)with
        |false=>rw[E_]at h1;cases h1
        |true=>
         rw[E_]at h1;cases h1;simp only[aL]at E_;have he:=aU E_.1;have hx:=JX E_.2;subst he;subst hx;refine⟨⟨ai,0,0,0,0,0⟩,λ_ _=>⟨ai,0,0,0,0,0⟩, .inl ⟨⟨e,ex,z,ys, ?_,rfl,rfl,rfl,ho⟩,ha⟩⟩
         cases bs with
         |nil=>cases hb
         |cons b bs=>rw[show b=_ from hb];rfl
       |_=>simp[ho]at h1
    ·exact other (k:= .o) h1
   obtain⟨p,g,hc⟩:=one;refine⟨⟨aa,t,f,p,g,u⟩::cs,rfl,rfl,rfl,by simp[i4],λi r hi=> ?_⟩
   cases i with
   |zero=>cases hi;exact⟨hu,hc⟩
   |succ i=>
    obtain⟨r1,r2⟩:=i5 i r hi;refine⟨?_, ?_⟩
    ·rw[ea]at r1;split at r1
     ·rw[jc];exact r1
     ·cases r1
    ·rw[show j+1+i=j+(i+1)by omega]at r2;have e1:bs.tail[i]? =bs[i+1]? :=by cases bs<;>simp
     rw[e1]at r2;exact r2
  ·cases h
end
end Go.FG

namespace Go.FG
section
variable {P:c5} {E:fQ} {σ:St} {a:Act} {w:bL} {c:e9}
theorem PZ(cf:Ok E σ w c){tk:az aF}:∀{args:az fw} {p:aF} {l:az (az AA)} {ns ms:az aF},CX E σ tk p args=ah (l,ns,ms)->
  ∃OL:az mX,l=OL.map (·.l)/\OL.length=args.length/\ns=(OL.zipIdx p).flatMap (λt=>t.1.ns t.2)/\ms=OL.flatMap (·.ms)/\∀(i:aF) (O:mX) (x:fw),OL[i]? =ah O->args[i]? =ah x->Ig E σ w c (p+i) x O:=by
 intro args;induction args with
 |nil=>intro p l ns ms h;cases h;exact⟨[],rfl,rfl,rfl,rfl,λi O x h=>by simp at h⟩
 |cons x args ih=>
  intro p l ns ms h;unfold CX at h;split at h
  ·cases h
  ·rename_i l' ns' ms' h1;obtain⟨OL,rfl,i2,rfl,rfl,i5⟩:=ih h1;have put:∀O:mX,Ig E σ w c p x O->l=O.l::OL.map (·.l)->ns=O.ns p++(OL.zipIdx (p+1)).flatMap (λt=>t.1.ns t.2)->ms=O.ms++OL.flatMap (·.ms)->∃OL:az mX,l=OL.map (·.l)/\OL.length=(x::args).length/\ns=(OL.zipIdx p).flatMap (λt=>t.1.ns t.2)/\ms=OL.flatMap (·.ms)/\∀(i:aF) (O:mX) (y:fw),OL[i]? =ah O->(x::args)[i]? =ah y->Ig E σ w c (p+i) y O:=by
    intro O hO h1 h2 h3;refine⟨O::OL,h1,by simp[i2],by rw[h2,List.zipIdx_cons,yV],h3,λi O' y hi hy=> ?_⟩
    cases i with
    |zero=>cases hi;cases hy;exact hO
    |succ i=>have:=i5 i O' y hi hy;rwa[show p+1+i=p+(i+1)by omega]at this
   cases x with
   |v g xs=>
    dsimp only at h;cases hh:SU xs with
    |false=>rw[hh]at h;cases h;exact put ⟨ak,[]⟩ (.inl ⟨rfl,(λ_ h=>by cases h), .inl rfl⟩) rfl rfl rfl
    |true=>rw[hh]at h;cases h;obtain⟨cs,k1,k2,k3,k4⟩:=Lq (σ:=σ) (tk:=tk) (p:=p) (xs:=xs) (j:=0);refine put ⟨ak,cs⟩ (.inl ⟨rfl,(λ_ h=>by cases h), .inr ⟨g,xs,rfl,λj r hj=> ?_⟩⟩) (by rw[k1];rfl) (by rw[k2];rfl) (by simp[mX.ms,k3]);have:=k4 j r hj;rw[bV]at this;exact this
   |pt xs=>
    dsimp only at h;split at h
    ·rename_i vs ho;split at h
     ·rename_i as ns2 ms2 hb;cases h;obtain⟨vals,hbl,gh,hv⟩:=cf.obj _ _ ho;obtain⟨cs,rfl,rfl,rfl,k4,k5⟩:=OZ cf hb ⟨gh,hv⟩;refine put ⟨ai,cs⟩ (.inr ⟨rfl,xs,vs,vals,rfl,ho,hbl,by rw[gh];exact k4.symm,λj r hj=> ?_⟩) rfl (by simp[mX.ns]) rfl;obtain⟨r1,r2⟩:=k5 j r hj;rw[bV]at r2;exact⟨r1,r2⟩
     ·cases h
    ·cases h
   |fb xs=>cases h;exact put ⟨ak,[]⟩ (.inl ⟨rfl,(λ_ h=>by cases h), .inl rfl⟩) rfl rfl rfl
theorem Ai:∀{l:az (az AA)} {p:aF},(uD l).getD p []=l.getD p []:=by
 intro l;induction l with
 |nil=>intro p;rfl
 |cons x l ih=>
  intro p;unfold uD;split
  ·rename_i h;cases p with
   |zero=>rfl
   |succ p=>rw[vO,<-ih,h];rfl
  ·rename_i x' r' _;cases p with
   |zero=>rfl
   |succ p=>rw[vO,vO,ih]
end
end Go.FG

namespace Go.FG
structure Sp where
 res:aX
 i:aF
 j:aC aF
def pF(RL:az lj)(OL:az mX)(s:Sp):az aF:=
 match s.res,s.j with
 |true,aj=>match RL[s.i]? with|some R=>R.box.toList|none=>[]
 |true,ah j=>match RL[s.i]? with|some R=>(match R.cs[j]? with|some r=>r.tk|none=>[])|none=>[]
 |false,aj=>match OL[s.i]? with|some O=>(if O.box=ai then [dS s.i 900]else [])|none=>[]
 |false,ah j=>match OL[s.i]? with|some O=>(match O.cs[j]? with|some r=>r.tk|none=>[])|none=>[]
theorem nK{α:Type}{l:az α}{i:aF}{x:α}{p:aF}(h:l[i]? =ah x):(l.zipIdx p)[i]? =ah (x,p+i):=by rw[List.getElem?_zipIdx,h];rfl
theorem ZT{RL:az lj}{OL:az mX}(hn:(RL.flatMap (·.tk)++(OL.zipIdx 0).flatMap (λt=>t.1.ns t.2)).Nodup){s s':Sp}{n:aF}(h:n∈pF RL OL s)(h':n∈pF RL OL s'):s=s':=by
 obtain⟨n1,n2,n3⟩:=eQ.1 hn;obtain⟨a1,a2⟩:=lZ n1;obtain⟨b1,b2⟩:=lZ n2;have R1:∀{i:aF} {j:aC aF},n∈pF RL OL ⟨ai,i,j⟩->∃R,RL[i]? =ah R/\n∈R.tk/\((j=aj/\n∈R.box.toList)\/∃q r,j=ah q/\R.cs[q]? =ah r/\n∈r.tk):=by
  intro i j h;cases j with
  |none=>
   unfold pF at h;dsimp only at h;cases hR:RL[i]? with
   |none=>rw[hR]at h;cases h
   |some R=>rw[hR]at h;exact⟨R,rfl,bM _ h, .inl ⟨rfl,h⟩⟩
  |some q=>
   unfold pF at h;dsimp only at h;cases hR:RL[i]? with
   |none=>rw[hR]at h;cases h
   |some R=>
    rw[hR]at h;dsimp only at h;cases hr:R.cs[q]? with
    |none=>rw[hr]at h;cases h
    |some r=>rw[hr]at h;exact⟨R,rfl,bN _ (bQ.2 ⟨r,aQ hr,h⟩), .inr ⟨q,r,rfl,hr,h⟩⟩
 have O1:∀{i:aF} {j:aC aF},n∈pF RL OL ⟨ak,i,j⟩->∃O,OL[i]? =ah O/\n∈O.ns i/\((j=aj/\n∈(if O.box=ai then [dS i 900]else []))\/∃q r,j=ah q/\O.cs[q]? =ah r/\n∈r.tk):=by
  intro i j h;cases j with
  |none=>
   unfold pF at h;dsimp only at h;cases hR:OL[i]? with
   |none=>rw[hR]at h;cases h
   |some R=>rw[hR]at h;exact⟨R,rfl,bM _ h, .inl ⟨rfl,h⟩⟩
  |some q=>
   unfold pF at h;dsimp only at h;cases hR:OL[i]? with
   |none=>rw[hR]at h;cases h
   |some R=>
    rw[hR]at h;dsimp only at h;cases hr:R.cs[q]? with
    |none=>rw[hr]at h;cases h
    |some r=>rw[hr]at h;exact⟨R,rfl,bN _ (bQ.2 ⟨r,aQ hr,h⟩), .inr ⟨q,r,rfl,hr,h⟩⟩
 have inn:∀{A:az aF} {cs:az jJ} {j j':aC aF},(A++cs.flatMap (·.tk)).Nodup->((j=aj/\n∈A)\/∃q r,j=ah q/\cs[q]? =ah r/\n∈r.tk)->((j'=aj/\n∈A)\/∃q r,j'=ah q/\cs[q]? =ah r/\n∈r.tk)->j=j':=by
  intro A cs j j' Jk k k';obtain⟨m1,m2,m3⟩:=eQ.1 Jk;have inC:∀{q:aF} {r:jJ},cs[q]? =ah r->n∈r.tk->n∈cs.flatMap (·.tk):=λhq hr=>bQ.2 ⟨_,aQ hq,hr⟩;rcases k with ⟨rfl,k⟩|⟨q,r,rfl,k1,k2⟩<;>rcases k' with ⟨rfl,k'⟩|⟨q',r',rfl,k1',k2'⟩
  ·rfl
  ·exact cJ rfl (m3 n k n (inC k1' k2'))
  ·exact cJ rfl (m3 n k' n (inC k1 k2))
  ·rw[(lZ m2).1 q q' r r' n k1 k1' k2 k2']
 obtain⟨b,i,j⟩:=s;obtain⟨b',i',j'⟩:=s';cases b<;>cases b'
 ·obtain⟨O,h1,h2,h3⟩:=O1 h;obtain⟨O',K6,Po,Nx⟩:=O1 h';have:=b1 i i' _ _ n (nK (p:=0) h1) (nK (p:=0) K6) (by rw[bV];exact h2) (by rw[bV];exact Po);subst this;rw[h1]at K6;cases K6;have:=b2 _ (aQ (nK (p:=0) h1));rw[bV]at this;rw[inn this h3 Nx]
 ·obtain⟨O,h1,h2,h3⟩:=O1 h;obtain⟨R,K6,Po,_⟩:=R1 h';exact cJ rfl (n3 n (bQ.2 ⟨R,aQ K6,Po⟩) n (bQ.2 ⟨_,aQ (nK (p:=0) h1),by rw[bV];exact h2⟩))
 ·obtain⟨R,h1,h2,_⟩:=R1 h;obtain⟨O,K6,Po,_⟩:=O1 h';exact cJ rfl (n3 n (bQ.2 ⟨R,aQ h1,h2⟩) n (bQ.2 ⟨_,aQ (nK (p:=0) K6),by rw[bV];exact Po⟩))
 ·obtain⟨R,h1,h2,h3⟩:=R1 h;obtain⟨R',K6,Po,Nx⟩:=R1 h';have:=a1 i i' _ _ n h1 K6 h2 Po;subst this;rw[h1]at K6;cases K6;have:=a2 _ (aQ h1);rw[inn this h3 Nx]
end Go.FG

namespace Go.FG
def M8(c:e9)(RL:az lj)(OL:az mX)(m:aF):aC (Pl×(aF->aF->Pl)):=
 if m<900000000 then aj
 else if 500<=(m-900000000)/1000 then(match RL[(m-900000000)/1000-500]? with
  |none=>aj
  |some R=>if(m-900000000)%1000=900 then R.box.map (λn=>(c.P n,c.G n))else(R.cs[(m-900000000)%1000]?).map λr=>(r.p,r.g))
 else if 100<=(m-900000000)%1000/\(m-900000000)%1000≠900 then(match OL[(m-900000000)/1000]? with
  |none=>aj
  |some O=>(O.cs[(m-900000000)%1000-100]?).map λr=>(r.p,r.g))
 else aj
def nG(σ:St)(c:e9)(RL:az lj)(OL:az mX):e9:=
 ⟨λm=>match M8 c RL OL m with|some pg=>pg.1|none=>c.P m,λm=>match M8 c RL OL m with|some pg=>pg.2|none=>c.G m,K1r σ c (RL.flatMap (·.fz)++OL.flatMap (·.ms))⟩
theorem Bp{σ:St}{c:e9}{RL:az lj}{OL:az mX}{m:aF}{p:Pl}{g:aF->aF->Pl}(h:M8 c RL OL m=ah (p,g)):(nG σ c RL OL).P m=p/\(nG σ c RL OL).G m=g:=by unfold nG;simp only[h];exact⟨trivial,trivial⟩
theorem Bo{σ:St}{c:e9}{RL:az lj}{OL:az mX}{m:aF}(h:M8 c RL OL m=aj):(nG σ c RL OL).P m=c.P m/\(nG σ c RL OL).G m=c.G m:=by unfold nG;simp only[h];exact⟨trivial,trivial⟩
section
variable {c:e9} {RL:az lj} {OL:az mX}
theorem Sj{q n:aF}{R:lj}(h:RL[q]? =ah R)(hb:R.box=ah n):M8 c RL OL (dS (500+q) 900)=ah (c.P n,c.G n):=by obtain⟨h1,h2⟩:=uL (p:=500+q) (j:=900) (by omega);have h0:=CO (500+q) 900;unfold M8;rw[bH (by omega),h1,h2,bz (by omega),show 500+q-500=q by omega,h];simp[hb]
theorem GS{q j:aF}{R:lj}{r:jJ}(h:RL[q]? =ah R)(hj:R.cs[j]? =ah r)(hl:j<900):M8 c RL OL (dS (500+q) j)=ah (r.p,r.g):=by obtain⟨h1,h2⟩:=uL (p:=500+q) (j:=j) (by omega);have h0:=CO (500+q) j;unfold M8;rw[bH (by omega),h1,h2,bz (by omega),show 500+q-500=q by omega,h];dsimp only;rw[bH (by omega),hj];rfl
theorem Bm{p j:aF}(hp:p<500)(hl:j<100\/j=900):M8 c RL OL (dS p j)=none:=by obtain⟨h1,h2⟩:=uL (p:=p) (j:=j) (by omega);have h0:=CO p j;unfold M8;rw[bH (by omega),h1,h2,bH (by omega),bH (by omega)]
theorem M9{p j:aF}{O:mX}{r:jJ}(hp:p<500)(h:OL[p]? =ah O)(hj:O.cs[j]? =ah r)(hl:j<=100):M8 c RL OL (dS p (100+j))=ah (r.p,r.g):=by obtain⟨h1,h2⟩:=uL (p:=p) (j:=100+j) (by omega);have h0:=CO p (100+j);unfold M8;rw[bH (by omega),h1,h2,bH (by omega),bz (by omega),h];dsimp only;rw[show 100+j-100=j by omega,hj];rfl
end
end Go.FG

namespace Go.FG
def ajZ(OL:az mX)(s:Sp):aF:=
 match s.res,s.j with
 |true,aj=>dS (500+s.i) 900
 |true,ah j=>dS (500+s.i) j
 |false,aj=>dS s.i 900
 |false,ah j=>match OL[s.i]? with|some O=>(match O.cs[j]? with|some r=>(match r.aa with| .kp _=>dS s.i j|_=>dS s.i (100+j))|none=>0)|none=>0
section
variable {P:c5} {E:fQ} {σ:St} {a:Act} {w:bL} {c:e9} {RL:az lj} {OL:az mX}
theorem Br{r:jJ}(h:jY E σ w c r)(hf:∀n∈r.fz,n∈RL.flatMap (·.fz)++OL.flatMap (·.ms)){x:aF}(hx:M8 c RL OL x=ah (r.p,r.g)):eM E w (nG σ c RL OL) (lD x r.aa) r.u:=by
 rcases h with ⟨e,ex,ys,te,h1,h2,h3,h4,_⟩|⟨h1,h2,h3,h4,h5⟩
 ·rw[h1];show r.u=lW ((nG σ c RL OL).P x);rw[(Bp hx).1];exact h4
 ·exact h5 _ (λb hb=>hb.imp id (λ⟨n,hn,hh⟩=>⟨n,hf n hn,hh⟩)) x
theorem IE{r:jJ}(h:jY E σ w c r){e:aF}{ex:aX}{ys:aR}(ha:r.aa= .ow e ex ys){x:aF}(hx:M8 c RL OL x=ah (r.p,r.g)):
  pU E w (nG σ c RL OL) x (.row e ex ys)/\∀b,fL (nG σ c RL OL) x (.row e ex ys) b->∃n ob,n∈r.tk/\σ (c8 n)= .o ob/\fL c n ob b:=by
 obtain⟨e1,e2⟩:=Bp (σ:=σ) hx;rcases h with ⟨e',uE,DD,te,h1,h2,h3,h4,h5,h6,h7,h8,h9,QB⟩|⟨_,_,h3,_⟩
 ·rw[ha]at h1;cases h1;refine⟨⟨⟨te,h3,by rw[e1];exact h5,h6⟩, ?_,λpL=>by rw[e1,e2];exact h8 pL⟩,λb hb=> ?_⟩
  ·rw[e1,e2];refine h7.frame (λ_=>rfl) (λi j y xx u hy WA hr=> ?_);split at hr
   ·rename_i pL;rw[bz pL];exact hr
   ·rename_i pL;rw[bH pL];exact hr.frame (λ_ _=>rfl) (λb hb=> .inl hb)
  ·rcases hb with ⟨hn,rfl⟩|⟨pL,i,j,hh,hn,rfl⟩
   ·rw[e1]at hn⊢;exact h9 hn
   ·rw[e2]at hn⊢;exact QB pL i j hh hn
 ·exact cJ ha (h3 _ _ _)
structure Er (T:Tab) (σ:St) (w:bL) (c:e9) (RL:az lj) (OL:az mX) (args:az fw) (r:dA):Prop where
 rl:∀R∈RL,B1 T σ w c R
 ol:∀(i:aF) (O:mX) (x:fw),OL[i]? =ah O->args[i]? =ah x->Ig T σ w c i x O
 len:OL.length=args.length
 nd:(RL.flatMap (·.tk)++(OL.zipIdx 0).flatMap (λt=>t.1.ns t.2)).Nodup
 ap:∀n∈RL.flatMap (·.tk)++(OL.zipIdx 0).flatMap (λt=>t.1.ns t.2),n∉RL.flatMap (·.fz)++OL.flatMap (·.ms)
 sm:Small args r
 rs:r.rs=RL.map (·.arg)
 outs:∀p,r.outs.getD p []=(OL.map (·.l)).getD p []
theorem Sg{R:lj}{xs:az AA}(h:Mp R.arg xs):xs=R.cs.map (·.aa):=by
 unfold lj.arg at h;split at h
 ·rcases h with ⟨g,h⟩|h<;>cases h;rfl
 ·rcases h with ⟨g,h⟩|h<;>cases h;rfl
theorem xD(cf:Ok E σ w c){args:az fw}{r:dA}(hE:Er E σ w c RL OL args r){x:aF}{ob:Obj}(h:BO args r x (.o ob)):
  pU E w (nG σ c RL OL) x ob/\∃s,x=ajZ OL s/\∀b,fL (nG σ c RL OL) x ob b->∃n o,n∈pF RL OL s/\σ (c8 n)= .o o/\fL c n o b:=by
 have alM:∀{q:aF} {y:fw},r.rs[q]? =ah y->∃R,RL[q]? =ah R/\y=R.arg:=by
  intro q y hq;rw[hE.rs,bK]at hq;cases hR:RL[q]? with
  |none=>rw[hR]at hq;cases hq
  |some R=>rw[hR]at hq;cases hq;exact⟨R,rfl,rfl⟩
 have fzR:∀{q:aF} {R:lj} {j:aF} {t:jJ},RL[q]? =ah R->R.cs[j]? =ah t->∀n∈t.fz,n∈RL.flatMap (·.fz)++OL.flatMap (·.ms):=λhR hj n hn=>bM _ (bQ.2 ⟨_,aQ hR,bQ.2 ⟨_,aQ hj,hn⟩⟩);have fzO:∀{q:aF} {O:mX} {j:aF} {t:jJ},OL[q]? =ah O->O.cs[j]? =ah t->∀n∈t.fz,n∈RL.flatMap (·.fz)++OL.flatMap (·.ms):=λhR hj n hn=>bN _ (bQ.2 ⟨_,aQ hR,bQ.2 ⟨_,aQ hj,hn⟩⟩);have agm:∀{p:aF} {y:fw},args[p]? =ah y->∃O,OL[p]? =ah O/\Ig E σ w c p y O/\r.outs.getD p []=O.cs.map (·.aa):=by
  intro p y hp;have s5:p<OL.length:=by rw[hE.len];exact(aT.1 hp).1
  have hO:OL[p]? =ah OL[p]:=by simp[s5]
  refine⟨OL[p],hO,hE.ol p _ y hO hp, ?_⟩
  rw[hE.outs,cS,bK,hO];rfl
 have csJ:∀{cs:az jJ} {j:aF} {y:AA},(cs.map (·.aa))[j]? =ah y->∃t,cs[j]? =ah t/\t.aa=y:=by
  intro cs j y hj;rw[bK]at hj;cases ht:cs[j]? with
  |none=>rw[ht]at hj;cases hj
  |some t=>rw[ht]at hj;cases hj;exact⟨t,rfl,rfl⟩
 have hnm:∀p j,dS p 0+j=dS p j:=λp j=>by unfold dS;omega
 cases h with
 |rb q xs h0=>
  obtain⟨R,hR,hy⟩:=alM h0;rcases hE.rl R (aQ hR)with ⟨nm,zs,vals,h1,h2,h3,h4,h5,h6⟩|⟨h1,_⟩
  ·have hxs:=Sg (R:=R) (xs:=xs) (.inr hy.symm);obtain⟨e1,e2⟩:=Bp (σ:=σ) (Sj (c:=c) (OL:=OL) hR h1);refine⟨⟨vals,by rw[e1];exact h4,by rw[iV,hxs,bU];exact h5,λj y hj=> ?_⟩,⟨ai,q,aj⟩,rfl,λb hb=>⟨nm,_, ?_,h2, ?_⟩⟩
   ·rw[iF,hxs]at hj;cases hx:(R.cs.map (·.aa))[j]? with
    |none=>rw[hx]at hj;cases hj
    |some z=>
     rw[hx]at hj;cases hj;obtain⟨t,ht,rfl⟩:=csJ hx;obtain⟨k1,k2⟩:=h6 j t ht;have j8:j<900:=by have:=hE.sm.rl q _ xs h0 (.inr rfl);have h7:=(aT.1 ht).1;rw[hxs,bU]at this;omega
     rw[hnm];exact⟨t.u,k1,Br k2 (fzR hR ht) (GS hR ht j8)⟩
   ·show nm∈(match RL[q]? with|some R=>R.box.toList|none=>[]);rw[hR];dsimp only;rw[h1];exact aZ.2 rfl
   ·rw[show b=_ from hb,e1];rfl
  ·unfold lj.arg at hy;rw[h1]at hy;cases hy
 |rr q y xs j e ex ys h0 hx hj=>
  obtain⟨R,hR,rfl⟩:=alM h0;have hxs:=Sg hx;rw[hxs]at hj;obtain⟨t,ht,Jo⟩:=csJ hj;have j8:j<900:=by have:=hE.sm.rl q _ xs h0 hx;have h7:=(aT.1 ht).1;rw[hxs,bU]at this;omega
  have hc:jY E σ w c t:=by
   rcases hE.rl R (aQ hR)with ⟨nm,zs,vals,_,_,_,_,_,h6⟩|⟨_,⟨_,t',h1,_,h2⟩|⟨_,vals,_,_,h6⟩⟩
   ·exact(h6 j t ht).2
   ·rw[h1]at ht;cases j with
    |zero=>cases ht;exact h2
    |succ j=>simp at ht
   ·exact(h6 j t ht).2
  obtain⟨k1,k2⟩:=IE (RL:=RL) (OL:=OL) hc Jo (GS hR ht j8);refine⟨k1,⟨ai,q,ah j⟩,rfl,λb hb=> ?_⟩
  obtain⟨n,o,h1,h2⟩:=k2 b hb;refine⟨n,o, ?_,h2⟩
  show n∈(match RL[q]? with|some R=>(match R.cs[j]? with|some r=>r.tk|none=>[])|none=>[]);rw[hR];dsimp only;rw[ht];exact h1
 |ob p xs h0=>
  obtain⟨O,hO,hoo,hl⟩:=agm h0;have hp:=hE.sm.a p _ xs h0 (.inr rfl);rcases hoo with ⟨_,h1,_⟩|⟨h1,Mi,vs,vals,X2,h2,h3,h4,h5⟩
  ·exact cJ rfl (h1 xs)
  ·cases X2;obtain⟨e1,e2⟩:=Bo (σ:=σ) (Bm (c:=c) (RL:=RL) (OL:=OL) hp (.inr rfl));have aiP:O.cs.length<=100:=by have:=hE.sm.o p;rw[hl,bU]at this;exact this
   rw[hl];refine⟨⟨vals,by rw[e1];exact h3,by rw[vC,bU];exact h4,λj y hj=> ?_⟩,⟨ak,p,aj⟩,rfl,λb hb=>⟨dS p 900,_, ?_,h2, ?_⟩⟩
   ·rw[wm,bV]at hj;cases hx:(O.cs.map (·.aa))[j]? with
    |none=>rw[hx]at hj;cases hj
    |some z=>
     rw[hx]at hj;cases hj;obtain⟨t,ht,rfl⟩:=csJ hx;obtain⟨k1,k2⟩:=h5 j t ht;have j8:=(aT.1 ht).1;refine⟨t.u,k1, ?_⟩
     rcases k2 with ⟨⟨e,ex,z,ys,_,q2,_⟩,q6⟩|k2
     ·rw[q2];show t.u=lW ((nG σ c RL OL).P (dS p j));rw[(Bo (Bm hp (.inl (by omega)))).1];exact q6
     ·have hk:∀ys,t.aa≠ .kp ys:=by
       rcases k2 with ⟨_,_,_,_,q,_⟩|⟨_,_,_,q,_⟩
       ·intro ys hh;rw[q]at hh;cases hh
       ·exact q
      have:tV p j t.aa=lD (dS p (100+j)) t.aa:=by cases hq:t.aa<;>first|rfl|exact cJ hq (hk _)
      rw[this];exact Br k2 (fzO hO ht) (M9 hp hO ht (by omega))
   ·show dS p 900∈(match OL[p]? with|some O=>(if O.box=ai then [dS p 900]else [])|none=>[]);rw[hO];dsimp only;rw[bz h1];exact aZ.2 rfl
   ·rw[show b=_ from hb,e1];rfl
 |kp p y xs j e ex z ys h0 hx h2 h3=>
  obtain⟨O,hO,hoo,hl⟩:=agm h0;have hp:=hE.sm.a p _ xs h0 hx;rw[hl]at h3;obtain⟨t,ht,Jo⟩:=csJ h3;have aiP:O.cs.length<=100:=by have:=hE.sm.o p;rw[hl,bU]at this;exact this
  have j8:=(aT.1 ht).1;have ajb:Kept σ p j xs t:=by
   rcases hoo with ⟨_,_,h1|⟨g,Mi,X2,h1⟩⟩|⟨_,Mi,vs,vals,X2,_,_,_,h5⟩
   ·rw[h1]at ht;simp at ht
   ·have:Mi=xs:=by rw[X2]at hx;rcases hx with ⟨g',hx⟩|hx<;>cases hx;rfl
    subst this;rcases h1 j t ht with h|⟨h,_⟩
    ·exact h
    ·rw[Jo]at h;cases h
   ·have:Mi=xs:=by rw[X2]at hx;rcases hx with ⟨g',hx⟩|hx<;>cases hx;rfl
    subst this;rcases(h5 j t ht).2 with ⟨h,_⟩|h
    ·exact h
    ·rcases h with ⟨_,_,_,_,q,_⟩|⟨_,_,_,q,_⟩
     ·rw[Jo]at q;cases q
     ·exact cJ Jo (q _)
  obtain⟨e',uE,z',DD,q1,q2,q3,q4,q5⟩:=ajb;rw[h2]at q1;cases q1;rw[Jo]at q2;cases q2;obtain⟨e1,e2⟩:=Bo (σ:=σ) (Bm (c:=c) (RL:=RL) (OL:=OL) (p:=p) (j:=j) hp (.inl (by omega)));obtain⟨⟨te,r1,r2,r3⟩,r4,r5⟩:=cf.obj _ _ q5;refine⟨⟨⟨te,r1,by rw[e1];exact r2,r3⟩, ?_,λpL=>by rw[e1,e2];exact r5 pL⟩,⟨ak,p,ah j⟩, ?_,λb hb=>⟨dS p j,_, ?_,q5, ?_⟩⟩
  ·rw[e1,e2];refine r4.frame (λ_=>rfl) (λi j y xx u hy WA hr=> ?_);split at hr
   ·rename_i pL;rw[bz pL];exact hr
   ·rename_i pL;rw[bH pL];exact hr.frame (λ_ _=>rfl) (λb hb=> .inl hb)
  ·show dS p j=(match OL[p]? with|some O=>(match O.cs[j]? with|some r=>(match r.aa with| .kp _=>dS p j|_=>dS p (100+j))|none=>0)|none=>0)
   rw[hO];dsimp only;rw[ht];dsimp only;rw[Jo]
  ·show dS p j∈(match OL[p]? with|some O=>(match O.cs[j]? with|some r=>r.tk|none=>[])|none=>[]);rw[hO];dsimp only;rw[ht];dsimp only;rw[q3];exact aZ.2 rfl
  ·rw[my (c:=c) (c':=nG σ c RL OL) ⟨e1,e2⟩]at hb;exact hb
 |nw p y xs j e ex ys h0 hx h3=>
  obtain⟨O,hO,hoo,hl⟩:=agm h0;have hp:=hE.sm.a p _ xs h0 hx;rw[hl]at h3;obtain⟨t,ht,Jo⟩:=csJ h3;have aiP:O.cs.length<=100:=by have:=hE.sm.o p;rw[hl,bU]at this;exact this
  have j8:=(aT.1 ht).1;have hc:jY E σ w c t:=by
   rcases hoo with ⟨_,_,h1|⟨g,Mi,X2,h1⟩⟩|⟨_,Mi,vs,vals,X2,_,_,_,h5⟩
   ·rw[h1]at ht;simp at ht
   ·rcases h1 j t ht with ⟨_,_,_,_,_,h,_⟩|⟨h,_⟩<;>(rw[Jo]at h;cases h)
   ·rcases(h5 j t ht).2 with ⟨⟨_,_,_,_,_,h,_⟩,_⟩|h
    ·rw[Jo]at h;cases h
    ·exact h
  obtain⟨k1,k2⟩:=IE (RL:=RL) (OL:=OL) hc Jo (M9 hp hO ht (by omega));refine⟨k1,⟨ak,p,ah j⟩, ?_,λb hb=> ?_⟩
  ·show dS p (100+j)=(match OL[p]? with|some O=>(match O.cs[j]? with|some r=>(match r.aa with| .kp _=>dS p j|_=>dS p (100+j))|none=>0)|none=>0)
   rw[hO];dsimp only;rw[ht];dsimp only;rw[Jo]
  ·obtain⟨n,o,h1,h2⟩:=k2 b hb;refine⟨n,o, ?_,h2⟩
   show n∈(match OL[p]? with|some O=>(match O.cs[j]? with|some r=>r.tk|none=>[])|none=>[]);rw[hO];dsimp only;rw[ht];exact h1
end
end Go.FG

namespace Go.FG
theorem wa{args:az fw}{r:dA}{m:aF}{o:Obj}(h:BO args r m (.o o)):oC args r (c8 m)≠ .j9:=by
 refine si (xF.2 h) ?_;rintro ⟨k,d⟩ hd;rcases ba.1 hd with hd|hd
 ·obtain⟨i,a,_,hd⟩:=JA.1 hd;rcases iD.1 hd with ⟨_,_,_,h⟩|⟨_,_,_,_,_,_,_,_,h⟩<;>rw[h]<;>simp
 ·obtain⟨i,a,_,hd⟩:=Jz.1 hd;rcases qR.1 hd with ⟨_,_,_,h⟩|⟨_,_,⟨_,_,_,_,_,_,_,_,h⟩|⟨_,_,_,_,_,_,h⟩⟩<;>rw[h]<;>simp
section
variable {P:c5} {E:fQ} {σ:St} {a:Act} {w:bL} {c c0:e9} {RL:az lj} {OL:az mX}
theorem UH{s:Sp}{n:aF}(h:n∈pF RL OL s):n∈RL.flatMap (·.tk)++(OL.zipIdx 0).flatMap (λt=>t.1.ns t.2):=by
 obtain⟨b,i,j⟩:=s;have inO:∀{O:mX},OL[i]? =ah O->n∈O.ns i->n∈(OL.zipIdx 0).flatMap (λt=>t.1.ns t.2):=λhO hn=>bQ.2 ⟨_,aQ (nK (p:=0) hO),by rw[bV];exact hn⟩;have inR:∀{R:lj},RL[i]? =ah R->n∈R.tk->n∈RL.flatMap (·.tk):=λhR hn=>bQ.2 ⟨_,aQ hR,hn⟩;cases b<;>cases j<;>unfold pF at h<;>dsimp only at h
 ·cases hO:OL[i]? with
  |none=>rw[hO]at h;cases h
  |some O=>rw[hO]at h;exact bN _ (inO hO (bM _ h))
 ·rename_i j;cases hO:OL[i]? with
  |none=>rw[hO]at h;cases h
  |some O=>
   rw[hO]at h;dsimp only at h;cases hr:O.cs[j]? with
   |none=>rw[hr]at h;cases h
   |some r=>rw[hr]at h;exact bN _ (inO hO (bN _ (bQ.2 ⟨r,aQ hr,h⟩)))
 ·cases hO:RL[i]? with
  |none=>rw[hO]at h;cases h
  |some O=>rw[hO]at h;exact bM _ (inR hO (bM _ h))
 ·rename_i j;cases hO:RL[i]? with
  |none=>rw[hO]at h;cases h
  |some O=>
   rw[hO]at h;dsimp only at h;cases hr:O.cs[j]? with
   |none=>rw[hr]at h;cases h
   |some r=>rw[hr]at h;exact bM _ (inR hO (bN _ (bQ.2 ⟨r,aQ hr,h⟩)))
theorem U2{args:az fw}{r:dA}(hE:Er E σ w c RL OL args r){q:aF}{R:lj}(hR:RL[q]? =ah R):qq E w (nG σ c RL OL) (GR (500+q) R.arg).1 (GR (500+q) R.arg).2 R.v:=by
 have hlen:∀{j:aF} {t:jJ},R.cs[j]? =ah t->j<900:=by
  intro j t ht;have h0:r.rs[q]? =ah R.arg:=by rw[hE.rs,bK,hR];rfl
  have hx:Mp R.arg (R.cs.map (·.aa)):=by
   unfold lj.arg;split
   ·exact .inr rfl
   ·exact .inl ⟨_,rfl⟩
  have:=hE.sm.rl q _ _ h0 hx;have h7:=(aT.1 ht).1;rw[bU]at this;omega
 have hf:∀{j:aF} {t:jJ},R.cs[j]? =ah t->∀n∈t.fz,n∈RL.flatMap (·.fz)++OL.flatMap (·.ms):=λhj n hn=>bM _ (bQ.2 ⟨_,aQ hR,bQ.2 ⟨_,aQ hj,hn⟩⟩);have hnm:∀p j,dS p 0+j=dS p j:=λp j=>by unfold dS;omega
 rcases hE.rl R (aQ hR)with ⟨nm,zs,vals,h1,h2,h3,h4,h5,h6⟩|⟨h1,⟨h2,t,h3,h4,h5⟩|⟨h2,vals,h3,h4,h5⟩⟩
 ·have:R.arg= .pt (R.cs.map (·.aa)):=by unfold lj.arg;rw[h1]
  rw[this];show R.v= .pointer (ah (ad ((nG σ c RL OL).P (dS (500+q) 900)).blk 0));rw[(Bp (Sj hR h1)).1];exact h3
 ·have:R.arg= .v ak [t.aa]:=by unfold lj.arg;rw[h1,h2,h3];rfl
  rw[this,<-h4];have ht:R.cs[0]? =ah t:=by rw[h3];rfl
  have:=Br (OL:=OL) h5 (hf ht) (GS hR ht (by omega));exact this
 ·have:R.arg= .v ai (R.cs.map (·.aa)):=by unfold lj.arg;rw[h1,h2]
  rw[this];refine⟨vals,h3,by show vals.size=(gz _ _).length;rw[iV,bU];exact h4,λj y hj=> ?_⟩
  replace hj:(gz (dS (500+q) 0) (R.cs.map (·.aa)))[j]? =ah y:=hj;rw[iF,bK]at hj;cases ht:R.cs[j]? with
  |none=>rw[ht]at hj;cases hj
  |some t=>
   rw[ht]at hj;cases hj;obtain⟨k1,k2⟩:=h5 j t ht;refine⟨t.u,k1, ?_⟩
   rw[hnm];exact Br k2 (hf ht) (GS hR ht (hlen ht))
theorem Co{args:az fw}{r:dA}{q:aF}{y:fw}{xs:az AA}(h0:r.rs[q]? =ah y)(hx:Mp y xs){v:AV}(hv:v∈gz (dS (500+q) 0) xs):jj (oC args r) v:=by
 intro m hm;obtain⟨j,hj⟩:=bY hv;rw[iF]at hj;cases hy:xs[j]? with
 |none=>rw[hy]at hj;cases hj
 |some z=>
  rw[hy]at hj;cases hj;obtain⟨rfl,e,ex,ys,rfl⟩:=tP hm;have hn:dS (500+q) 0+j=dS (500+q) j:=by unfold dS;omega
  rw[hn];exact wa (.rr q y xs j e ex ys h0 hx hy)
theorem Xy(cf:Ok E σ w c){args:az fw}{r:dA}(hE:Er E σ w c RL OL args r):Ok E (oC args r) w (nG σ c RL OL) where
 obj nm o h:=(xD cf hE (qP h)).1
 sep nm o xU o' b h h' hf vu:=by
  obtain⟨s,e1,k1⟩:=(xD cf hE (qP h)).2;obtain⟨s',e1',k1'⟩:=(xD cf hE (qP h')).2;obtain⟨n,ob,h1,h2,h3⟩:=k1 b hf;obtain⟨n',ob',K6,Po,Nx⟩:=k1' b vu;have:=cf.sep n ob n' ob' b h2 Po h3 Nx;subst this;rw[e1,e1',ZT hE.nd h1 K6]
 kk nm o b h hf hk:=by
  obtain⟨s,e1,k1⟩:=(xD cf hE (qP h)).2;obtain⟨n,ob,h1,h2,h3⟩:=k1 b hf;rcases hk with hk|⟨n',kM,ob',Po,Nx⟩
  ·exact cf.kk n ob b h2 h3 hk
  ·have:=cf.sep n ob n' ob' b h2 Po h3 Nx;subst this;exact hE.ap n (UH h1) kM
 lt b hb:=by
  rcases hb with hb|⟨n,hn,ob,h1,h2⟩
  ·exact cf.lt b hb
  ·exact wO.lt cf ⟨n,ob,h1,h2⟩
 kn nm xs h v hv:=by
  have hx:=qP h;cases hx with
  |rb q xs h0=>exact Co h0 (.inr rfl) hv
  |ob p xs h0=>
   intro m hm;obtain⟨j,hj⟩:=bY hv;rw[wm,bV]at hj;cases hy:(r.outs.getD p [])[j]? with
   |none=>rw[hy]at hj;cases hj
   |some z=>
    rw[hy]at hj;cases hj;cases z with
    |kp ys=>
     have hm:m=dS p j:=by simpa [tV,bS]using hm
     subst hm;have s5:p<OL.length:=by rw[hE.len];exact(aT.1 h0).1
     have hO:OL[p]? =ah OL[p]:=by simp[s5]
     have hl:r.outs.getD p []=OL[p].cs.map (·.aa):=by rw[hE.outs,cS,bK,hO];rfl
     rw[hl,bK]at hy;cases ht:OL[p].cs[j]? with
     |none=>rw[ht]at hy;cases hy
     |some t=>
      rw[ht]at hy;have Jo:t.aa= .kp ys:=by injection hy
      rcases hE.ol p _ _ hO h0 with ⟨_,h1,_⟩|⟨_,Mi,vs,vals,X2,_,_,_,h5⟩
      ·exact cJ rfl (h1 xs)
      ·cases X2;rcases(h5 j t ht).2 with ⟨⟨e,ex,z,DD,q1,q2,_⟩,_⟩|h
       ·rw[Jo]at q2;cases q2;exact wa (.kp p _ xs j e ex z ys h0 (.inr rfl) q1 (by rw[hl,bK,ht];exact lO ah Jo))
       ·rcases h with ⟨_,_,_,_,q,_⟩|⟨_,_,_,q,_⟩
        ·rw[Jo]at q;cases q
        ·exact cJ Jo (q _)
    |ow e ex ys=>
     have hm:m=dS p (100+j):=by simpa [tV,lD,bS]using hm
     subst hm;exact wa (.nw p _ xs j e ex ys h0 (.inr rfl) hy)
    |_=>simp[tV,lD,bS]at hm
theorem O_(cf:Ok E σ w c){args:az fw}{r:dA}(hE:Er E σ w c RL OL args r):oG σ c w (oC args r) (nG σ c RL OL) w where
 os:=rfl
 tape:=rfl
 output:=rfl
 size:=cF _
 K b hb:= .inl hb
 same _ _ _:=rfl
 own b hb:=by
  obtain⟨nm,o,h,hf⟩:=hb;obtain⟨s,e1,k1⟩:=(xD cf hE (qP h)).2;obtain⟨n,ob,h1,h2,h3⟩:=k1 b hf;exact .inl ⟨n,ob,h2,h3⟩
 kn b hb:=by
  rcases hb with hb|⟨n,hn,ob,h1,h2⟩
  ·exact .inl hb
  ·exact .inr (.inl ⟨n,ob,h1,h2⟩)
theorem Pb{args:az fw}{r:dA}(hs:Small args r)(ha:∀a∈args,nF a<=100)(hA:We c0 c):∀m,inj args (c8 m)≠ .j9->(nG σ c RL OL).P m=c0.P m/\(nG σ c RL OL).G m=c0.G m:=by
 intro m hm;have:∃ob,inj args (c8 m)= .o ob:=by
  cases h:inj args (c8 m)with
  |o ob=>exact⟨ob,rfl⟩
  |j9=>exact cJ h hm
  |v x=>
   obtain⟨p,a,h0,h⟩:=lY.1 (n6 h (by simp));rcases h with ⟨h,_⟩|h
   ·exact cJ h (mA _ _)
   ·rcases iD.1 h with ⟨_,_,_,h⟩|⟨_,_,_,_,_,_,_,_,h⟩<;>cases h
 obtain⟨ob,h⟩:=this;obtain⟨p,a,h0,hh⟩:=Bz h;have go:∀j,j<100\/j=900->p<500->(nG σ c RL OL).P (dS p j)=c0.P (dS p j)/\(nG σ c RL OL).G (dS p j)=c0.G (dS p j):=by intro j hj hp;obtain⟨e1,e2⟩:=Bo (σ:=σ) (Bm (c:=c) (RL:=RL) (OL:=OL) hp hj);obtain⟨g1,g2⟩:=hA (dS p j) (CO p j);exact⟨e1.trans g1,e2.trans g2⟩
 rcases hh with ⟨xs,rfl,rfl,_⟩|⟨xs,j,e,ex,ys,hx,hj,rfl,_⟩
 ·exact go 900 (.inr rfl) (hs.a p _ xs h0 (.inr rfl))
 ·refine go j (.inl ?_) (hs.a p _ xs h0 hx);have h1:=ha a (aQ h0);have h2:nF a=xs.length:=by rcases hx with ⟨g,rfl⟩|rfl<;>rfl
  have h3:=(aT.1 hj).1;omega
theorem SB{args:az fw}{r:dA}(hE:Er E σ w c RL OL args r):jm E w (nG σ c RL OL) (ZE r.rs) (C5 (RL.map (·.v))):=by
 have kl:∀l:az (aX×az AV),l=lE 500 r.rs->jm E w (nG σ c RL OL) (.kl l) (.tuple (RL.map (·.v)).toArray):=by
  rintro l rfl;refine⟨_,rfl,by rw[xS,hE.rs];simp,λj g xs hj=> ?_⟩
  rw[Fw,hE.rs,bK]at hj;cases hR:RL[j]? with
  |none=>rw[hR]at hj;cases hj
  |some R=>
   rw[hR]at hj;have hj:GR (500+j) R.arg=(g,xs):=by injection hj
   have:=U2 hE hR;rw[hj]at this;exact⟨R.v,by simp[hR],this⟩
 have one:∀x R,lE 500 r.rs=[x]->RL=[R]->jm E w (nG σ c RL OL) (sF [x]) R.v:=by
  intro x R hx hRL;have h0:RL[0]? =ah R:=by rw[hRL];rfl
  have h1:=U2 hE h0;have h2:(lE 500 r.rs)[0]? =ah (GR (500+0) R.arg):=by rw[Fw,hE.rs,bK,h0];rfl
  rw[hx]at h2;have h2:x=GR (500+0) R.arg:=by injection h2
  subst h2;exact h1
 have hlen:(lE 500 r.rs).length=RL.length:=by rw[xS,hE.rs];simp
 have hL:∀L,L=lE 500 r.rs->L.length=RL.length->jm E w (nG σ c RL OL) (sF L) (C5 (RL.map (·.v))):=by
  intro L hL hlen;have kl:=kl L hL;generalize hV:RL.map (·.v)=V at kl⊢;have hlv:L.length=V.length:=by rw[hlen,<-hV];simp
  cases L with
  |nil=>
   cases V with
   |nil=>exact kl
   |cons v V=>simp at hlv
  |cons x L=>
   cases V with
   |nil=>simp at hlv
   |cons v V=>
    cases L with
    |cons y L=>
     cases V with
     |nil=>simp at hlv
     |cons v' V=>exact kl
    |nil=>
     cases V with
     |cons v' V=>simp at hlv
     |nil=>
      cases hR:RL with
      |nil=>rw[hR]at hV;cases hV
      |cons R RL'=>
       cases RL' with
       |nil=>
        have:=one x R hL.symm hR;rw[hR]at hV this;have hV:R.v=v:=by injection hV
        rw[<-hV];exact this
       |cons R' RL'=>rw[hR]at hV;simp at hV
 exact hL _ rfl hlen
end
end Go.FG

namespace Go.FG
theorem ES{α:Type}{b:aX}{x r:α}(h:(bif b then ah x else aj)=ah r):b=ai/\x=r:=by
 cases b with
 |true=>exact⟨rfl,by injection h⟩
 |false=>cases h
section
variable {P:c5} {E:fQ} {σ:St} {a:Act} {w:bL} {c:e9}
theorem ae0(hE:eH P E)(cf:Ok E σ w c)(dK:fE E σ a w c){F:Func}{args:az fw}{e:Ex}{r:dA}(h:fin E F args e σ=ah r):
  (e= .normal\/e= .ret)/\(∀x∈args,nF x<=100)/\∃RL OL,Er E σ w c RL OL args r/\(results F a.tmps).run P w= .ok (C5 (RL.map (·.v))) w:=by
 have he:e= .normal\/e= .ret:=by
  cases e with
  |normal=>exact .inl rfl
  |ret=>exact .inr rfl
  |exit id=>cases h
 have h:(match C4 E σ 500 F.results.toList F.resultTypes.toList with
  |some (rs,tk,fz)=>match CX E σ (tk++fz) 0 args with
   |some (outs,ns,ms)=>bif tT (tk++ns)&&rN (tk++ns) (fz++ms)&&fK args.length 500&&(args.all λa=>fK (nF a) 100)&&(rs.all λa=>fK (nF a) 100)&&(outs.all λa=>fK a.length 100)then ah (dA.mk rs (uD outs))else aj
   |none=>aj
  |none=>aj)=ah r:=by
  rcases he with rfl|rfl<;>exact h
 split at h
 ·rename_i rs tk fz h1;split at h
  ·rename_i outs ns ms h2;obtain⟨RL,rfl,rfl,rfl,r4,r5,r6⟩:=P9 hE cf dK h1;obtain⟨OL,rfl,o2,rfl,rfl,o5⟩:=PZ cf h2;obtain⟨hb,rfl⟩:=ES h;simp only[aL,bu]at hb;obtain⟨⟨⟨⟨⟨b1,b2⟩,b3⟩,b4⟩,b5⟩,b6⟩:=hb;refine⟨he,λx hx=>cM (b4 x hx),RL,OL,⟨r4,λi O x hi hx=>by have:=o5 i O x hi hx;rwa[bV]at this,o2,qS b1,oY b2,⟨?_, ?_, ?_⟩,rfl,λp=>Ai⟩,JU r6⟩
   ·intro p x xs hp _;have:=(aT.1 hp).1;have:=cM b3;omega
   ·intro q x xs hq hx;have h1:=cM (b5 x (aQ hq));have h2:nF x=xs.length:=by rcases hx with ⟨g,rfl⟩|rfl<;>rfl
    omega
   ·intro p;show((uD (OL.map (·.l))).getD p []).length<=100;rw[Ai,cS];cases hp:(OL.map (·.l))[p]? with
    |none=>simp
    |some l=>exact cM (b6 l (aQ hp))
  ·cases h
 ·cases h
end
inductive Fit:CV->Prop
 |i (k n):Fit (.i k n)
 |b (x):Fit (.b x)
 |s (x) (h:Ec x):Fit (.s x)
 |l (e xs) (h:xs.length<=9223372036854775807) (hc:∀y∈xs,∀x∈y,Fit x):Fit (.l e xs)
def vL(xs:aR):Prop:=xs.length<=9223372036854775807/\∀y∈xs,∀x∈y,Fit x
def aiM:AA->Prop
 | .s x=>Ec x| .sh _ xs=>vL xs| .ow _ _ xs=>vL xs|_=>True
def G2:az AA->Prop
 |[]=>True|a::r=>aiM a/\G2 r
def aiN:CV->Prop
 | .s x=>Ec x| .l _ xs=>vL xs|_=>True
def SJ:az CV->Prop
 |[]=>True|a::r=>aiN a/\SJ r
def SI:fw->Prop
 | .v _ xs=>G2 xs| .pt xs=>G2 xs| .fb xs=>SJ xs
def xK:az fw->Prop
 |[]=>True|a::r=>SI a/\xK r
theorem Fit.aj7{u:bk}{x:CV}(hl:uH x=ak)(h:Sc u x):Fit x:=by
 cases x with
 |i k n=>exact .i k n
 |b x=>exact .b x
 |s x=>exact .s x h.2
 |l=>simp[uH]at hl
theorem c_.fit{E:Tab}{w:bL}{K:aF->Prop}{v:bk}{x:CV}(h:c_ E w K v x):Fit x:=by
 induction h with
 |i k n=>exact .i k n
 |b x=>exact .b x
 |s x h=>exact .s x h
 |nl e A c=>exact .l e [] (bI _) (λy hy=>by cases hy)
 |l e xs b o c ti U ht hc hm hK hs hcell gg ih=>refine .l e xs (dh hc hm) (λy hy x hx=> ?_);obtain⟨i,hi⟩:=bY hy;obtain⟨j,hj⟩:=bY hx;exact ih i j y x hi hj
theorem Fit.row{e:aF}{xs:aR}(h:Fit (.l e xs)):vL xs:=by cases h with|l _ _ h hc=>exact⟨h,hc⟩
theorem Fit.toC{x:CV}(h:Fit x):aiN x:=by
 cases x with
 |s x=>cases h with|s _ h=>exact h
 |l e xs=>exact h.row
 |_=>trivial
theorem Ax{w:bL}{p:Pl}{xs:aR}{R:aF->aF->bk->CV->Prop}(h:jl w p xs R){i j:aF}{y:az CV}{x:CV}(hi:xs[i]? =ah y)(hj:y[j]? =ah x):∃u:bk,R i j u x:=by
 cases hn:p.nil with
 |true=>rw[(h.nil hn).1]at hi;simp at hi
 |false=>obtain⟨vals,_,_,_,_,hc⟩:=h.mem hn;obtain⟨u,_,hr⟩:=hc i y j x hi hj;exact⟨u,hr⟩
theorem MN.fit{E:Tab}{w:bL}{c:e9}{nm e:aF}{ex:aX}{xs:aR}(h:MN E w c nm e ex xs):vL xs:=by
 refine⟨uO h.at_,λy hy x hx=> ?_⟩
 obtain⟨i,hi⟩:=bY hy;obtain⟨j,hj⟩:=bY hx;obtain⟨u,hr⟩:=Ax h.at_ hi hj;split at hr
 ·cases x with
  |i k n=>exact .i k n
  |b x=>exact .b x
  |s x=>exact .s x (show Sc u (.s x)from hr).2
  |l e2 ys=>obtain⟨_,ti,_,hp,_,mR,gf⟩:=hr;refine .l e2 ys (uO gf) (λy2 hy2 x2 QH=> ?_);obtain⟨i2,sC⟩:=bY hy2;obtain⟨j2,CB⟩:=bY QH;obtain⟨u2,hr2⟩:=Ax gf sC CB;exact Fit.aj7 (iw hp (mR y2 hy2) CB) hr2
 ·exact c_.fit hr
theorem E1{T:Tab}{w:bL}{c:e9}{xs:az AA}{nm:aF}(ajn:∀(j e:aF) (ex:aX) (ys:aR),xs[j]? =ah (AA.ow e ex ys)->vL ys)(h:∀(j:aF) (x:AA),xs[j]? =ah x->∃v,eM T w c (lD (nm+j) x) v):G2 xs:=by
 induction xs generalizing nm with
 |nil=>trivial
 |cons x xs ih=>
  refine⟨?_,ih (nm:=nm+1) (λj e ex ys hj=>ajn (j+1) e ex ys hj) (λj y hj=> ?_)⟩
  ·obtain⟨v,hv⟩:=h 0 x rfl;cases x with
   |s x=>exact hv.2
   |sh e ys=>exact(c_.fit hv).row
   |ow e ex ys=>exact ajn 0 e ex ys rfl
   |_=>trivial
  ·have:=h (j+1) y hj;rw[show nm+1+j=nm+(j+1)by omega];exact this
def zU(args:az fw):aX:=fK args.length 500&&args.all λa=>fK (nF a) 100
theorem X7{args:az fw}(hs:zU args=ai){p j e:aF}{x:fw}{xs:az AA}{ex:aX}{ys:aR}(h0:args[p]? =ah x)(hx:(∃g,x= .v g xs)\/x= .pt xs)(hj:xs[j]? =ah (AA.ow e ex ys)):inj args (c8 (dS p j))= .o (.row e ex ys):=by
 simp only[zU,aL,bu]at hs;have len:∀(x:fw) (xs:az AA) (j:aF) (y:AA),x∈args->((∃g,x= .v g xs)\/x= .pt xs)->xs[j]? =ah y->j<100:=by
  intro x xs j y hm hx hj;have h1:=cM (hs.2 x hm);have h2:nF x=xs.length:=by rcases hx with ⟨g,rfl⟩|rfl<;>rfl
  have h3:=(aT.1 hj).1;omega
 have j8:=len x xs j _ (aQ h0) hx hj;refine zW (lY.2 ⟨p,x,h0, .inr (iD.2 (.inr ⟨xs,j,e,ex,ys,hx,hj,by rw[bV],rfl⟩))⟩) (λc' Jc=> ?_);obtain⟨p',a',Ws,hh⟩:=lY.1 Jc;rw[bV]at hh;rcases hh with ⟨h,_⟩|hh
 ·exact cJ h (mA _ _)
 ·rcases iD.1 hh with ⟨zs,_,h,_⟩|⟨zs,j',e',uE,DD,pL,Kc,h,rfl⟩
  ·have:=uM (by omega) (by omega) (j4 h);omega
  ·have aze:=len a' zs j' _ (aQ Ws) pL Kc;obtain⟨rfl,rfl⟩:=uM (by omega) (by omega) (j4 h);rw[h0]at Ws;cases Ws;have:xs=zs:=by rcases hx with ⟨g,rfl⟩|rfl<;>rcases pL with ⟨g',pL⟩|pL<;>cases pL<;>rfl
   subst this;rw[hj]at Kc;cases Kc;rfl
theorem KX{T:Tab}{w:bL}{c:e9}:∀{cs:az CV},(∀(q:aF) (x:CV),cs[q]? =ah x->Fit x)->SJ cs:=by
 intro cs;induction cs with
 |nil=>intro _;trivial
 |cons x cs ih=>intro h;exact⟨(h 0 x rfl).toC,ih (λq y hq=>h (q+1) y hq)⟩
theorem SK{T:Tab}{w:bL}{c:e9}{args:az fw}(hs:zU args=ai)(cf:Ok T (inj args) w c)(h:∀(p:aF) (x:fw),args[p]? =ah x->∃v,jm T w c (tM p x) v):xK args:=by
 have one:∀(p:aF) (x:fw),args[p]? =ah x->SI x:=by
  intro p x h0;have rows:∀xs,((∃g,x= .v g xs)\/x= .pt xs)->∀(j e:aF) (ex:aX) (ys:aR),xs[j]? =ah (AA.ow e ex ys)->vL ys:=λxs hx j e ex ys hj=>MN.fit (cf.obj _ _ (X7 hs h0 hx hj));obtain⟨v,hv⟩:=h p x h0;cases x with
  |v g xs=>
   refine E1 (T:=T) (w:=w) (c:=c) (nm:=dS p 0) (rows xs (.inl ⟨g,rfl⟩)) (λj y hj=> ?_);replace hv:qq T w c g (gz (dS p 0) xs) v:=hv;have Kc:(gz (dS p 0) xs)[j]? =ah (lD (dS p 0+j) y):=by rw[iF,hj];rfl
   unfold qq at hv;split at hv
   ·rename_i a he;rw[he]at Kc;cases j with
    |zero=>cases Kc;exact⟨v,hv⟩
    |succ j=>simp at Kc
   ·obtain⟨vals,_,_,hv⟩:=hv;obtain⟨u,_,hu⟩:=hv j _ Kc;exact⟨u,hu⟩
   ·exact hv.elim
  |pt xs=>
   have arF:inj args (c8 (dS p 900))= .o (.box (gz (dS p 0) xs)):=by
    refine zW (lY.2 ⟨p,_,h0, .inr (iD.2 (.inl ⟨xs,rfl,by rw[bV],by rw[bV]⟩))⟩) (λc' Jc=> ?_);obtain⟨p',a',Ws,hh⟩:=lY.1 Jc;rw[bV]at hh;rcases hh with ⟨h,_⟩|hh
    ·exact cJ h (mA _ _)
    ·rcases iD.1 hh with ⟨zs,hx,h,rfl⟩|⟨zs,j',e',uE,DD,pL,Kc,h,rfl⟩
     ·obtain⟨rfl,_⟩:=uM (by omega) (by omega) (j4 h);rw[h0]at Ws;cases Ws;cases hx;rfl
     ·exfalso;simp only[zU,aL,bu]at hs;have h1:=cM (hs.2 a' (aQ Ws));have h2:nF a'=zs.length:=by rcases pL with ⟨g,rfl⟩|rfl<;>rfl
      have h3:=(aT.1 Kc).1;have:=uM (by omega) (by omega) (j4 h);omega
   obtain⟨vals,_,_,hc⟩:=cf.obj _ _ arF;refine E1 (T:=T) (w:=w) (c:=c) (nm:=dS p 0) (rows xs (.inr rfl)) (λj y hj=> ?_);obtain⟨u,_,hu⟩:=hc j (lD (dS p 0+j) y) (by rw[iF,hj];rfl);exact⟨u,hu⟩
  |fb xs=>
   obtain⟨b,_,_,hf⟩:∃b,v= .pointer (ah (ad b 0))/\c.K b/\∀(q:aF) (x:CV),xs[q]? =ah x->∃u:bk,w.cell? (ad b q)=ah u/\c_ T w c.K u x:=by obtain⟨b,h1,h2,h3⟩:=hv;exact⟨b,h1,h2,h3⟩
   exact KX (T:=T) (w:=w) (c:=c) (λq x hq=>by obtain⟨u,_,hu⟩:=hf q x hq;exact hu.fit)
 clear h cf hs;induction args with
 |nil=>trivial
 |cons x args ih=>exact⟨one 0 x rfl,ih (λp y hp=>one (p+1) y hp)⟩
theorem ae1{P:c5}{E:fQ}(hE:eH P E)(hF:∀g,lS P E g (E.call g))(hm:P.follows .mixedOrders=ai){g:aF}{F:Func}{code:Code}(hf:P.funcs[g]? =ah F)(hb:F.body=ah code)
  (hc:((F.name== "runtime.NumGoroutine")|| !tD F.ntmps code)=ak) {spec:az fw->aC (aX×dA)} (hs:∀args r,spec args=ah (ai,r)->zU args=ai/\(xK args->args.length<=F.ntmps/\∃(R:Type) (it:It R) (K:Ex->St->aC R) (q:R),(∀c∈jZ code,b_ E it c)/\tF E it code (inj args) K=ah q/\∀e σ,K e σ=ah q->fin E F args e σ=ah r)):lS P E g spec:=by
 intro args r hr w c1 vs cf gh S9;obtain⟨hsm,hs⟩:=hs args r hr;obtain⟨hlen,R,it,K,q,CC,aiQ,arP⟩:=hs (SK hsm cf (λp x hp=>(S9 p x hp).imp λ_ h=>h.2));simp only[iJ,nk]at hc;refine⟨⟨F,hf,by rw[hb];rfl,hc.1⟩, ?_⟩
 refine calls_of_wp hf hb ?_;refine aeU (N:=F.ntmps) (σ0:=inj args) (c0:=c1) (w0:=w) hE hF hm code CC (inj args) K _ aiQ hc.2 (λe σ' a' w' c' hk gf=> ?_) _ w c1 ⟨cf,⟨λn=> ?_,Jr,rfl⟩, ?_,oG.refl _ _ _,We.refl _⟩
 ·obtain⟨he,ha,RL,OL,XH,S5⟩:=ae0 hE gf.ok gf.sl (arP _ _ hk)
  have asj:R8 E args r c1 w (C5 (RL.map (·.v))) w':=
   ⟨nG σ' c' RL OL,Xy gf.ok XH,gf.gr.trans (O_ gf.ok XH),Pb XH.sm ha gf.ag,SB XH⟩
  rcases he with rfl|rfl<;>exact⟨gf.sl.df,_,S5,asj⟩
 ·rcases Js (args:=args) (n:=n)with ⟨x,h0,h⟩|h
  ·rw[h];obtain⟨v,hv,yN⟩:=S9 n x h0;have:(Act.mk (vs++Bb (F.ntmps-vs.size) undef) []).eval (.tmp n)=v:=by show(vs++Bb (F.ntmps-vs.size) undef).getD n undef=v;have hn:=(dU.1 hv).1;rw[eP,Array.getElem?_append,bz hn,hv];rfl
   rw[this];exact yN
  ·rw[h];trivial
 ·simp;omega
theorem Pg{P:c5}{T:Tab}{g:aF}{spec:az fw->aC (aX×dA)}(h:∀args,spec args=aj):lS P T g spec:=λargs r hr=>by rw[h]at hr;cases hr
end Go.FG

namespace Go.FG
structure pV where
 t:aF
 ti:TI
 fs:az (aF×aF)
def Ba:az pV->aF->aC TI
 |[],_=>aj
 |r::rs,t=>bif bD t r.t then ah r.ti else Ba rs t
def D3:az pV->aF->aF->aC (aF×aF)
 |[],_,_=>aj
 |r::rs,t,f=>bif bD t r.t then(bif r.ti.agg then r.fs[f]? else aj)else D3 rs t f
def VS(rows:az pV)(eqs:az aF):Tab:={ty:=Ba rows,fo:=D3 rows,eqs:=eqs}
def zB:Ck->bk->aX
 | .i k, .int k' n=>decide (k'=k)&&decide (n=0)
 | .b, .bool x=> !x
 | .s, .string x=>decide (x.size=0)
 | .l _, .slice aj 0 0=>ai
 | .o, .nilIface=>ai
 |_,_=>ak
def zsB:az Ck->az bk->aX
 |[],[]=>ai
 |k::ks,v::vs=>zB k v&&zsB ks vs
 |_,_=>ak
def isAgg:bk->aX| .agg _=>ai|_=>ak
def xI(P:c5)(n:aF):az Field->az (aF×aF)->aX
 |[],[]=>ai
 |f::r,(o,m)::l=>bD f.offset o&&(match P.info? f.type with|some i=>bD i.size m|none=>ak)&&qE 0 m&&fK (o+m) n&&xI P n r l
 |_,_=>ak
def rY:TypeDesc->aX| .struct _=>ak| .array _ _=>ak|_=>ai
def ZF(P:c5)(r:pV):aX:=
 match P.info? r.t,P.underlying r.t with
 |some inf,ah d=>bD inf.size r.ti.ks.length&&bD inf.bytes r.ti.bytes&&qE 0 r.ti.ks.length&&
  (bif LB r.ti.ks then(match inf.zero with|some z=>zsB r.ti.ks z.cells.toList&&(!r.ti.agg||isAgg z)|none=>ak)else ai)&&
  (match d with
  | .struct fs=>r.ti.agg&&xI P r.ti.ks.length fs.toList r.fs
  | .int k=> !r.ti.agg&&qt r.ti.ks [.i k]
  | .bool=> !r.ti.agg&&qt r.ti.ks [.b]
  | .string=> !r.ti.agg&&qt r.ti.ks [.s]
  | .slice e=> !r.ti.agg&&qt r.ti.ks [.l e]
  |d=> !r.ti.agg&&qt r.ti.ks [.o]&&rY d)
 |_,_=>ak
theorem amy{k:Ck}{v:bk}(h:zB k v=ai):v=iN k:=by
 cases k<;>cases v<;>simp_all [zB,iN]
 ·rfl
 ·rename_i a n c;cases a<;>cases n<;>cases c<;>simp_all
theorem Wc:∀{ks:az Ck} {vs:az bk},zsB ks vs=ai->vs=ks.map iN
 |[],[],_=>rfl
 |k::ks,v::vs,h=>by
  simp only[zsB,aL]at h;rw[amy h.1,Wc h.2];rfl
 |[],_::_,h=>by cases h
 |_::_,[],h=>by cases h
theorem aeP:∀{x y:Ck},ckB x y=ai->x=y:=by intro x y h;cases x<;>cases y<;>simp_all [ckB]
theorem nX:∀{a b:az Ck},qt a b=ai->a=b
 |[],[],_=>rfl
 |x::a,y::b,h=>by
  simp only[qt,aL]at h;rw[aeP h.1,nX h.2]
 |[],_::_,h=>by cases h
 |_::_,[],h=>by cases h
theorem wb{P:c5}{n:aF}:∀{fs:az Field} {l:az (aF×aF)},xI P n fs l=ai->
  fs.mapM (λf=>(P.info? f.type).map λi=>(f.offset,i.size))=ah l/\∀(f o m:aF),l[f]? =ah (o,m)->∃fd,fs[f]? =ah fd/\fd.offset=o/\(P.info? fd.type).map (·.size)=ah m/\m≠0/\o+m<=n
 |[],[],_=>⟨rfl,λf o m h=>by simp at h⟩
 |f::r,(o,m)::l,h=>by
  simp only[xI,aL]at h;obtain⟨⟨⟨⟨h1,h2⟩,h3⟩,h4⟩,h5⟩:=h;obtain⟨i1,i2⟩:=wb h5;have e1:=aU h1;cases hi:P.info? f.type with
  |none=>rw[hi]at h2;cases h2
  |some i=>
   rw[hi]at h2;have e2:i.size=m:=aU h2;have e3:0<m:=by simpa [AM]using h3
   have e4:=cM h4;refine⟨by simp[W9,hi,i1,e1,e2],λg o' m' hg=> ?_⟩
   cases g with
   |zero=>cases hg;exact⟨f,rfl,e1,by rw[hi];exact lO ah e2,by omega,e4⟩
   |succ g=>exact i2 g o' m' hg
 |[],_::_,h=>by cases h
 |_::_,[],h=>by cases h
theorem J5:∀{rows:az pV} {t:aF} {ti:TI},Ba rows t=ah ti->∃r∈rows,r.t=t/\r.ti=ti/\∀f,D3 rows t f=(bif r.ti.agg then r.fs[f]? else aj)
 |[],_,_,h=>by cases h
 |r::rs,t,ti,h=>by
  unfold Ba at h;cases hb:bD t r.t with
  |true=>rw[hb]at h;cases h;exact⟨r,dq ..,(aU hb).symm,rfl,λf=>by simp[D3,hb]⟩
  |false=>rw[hb]at h;obtain⟨r',h1,h2,h3,h4⟩:=J5 (rows:=rs) h;exact⟨r',c7 _ h1,h2,h3,λf=>by unfold D3;rw[hb];exact h4 f⟩
theorem Nt:∀{rows:az pV} {t f:aF} {o n:aF},D3 rows t f=ah (o,n)->∃ti,Ba rows t=ah ti/\ti.agg=ai
 |[],_,_,_,_,h=>by cases h
 |r::rs,t,f,o,n,h=>by
  unfold D3 at h;unfold Ba;cases hb:bD t r.t with
  |true=>
   rw[hb]at h;refine⟨r.ti,rfl, ?_⟩
   cases ha:r.ti.agg with
   |true=>rfl
   |false=>rw[ha]at h;cases h
  |false=>rw[hb]at h;exact Nt (rows:=rs) h
def Hz(P:c5):aF->az Ck->az Field->aX
 |_,[],[]=>ai
 |j,k::ks,f::fs=>f.name != "_" &&bD f.offset j&&(match P.underlying f.type,k with|some (.int q), .i q'=>decide (q=q')|some .bool, .b=>ai|some .string, .s=>ai|_,_=>ak)&&Hz P (j+1) ks fs
 |_,_,_=>ak
def aa3(P:c5)(rows:az pV)(t:aF):aX:=
 !P.eqGuardType P.depth t&& !P.stoodInHeld t&&(match Ba rows t,P.underlying t with|some ti,ah (.struct fs)=>Hz P 0 ti.ks fs.toList|_,_=>ak)
theorem yu{P:c5}{t:aF}{d:TypeDesc}(hd:P.underlying t=ah d)(hp:rY d=ai){cs:du bk}{j:aF}{v:bk}(hj:cs[j]? =ah v)(w:bL):(part t cs j).run P w= .ok v w:=by cases d<;>simp_all [part,Go.isAgg,run_underlying hd,rY]
theorem Aj{P:c5}(w:bL):∀(fs:az Field) (ks:az Ck) (pre LM xs ys:az AV) (r:aX),Hz P pre.length ks fs=ai->LM.length=pre.length->xs.map Hi=ks->ys.map Hi=ks->Xx xs ys=ah r->
  (ON 9999 ((pre++xs).map ma).toArray ((LM++ys).map ma).toArray fs).run P w= .ok r w
 |[],[],pre,LM,xs,ys,r,_,_,hx,hy,he=>by
  have:xs=[]:=by simpa using hx
  subst this;have:ys=[]:=by simpa using hy
  subst this;cases he;rfl
 |f::fs,k::ks,pre,LM,x::xs,y::ys,r,h,hl,hx,hy,he=>by
  simp only[Hz,aL]at h;obtain⟨⟨⟨h1,h2⟩,h3⟩,h4⟩:=h;have h2:=aU h2;have h1:f.name≠ "_" :=by simpa using h1
  simp only[fD,List.cons.injEq]at hx hy;have gx:((pre++x::xs).map ma).toArray[f.offset]? =ah (ma x):=by rw[h2];simp
  have gy:((LM++y::ys).map ma).toArray[f.offset]? =ah (ma y):=by rw[h2,<-hl];simp
  have ih:=λr' he'=>Aj w fs ks (pre++[x]) (LM++[y]) xs ys r' (by simpa using h4) (by simp[hl]) hx.2 hy.2 he';simp only[cz,uZ]at ih
  have fin:∀{d:TypeDesc} {a b:bk} {q t:aX},P.underlying f.type=ah d->rY d=ai->ma x=a->ma y=b->(Op.equalIn 9999 f.type a b).run P w= .ok q w->Xx xs ys=ah t->r=(q&&t)->
    (ON 9999 ((pre++x::xs).map ma).toArray ((LM++y::ys).map ma).toArray (f::fs)).run P w= .ok r w:=by
   intro d a b q t hd hp ha hb hq ht hr
   subst ha;subst hb;subst hr
   simp only[ON,bz h1,cj,yu hd hp gx w,yu hd hp gy w,bG,hq,nr]
   cases q with
   |false=>rfl
   |true=>simpa using ih t ht
  cases hu:P.underlying f.type with
  |none=>rw[hu]at h3;cases h3
  |some d=>
   rw[hu]at h3;cases x<;>cases y<;>simp only[Xx]at he<;>try (cases he;done)
   ·rename_i k1 n1 k2 n2;split at he
    ·rename_i SY;subst SY;split at he
     ·rename_i t ht;cases he;have hk:k= .i k1:=hx.1.symm;subst hk;cases d<;>simp at h3;subst h3;exact fin hu rfl rfl rfl (run_equalIn_int w 9998 f.type _ _ _ _ hu) ht rfl
     ·cases he
    ·cases he
   ·split at he
    ·rename_i t ht;cases he;have hk:k= .b:=hx.1.symm;subst hk;cases d<;>simp at h3;exact fin hu rfl rfl rfl (run_equalIn_bool' w 9998 f.type _ _ hu) ht rfl
    ·cases he
   ·split at he
    ·rename_i t ht;cases he;have hk:k= .s:=hx.1.symm;subst hk;cases d<;>simp at h3;exact fin hu rfl rfl rfl (run_equalIn_string w 9998 f.type _ _ hu) ht rfl
    ·cases he
 |[],_::_,_,_,_,_,_,h,_,_,_,_=>by cases h
 |_::_,[],_,_,_,_,_,h,_,_,_,_=>by cases h
 |_::_,_::_,_,_,[],_,_,_,_,hx,_,_=>by cases hx
 |_::_,_::_,_,_,_::_,[],_,_,_,_,hy,_=>by cases hy
theorem aeT{P:c5}{rows:az pV}{eqs:az aF}(h:rows.all (ZF P)=ai)(h2:eqs.all (aa3 P rows)=ai):eH P (VS rows eqs):=by
 have key:∀t ti,Ba rows t=ah ti->∃r,r.t=t/\r.ti=ti/\ZF P r=ai/\∀f,D3 rows t f=(bif r.ti.agg then r.fs[f]? else aj):=λt ti ht=>by obtain⟨r,h1,h2,h3,h4⟩:=J5 ht;exact⟨r,h2,h3,bu.1 h r h1,h4⟩
 have open_:∀r,ZF P r=ai->∃inf d,P.info? r.t=ah inf/\P.underlying r.t=ah d/\inf.size=r.ti.ks.length/\inf.bytes=r.ti.bytes/\0<r.ti.ks.length/\
   (LB r.ti.ks=ai->∃z,inf.zero=ah z/\z.cells.toList=r.ti.ks.map iN/\(r.ti.agg=ai->isAgg z=ai))/\
   ((∃fs,d= .struct fs/\r.ti.agg=ai/\xI P r.ti.ks.length fs.toList r.fs=ai)\/(r.ti.agg=ak/\((∃k,r.ti.ks=[.i k]/\d= .int k)\/(r.ti.ks=[.b]/\d= .bool)\/(r.ti.ks=[.s]/\d= .string)\/(∃e,r.ti.ks=[.l e]/\d= .slice e)\/(r.ti.ks=[.o]/\rY d=ai)))):=by
  intro r hr
  unfold ZF at hr
  split at hr
  ·rename_i inf d h1 h2;simp only[aL]at hr;obtain⟨⟨⟨⟨k1,k2⟩,k3⟩,k4⟩,k5⟩:=hr;refine⟨inf,d,h1,h2,aU k1,aU k2,by simpa [AM]using k3,λhn=> ?_, ?_⟩
   ·rw[hn,au]at k4;split at k4
    ·rename_i z hz;simp only[aL,dL,dr]at k4;exact⟨z,hz,Wc k4.1,λha=>by rcases k4.2 with h|h;(·rw[ha]at h;cases h);exact h⟩
    ·cases k4
   ·cases d<;>simp only[aL,dr]at k5;case struct fs=>exact .inl ⟨fs,rfl,k5⟩
    case int k=>exact .inr ⟨k5.1, .inl ⟨k,nX k5.2,rfl⟩⟩
    case bool=>exact .inr ⟨k5.1, .inr (.inl ⟨nX k5.2,rfl⟩)⟩
    case string=>exact .inr ⟨k5.1, .inr (.inr (.inl ⟨nX k5.2,rfl⟩))⟩
    case slice e=>exact .inr ⟨k5.1, .inr (.inr (.inr (.inl ⟨e,nX k5.2,rfl⟩)))⟩
    all_goals exact .inr ⟨k5.1.1, .inr (.inr (.inr (.inr ⟨nX k5.1.2,k5.2⟩)))⟩
  ·cases hr
 refine⟨λt ti ht=> ?_,λt ti ht=> ?_,λt f o n hf=>Nt hf,λt ti ht ha fs hu=> ?_,λt ti he ht w x y xs ys r hr hx hy=> ?_,λ_ _ h=>by cases h⟩
 ·obtain⟨r,rfl,rfl,hr,_⟩:=key t ti ht;obtain⟨inf,d,h1,h2,h3,h4,h5,h6,h7⟩:=open_ r hr;refine⟨inf,h1,h3,h4,h5,λhn=> ?_⟩
  obtain⟨z,z1,z2,z3⟩:=h6 hn;have hc:z.cells=(r.ti.ks.map iN).toArray:=by rw[<-z2]
  refine⟨z,z1,hc,λha=> ?_⟩
  have:=z3 ha;cases z<;>simp[isAgg]at this;rw[show _=_ from hc.symm];rfl
 ·obtain⟨r,rfl,rfl,hr,xM⟩:=key t ti ht;obtain⟨inf,d,h1,h2,h3,h4,h5,h6,h7⟩:=open_ r hr;refine⟨d,h2,λha=> ?_,λha=> ?_⟩
  ·rcases h7 with ⟨fs,rfl,_,hb⟩|⟨hn,_⟩
   ·refine⟨fs,rfl,λf o n hf=> ?_⟩
    have hf:D3 rows r.t f=ah (o,n):=hf;rw[xM,ha]at hf;obtain⟨fd,k1,k2⟩:=(wb hb).2 f o n hf;exact⟨fd,by simpa using k1,k2⟩
   ·rw[ha]at hn;cases hn
  ·rcases h7 with ⟨fs,_,hn,_⟩|⟨_,h|h|h|h|⟨h,hb⟩⟩
   ·rw[ha]at hn;cases hn
   ·exact .inl h
   ·exact .inr (.inl h)
   ·exact .inr (.inr (.inl h))
   ·exact .inr (.inr (.inr (.inl h)))
   ·refine .inr (.inr (.inr (.inr ⟨h, ?_⟩)));cases d<;>first|rfl|cases hb
 ·obtain⟨r,rfl,rfl,hr,xM⟩:=key t ti ht;obtain⟨inf,d,h1,h2,h3,h4,h5,h6,h7⟩:=open_ r hr;rw[h2]at hu;cases hu;rcases h7 with ⟨fs',he,_,hb⟩|⟨hn,_⟩
  ·cases he;refine⟨r.fs,(wb hb).1,λf o n hf=> ?_⟩
   have hf:D3 rows r.t f=ah (o,n):=hf;rw[xM,ha]at hf;exact hf
  ·rw[ha]at hn;cases hn
 ·have hm:t∈eqs:=by
   have:∀l:az aF,mO t l=ai->t∈l:=by
    intro l;induction l with
    |nil=>intro h;cases h
    |cons a l ih=>
     intro h;simp only[mO,dL]at h;rcases h with h|h
     ·rw[aU h];exact dq
     ·exact c7 _ (ih h)
   exact this _ he
  have hb:=bu.1 h2 t hm;simp only[aa3,aL,dr]at hb;obtain⟨⟨b1,b2⟩,b3⟩:=hb;rw[show Ba rows t=ah ti from ht]at b3;cases hu:P.underlying t with
  |none=>rw[hu]at b3;cases b3
  |some d=>
   rw[hu]at b3;cases d<;>try (cases b3;done)
   rename_i fs;have xM:P.fieldsOf t=fs:=by unfold Program.fieldsOf;rw[hu]
   have sD:P.underlying t=ah (.struct (P.fieldsOf t)):=by rw[xM];exact hu
   have key:(Op.equalIn 10000 t (.agg (xs.map ma).toArray) (.agg (ys.map ma).toArray)).run P w= .ok r w:=by rw[run_equalIn_agg w 9999 t _ _ sD b2,xM];exact Aj w fs.toList ti.ks [] [] xs ys r b3 rfl hx hy hr
   refine⟨?_, ?_⟩
   ·simp only[cj,run_eqGuard_agg w .eql t x y _ _ b1,bG,run_eql_struct,key]
   ·simp only[cj,run_eqGuard_agg w .neq t x y _ _ b1,bG,run_neq_struct,key]
def amn(rows:az pV)(eqs:az aF)(SL:az (aF×aF)):Tab:={VS rows eqs with SL:=λt f=>SL.any λp=>bD t p.1&&bD f p.2}
def flB(P:c5)(p:aF×aF):aX:=
 match P.underlying p.1 with
 |some (.struct fs)=>(match fs[p.2]? with|some fd=>(match P.underlying fd.type with|some d=>rY d|none=>ak)|none=>ak)
 |_=>ak
theorem aeA{P:c5}{t:aF}{d:TypeDesc}(h:P.underlying t=ah d)(hb:rY d=ai)(w:bL):(Go.isAgg t).run P w= .ok ak w:=by unfold Go.isAgg;rw[cj,run_underlying h,bG];cases d<;>first|rfl|cases hb
theorem Xv{P:c5}{rows:az pV}{eqs:az aF}{SL:az (aF×aF)}(h:eH P (VS rows eqs))(hf:SL.all (flB P)=ai):eH P (amn rows eqs SL):=by
 refine⟨h.info,h.desc,h.fo,h.pl,h.eq,λt f hq fs fd hu hd w=> ?_⟩
 obtain⟨p,hp,he⟩:=F2.1 (show(SL.any λp=>bD t p.1&&bD f p.2)=ai from hq);rw[aL]at he;have hb:=bu.1 hf p hp;unfold flB at hb;rw[<-aU he.1,<-aU he.2,hu]at hb;dsimp only at hb;rw[hd]at hb;dsimp only at hb;split at hb
 ·rename_i d h2;exact aeA h2 hb w
 ·cases hb
end Go.FG

