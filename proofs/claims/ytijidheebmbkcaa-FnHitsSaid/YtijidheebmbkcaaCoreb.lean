/- An evaluator for the part of the language that this program uses, proved sound over the model: states told as values and lists; what an evaluation tells, the call does. No condition. -/
import Derived.Calls
import Derived.Orders
import Derived.Below
import Derived.Laws.AppendOwn
import Derived.Laws.Slices
import Derived.Laws.StructEq
import Derived.Laws.Tables
import Derived.Laws.MakeOwn
import Derived.Laws.IdiomStrings
import Derived.Laws.BytesArg
import Derived.Laws.NewFold
import Derived.SizedLaws
import Derived.Carry
import Derived.ProofKit
import Derived.KernelRfl
import Derived.Laws.Strings
import Derived.Test.YtijidheebmbkcaaCorea
set_option linter.unusedVariables false
set_option linter.unusedSimpArgs false
set_option maxRecDepth 100000
open Array renaming ext'->oO,length_toList->c8,getElem?_toList->bY,getElem?_eq_some_iff->c_,getElem?_extract->dn,getElem?_map->Gw,getElem?_append_left->yz,toList_map->uK,eq_empty_of_size_eq_zero->uJ,getD_eq_getD_getElem?->dD,getElem?_replicate->yA,replicate->u9
open Bool renaming false->ah,true->ae,or_true->Rr,and_eq_true->az,and_true->j9,false_eq_true->cJ,not_eq_true'->dt,not_eq_false'->s6,or_eq_true->dg,and_false->My,not_false->bX,true_or->U2,or_eq_false_iff->je
open Go renaming World->bf,Value->aR,Program->b9,Oper->dU,IntKind->ki,Operand->cL
open Go.Act renaming put->L8
open Go.Builtin renaming firstCells->dS,lenOf->mz,append_->fA,zeroCells->eb
open Go.Calls renaming mono->Uq
open Go.Exit renaming inBlock->Bo
open Go.Instr renaming makeFunc->L9,loadAt->td,sureAddr->qn
open Go.IntKind renaming u8->aU
open Go.Op renaming eqFields->Gy
open Go.Oper renaming wp->Gz,upon_enter->L_
open Go.Region renaming wanted->qx,binds->jT,ready->rH
open Go.Result renaming andThen_ok->ba
open Go.Sem renaming run_bind->bJ,run_pure->bV,run->kj,run_ite->kc
open Go.Value renaming int->Vi
open List renaming mem_of_getElem?->aD,map_append->fw,map_cons->dW,map_nil->v7,mem_append->aQ,mem_map->b7,mem_singleton->aP,mem_append_left->bw,mem_append_right->bm,getElem?_append_left->cS,getElem?_append_right->cm,length_append->b8,eq_nil_of_length_eq_zero->eH,length_map->bC,getElem?_eq_some_iff->aG,mem_cons->bP,getElem?_of_mem->bB,getElem_mem->bk,map_toArray->x_,mem_cons_self->cR,mem_cons_of_mem->b_,not_mem_nil->uM,getElem?_cons_succ->cZ,mem_flatMap->bg,length_eq_one_iff->e8,getElem?_cons_zero->oQ,flatMap_cons->th,nodup_append->dr,getElem?_map->bc,nodup_cons->iz,getD_eq_getElem?_getD->cT,nil_append->fU,all_eq_true->aZ,map_map->jC,append_nil->da,cons_append->MO,length_singleton->bM,range'->oH,length_cons->cE,getElem?_eq_none->iL,append_assoc->bR,take_append_of_le_length->lG,take_length->la,singleton_append->qq,length_nil->gX,getElem?_take->dj,countP_cons->i_,range->cy,find?_eq_none->tf,find?_some->x9,length_set->cF,mem_or_eq_of_mem_set->gG,mem_filter->dh,mapM_cons->MQ,getD_cons_succ->qN
open List.cons renaming injEq->Pz
open Nat renaming lt_of_lt_of_le->gF,mul_le_mul_right->bD,add_mul->cB,add_assoc->ju,eq_of_beq_eq_true->aJ,le_refl->cD,zero_le->bT,div_lt_iff_lt_mul->sV,mod_lt->xS,div_add_mod->CX,mul_comm->yH,zero_add->bu,add_comm->gf,beq->a_,le_of_ble_eq_true->bN,add_zero->tn,blt->nk,blt_eq->uN,sub_self->Mg,lt_or_ge->rA,le_trans->c5,ble_eq_true_of_le->Db,ble->dZ,sub_zero->tp
open Option renaming some->ab,getD_some->tq,none->af
open Option.some renaming inj->aq,injEq->gJ
open Prod.mk renaming inj->bn,injEq->hZ
open _root_ renaming Nat->au,Bool->aL,List->ak,if_pos->br,if_neg->bF,absurd->bS,Array->cG,Int->ax,decide_eq_true_eq->a9,Option->ar,cond_true->aw,cond_false->aC,decide_eq_true->aE,decide_eq_false->aK,of_decide_eq_true->bU,congrArg->o6
namespace Go.FG
theorem mW{E:eh}{w:bf}{K:au->Prop}{p:Pl}{xs:aY}{el:au}{te:TI}(ht:E.ty el=ab te)(hs:p.sz=te.ks.length)(jR:∀y∈xs,y.map CV.kd=te.ks)
  (h:gq w p xs (λ_ _ u x=>ch E w K u x)) (hK:p.nil=ah->K p.blk):ch E w K (jj p) (.l el xs):=by
 cases hq:p.nil with
 |true=>rw[kK hq,(h.nil hq).1];exact .nl _ _ _
 |false=>
  rw[dK hq,h.n];obtain⟨vals,hb,J6,UE,_,hc⟩:=h.mem hq;have BX:=λi y j x (h1:xs[i]? =ab y) (h2:y[j]? =ab x)=>hc i y j x h1 h2;refine .l el xs p.blk p.off p.cap te (λi j=>(vals[p.off+i*p.sz+j]?).getD undef) ht (by rw[<-h.n];exact J6) UE (hK hq) jR (λi j y x h1 h2=> ?_) (λi j y x h1 h2=> ?_)
  ·obtain⟨u,hu,_⟩:=BX i y j x h1 h2;rw[hb.cell,<-hs,hu];rfl
  ·obtain⟨u,hu,hr⟩:=BX i y j x h1 h2;simp only[hu,tq];exact hr
theorem sR{E:eh}{w:bf}{K:au->Prop}{G:au->au->Pl}{i j:au}{u:aR}{x:CV}(h:XC E w G i j u x)(hK:p_ x=ae->(G i j).nil=ah->K (G i j).blk):ch E w K u x:=by
 cases x with
 |l e ys=>obtain⟨rfl,t,ht,hp,hs,jR,eI⟩:=h;exact mW ht hs jR (eI.frame (λ_=>rfl) (λi j y x u hi hj hr=>iH (fy hp (jR y (aD hi)) hj) hr)) (hK rfl)
 |i=>exact iH rfl h
 |b=>exact iH rfl h
 |s=>exact iH rfl h
section
variable {P:b9} {E:eh} {σ:St} {a:Act} {w:bf} {c:dJ} {o:dU} {nm:au} {e:o7}
structure C4 (E:eh) (σ:St) (w:bf) (c:dJ) (te:TI) (v:aR) (xU:aL) (xs:aY) (b:ak au) (p:Pl) (g:au->au->Pl):Prop where
 v:v=jj p
 sz:p.sz=te.ks.length
 sh:∀y∈xs,y.map CV.kd=te.ks
 at_:gq w p xs (λi j u x=>if xU=ae then XC E w g i j u x else ch E w c.K u x)
 inn:xU=ae->zL p g xs
 own:p.nil=ah->∃nm ob,nm∈b/\σ (cf nm)= .o ob/\ea c nm ob p.blk
 owni:xU=ae->∀i j,eK xs i j->(g i j).nil=ah->∃nm ob,nm∈b/\σ (cf nm)= .o ob/\ea c nm ob (g i j).blk
 kn:∀nm∈b,∃ob,σ (cf nm)= .o ob
def K1(σ:St)(c:dJ)(D:ak (au×Obj))(q:au):Prop:=c.K q\/∃n e xs ob,(n,Obj.ej e xs)∈D/\σ (cf n)= .o ob/\ea c n ob q
structure nS (E:eh) (σ:St) (w:bf) (c:dJ) (te:TI) (b:ak au) (uV:aL) (ys:aY) (D:ak (au×Obj)) (news:ak aR) (gx:au->au->Pl):Prop where
 sh:∀y∈ys,y.map CV.kd=te.ks
 cellX:uV=ae->∀(i:au) (y:ak CV) (j:au) (x:CV),ys[i]? =ab y->y[j]? =ab x->∃u:aR,news[i*te.ks.length+j]? =ab u/\XC E w gx i j u x
 cellH:uV=ah->∀(i:au) (y:ak CV) (j:au) (x:CV),ys[i]? =ab y->y[j]? =ab x->∃u:aR,news[i*te.ks.length+j]? =ab u/\ch E w (K1 σ c D) u x
 own:uV=ae->∀i j,eK ys i j->(gx i j).nil=ah->∃n ob,(n,Obj.dead)∈D/\σ (cf n)= .o ob/\ea c n ob (gx i j).blk
 one:uV=ae->∀i j i' j',eK ys i j->eK ys i' j'->(gx i j).nil=ah->(gx i' j').nil=ah->(gx i j).blk=(gx i' j').blk->i=i'/\j=j'
 D:∀n x,(n,x)∈D->n∉b/\(∃ob,σ (cf n)= .o ob)/\(x= .dead\/(uV=ah/\∃e xs,x= .ej e xs/\ch E w (K1 σ c D) (jj (c.P n)) (.l e xs)/\(c.P n).n=xs.length/\∃ti,E.ty e=ab ti/\(c.P n).sz=ti.ks.length))
theorem yY(bI:Ok E σ w c)(cU:dX E σ a w c)(hd:∀d,o.dst=ab d->d<a.tmps.size){pz el:au}{te:TI}(ht:E.ty el=ab te)(hf:σ (cf pz)= .ie)(ix:pz<900000000)
  {v:aR} {xU uV:aL} {xs ys:aY} {b:ak au} {p p':Pl} {g gx:au->au->Pl} {D2:ak (au×Obj)} {news:ak aR} {w':bf}
  (hB:C4 E σ w c te v xU xs b p g) (hM:nS E σ w c te b uV ys D2 news gx) (hA:Rp w w' p p' ys.length news) (hr:(execOp a.eval o).run P w= .ok (.value (jj p')) w'):
  e7 P E σ a w c o (lB b++(ir D2++[(cf pz,dF.o (.row el (xU&&uV) (xs++ys)))])++dw o (.v ah [.own pz])):=by
 have SU:(xU&&uV)=ae->xU=ae/\uV=true:=λh=>by simpa using h
 generalize SS:(xU&&uV)=GR at SU;let D:ak (au×Obj):=yQ b++(D2++[(pz, .row el GR (xs++ys))])
 have hD:lB b++(ir D2++[(cf pz,dF.o (.row el GR (xs++ys)))])=ir D:=by rw[wy];simp only[D,ir,fw,dW,v7]
 rw[hD];have mem:∀m x,(m,x)∈D->(m∈b/\x= .dead)\/(m,x)∈D2\/(m=pz/\x= .row el GR (xs++ys)):=by
  intro m x hm;rcases aQ.1 hm with hm|hm
  ·obtain⟨q,hq,h⟩:=b7.1 hm;cases h;exact .inl ⟨hq,rfl⟩
  ·rcases aQ.1 hm with hm|hm
   ·exact .inr (.inl hm)
   ·rw[aP]at hm;cases hm;exact .inr (.inr ⟨rfl,rfl⟩)
 have FH:∀m,m∈b->qm D m:=λm hm=>⟨.dead,bw _ (b7.2 ⟨m,hm,rfl⟩)⟩
 have JU:∀m x,(m,x)∈D2->qm D m:=λm x hm=>⟨x,bm _ (bw _ hm)⟩
 have VS:qm D pz:=⟨_,bm _ (bm _ (aP.2 rfl))⟩
 have F1:p'.nil=ah->p'.blk=w.heap.size\/∃m ob,m∈b/\σ (cf m)= .o ob/\ea c m ob p'.blk:=by
  intro hn;rcases hA.blk hn with ⟨h1,h2⟩|h
  ·rw[h2];exact .inr (hB.own h1)
  ·exact .inl h
 have YT:∀n x ob q,(n,x)∈D2->σ (cf n)= .o ob->ea c n ob q->¬(p'.nil=ah/\q=p'.blk):=by
  rintro n x ob q hx j4 mR ⟨hn,rfl⟩;have NI:=rI.lt bI ⟨n,ob,j4,mR⟩;rcases F1 hn with h|⟨m,ob',h1,h2,h3⟩
  ·omega
  ·have:=bI.sep n ob m ob' _ j4 h2 mR h3;subst this;exact(hM.D n x hx).1 h1
 have Kne:∀q,c.K q->¬(p'.nil=ah/\q=p'.blk):=by
  rintro q hq ⟨hn,rfl⟩;have NI:=bI.lt _ hq;rcases F1 hn with h|⟨m,ob',h1,h2,h3⟩
  ·omega
  ·exact bI.kk m ob' _ h2 h3 hq
 have Gne:xU=ae->∀i j,eK xs i j->(g i j).nil=ah->¬(p'.nil=ah/\(g i j).blk=p'.blk):=by
  rintro hx i j hh hn ⟨iC,he⟩;obtain⟨m,ob,q1,q2,q3⟩:=hB.owni hx i j hh hn;have NI:=rI.lt bI ⟨m,ob,q2,q3⟩;rcases hA.blk iC with ⟨h1,h2⟩|h
  ·exact(hB.inn hx).out i j hh hn h1 (he.trans h2)
  ·omega
 let K':au->Prop:=λq=>c.K q\/(GR=ah/\ig (qm D) σ c q/\¬(p'.nil=ah/\q=p'.blk))
 have Vk:∀q,K' q->q<w.heap.size:=by
  rintro q (h|⟨_,h,_⟩)
  ·exact bI.lt q h
  ·exact rI.lt bI h.own
 have Vl:∀q,K' q->¬(p'.nil=ah/\q=p'.blk):=by
  rintro q (h|⟨_,_,h⟩)
  ·exact Kne q h
  ·exact h
 have F3:∀q,K' q->w'.heap[q]? =w.heap[q]? :=λq hq=>hA.old q (Vk q hq) (λhn he=>Vl q hq ⟨hn,he⟩);have F4:GR=ah->∀q,K1 σ c D2 q->K' q:=by
  rintro hR q (h|⟨n,e',zs,ob,h1,h2,h3⟩)
  ·exact .inl h
  ·exact .inr ⟨hR,⟨n,ob,JU n _ h1,h2,h3⟩,YT n _ ob q h1 h2 h3⟩
 have F5:GR=ah->xU=ae->∀i j,eK xs i j->(g i j).nil=ah->K' (g i j).blk:=by intro hR hx i j hh hn;obtain⟨m,ob,q1,q2,q3⟩:=hB.owni hx i j hh hn;exact .inr ⟨hR,⟨m,ob,FH m q1,q2,q3⟩,Gne hx i j hh hn⟩
 have F6:GR=ah->uV=ae->∀i j,eK ys i j->(gx i j).nil=ah->K' (gx i j).blk:=by intro hR hx i j hh hn;obtain⟨n,ob,q1,q2,q3⟩:=hM.own hx i j hh hn;exact .inr ⟨hR,⟨n,ob,JU n _ q1,q2,q3⟩,YT n _ ob _ q1 q2 q3⟩
 let G':au->au->Pl:=λi j=>if i<xs.length then g i j else gx (i-xs.length) j
 have Vf:∀i j,i<xs.length->G' i j=g i j:=λi j h=>br h;have Vg:∀i j,¬i<xs.length->G' i j=gx (i-xs.length) j:=λi j h=>bF h;have Kh:∀i j,i<xs.length->eK (xs++ys) i j->eK xs i j:=by rintro i j hi ⟨y,x,h1,h2,h3⟩;rw[cS hi]at h1;exact⟨y,x,h1,h2,h3⟩
 have NV:∀i j,¬i<xs.length->eK (xs++ys) i j->eK ys (i-xs.length) j:=by rintro i j hi ⟨y,x,h1,h2,h3⟩;rw[cm (by omega)]at h1;exact⟨y,x,h1,h2,h3⟩
 let c':dJ:=⟨λm=>if m=pz then p' else c.P m,λm=>if m=pz then G' else c.G m,K'⟩
 have hP:c'.P pz=p':=br rfl;have hG:c'.G pz=G':=br rfl;have Y9:gO σ c c':=λm hm=>by
  have:m≠pz:=by rintro rfl;rcases hm with h|h;exact h hf;omega
  exact⟨bF this,bF this⟩
 have WH:GR=ae->∀i j,eK (xs++ys) i j->(G' i j).nil=ah->¬(p'.nil=ah/\(G' i j).blk=p'.blk)/\ig (qm D) σ c (G' i j).blk:=by
  intro hR i j hh hn;obtain⟨r1,r2⟩:=SU hR;by_cases hi:i<xs.length
  ·rw[Vf i j hi]at hn⊢;obtain⟨m,ob,q1,q2,q3⟩:=hB.owni r1 i j (Kh i j hi hh) hn;exact⟨Gne r1 i j (Kh i j hi hh) hn,m,ob,FH m q1,q2,q3⟩
  ·rw[Vg i j hi]at hn⊢;obtain⟨n,ob,q1,q2,q3⟩:=hM.own r2 _ j (NV i j hi hh) hn;exact⟨YT n _ ob _ q1 q2 q3,n,ob,JU n _ q1,q2,q3⟩
 have hlen:∀y∈xs++ys,y.map CV.kd=te.ks:=λy hy=>(aQ.1 hy).elim (hB.sh y) (hM.sh y);refine DN bI cU hd (D:=D) (c':=c') (w':=w') Y9 ?_ ?_ ?_ ?_ (λq h=> .inl h) ?_ (λq hq=>gF (Vk q hq) hA.size) ?_ hA.size hA.os hA.tape hA.output ?_ ?_ hr
 ·intro m x hm;rcases mem m x hm with ⟨_,rfl⟩|NC|⟨rfl,rfl⟩
  ·trivial
  ·obtain⟨_,⟨ob,j4⟩,hx⟩:=hM.D m x NC;rcases hx with rfl|⟨Mq,e',zs,rfl,q1,q2,q3⟩
   ·trivial
   ·have hR:GR=false:=by rw[<-SS,Mq];simp
    obtain⟨a1,a2⟩:=Y9 m (.inl (by rw[j4];simp));show ch E w' K' (jj (c'.P m)) _/\(c'.P m).n=_/\_;rw[a1];exact⟨q1.frame (λq hq=>F3 q (F4 hR q hq)) (F4 hR),q2,q3⟩
  ·refine⟨⟨te,ht,by rw[hP,hA.sz];exact hB.sz,hlen⟩, ?_,λhR=> ?_⟩
   ·rw[hP,hG];refine⟨by rw[hA.n,hB.at_.n,b8],λhn=> ?_,λhn=> ?_⟩
    ·obtain⟨n1,n2,n3⟩:=hA.nil hn;refine⟨?_,n1⟩
     have e1:xs.length=0:=by rw[<-hB.at_.n];exact n2
     rw[eH e1,eH n3];rfl
    ·obtain⟨gh,m1,m2,m3,m4,m5,m6⟩:=hA.mem hn;refine⟨gh,m1,m2,m3,m4,λi y j x hy hx=> ?_⟩
     have hj:j<te.ks.length:=by rw[<-hlen y (aD hy),bC];exact(aG.1 hx).1
     by_cases hi:i<xs.length
     ·rw[cS hi]at hy;have hpn:p.nil=false:=by
       cases hq:p.nil with
       |false=>rfl
       |true=>have:=(hB.at_.nil hq).1;subst this;simp at hi
      obtain⟨vals,k1,k2,k3,k4,k5⟩:=hB.at_.mem hpn;obtain⟨u,hu,hR⟩:=k5 i y j x hy hx;have hk:i*p.sz+j<p.n*p.sz:=by have:(i+1)*p.sz<=p.n*p.sz:=bD _ (by rw[hB.at_.n];exact hi);rw[cB]at this;rw[hB.sz]at this⊢;omega
      refine⟨u, ?_, ?_⟩
      ·rw[hA.sz,ju];refine m5 _ u hk ?_;rw[k1.cell,<-ju];exact hu
      ·cases UK:xU with
       |true=>
        rw[UK,br rfl]at hR;cases NQ:GR with
        |true=>
         rw[br rfl];have Ih:XC E w' g i j u x:=hR.frame (λhl iC=>hA.old _ (by obtain⟨m,ob,_,q2,q3⟩:=hB.owni UK i j ⟨y,x,hy,hx,hl⟩ iC;exact rI.lt bI ⟨m,ob,q2,q3⟩) (λS_ he=>Gne UK i j ⟨y,x,hy,hx,hl⟩ iC ⟨S_,he⟩));cases x with
         |l e1 z1=>simpa only[XC,Vf i j hi]using Ih
         |_=>exact Ih
        |false=>rw[bF (by simp)];have:=sR (K:=K') hR (λhl iC=>F5 NQ UK i j ⟨y,x,hy,hx,hl⟩ iC);exact this.frame F3 (λ_ h=>h)
       |false=>
        have NQ:GR=false:=by rw[<-SS,UK];rfl
        rw[UK,bF (by simp)]at hR;rw[NQ,bF (by simp)];exact hR.frame (λq hq=>F3 q (.inl hq)) (λq hq=> .inl hq)
     ·rw[cm (by omega)]at hy;have B_:i-xs.length<ys.length:=(aG.1 hy).1;have hk:(i-xs.length)*p.sz+j<ys.length*p.sz:=by have:(i-xs.length+1)*p.sz<=ys.length*p.sz:=bD _ B_;rw[cB]at this;rw[hB.sz]at this⊢;omega
      have abI:p'.off+i*p'.sz+j=p'.off+p.n*p.sz+((i-xs.length)*p.sz+j):=by
       rw[hA.sz,hB.at_.n];have:i*p.sz=xs.length*p.sz+(i-xs.length)*p.sz:=by rw[<-cB];congr 1;omega
       omega
      have got:∀u,news[(i-xs.length)*te.ks.length+j]? =ab u->gh[p'.off+i*p'.sz+j]? =ab u:=λu hu=>by rw[abI,m6 _ hk,hB.sz];exact hu
      cases Mq:uV with
      |true=>
       obtain⟨u,hu,hX⟩:=hM.cellX Mq _ y j x hy hx;refine⟨u,got u hu, ?_⟩
       cases NQ:GR with
       |true=>
        rw[br rfl];have Ih:XC E w' gx (i-xs.length) j u x:=hX.frame (λhl iC=>hA.old _ (by obtain⟨n,ob,_,q2,q3⟩:=hM.own Mq _ j ⟨y,x,hy,hx,hl⟩ iC;exact rI.lt bI ⟨n,ob,q2,q3⟩) (λS_ he=>by obtain⟨n,ob,q1,q2,q3⟩:=hM.own Mq _ j ⟨y,x,hy,hx,hl⟩ iC;exact YT n _ ob _ q1 q2 q3 ⟨S_,he⟩));cases x with
        |l e1 z1=>simpa only[XC,Vg i j hi]using Ih
        |_=>exact Ih
       |false=>rw[bF (by simp)];have:=sR (K:=K') hX (λhl iC=>F6 NQ Mq _ j ⟨y,x,hy,hx,hl⟩ iC);exact this.frame F3 (λ_ h=>h)
      |false=>
       have NQ:GR=false:=by rw[<-SS,Mq];simp
       obtain⟨u,hu,hH⟩:=hM.cellH Mq _ y j x hy hx;refine⟨u,got u hu, ?_⟩
       rw[NQ,bF (by simp)];exact hH.frame (λq hq=>F3 q (F4 NQ q hq)) (F4 NQ)
   ·rw[hP,hG];refine⟨λi j hh hn hpn he=>(WH hR i j hh hn).1 ⟨hpn,he⟩,λi j i' j' hh uY hn iC he=> ?_⟩
    obtain⟨r1,r2⟩:=SU hR;have PU:∀i j i' j',i<xs.length->¬i'<xs.length->eK (xs++ys) i j->eK (xs++ys) i' j'->(G' i j).nil=ah->(G' i' j').nil=ah->(G' i j).blk≠(G' i' j').blk:=by intro i j i' j' hi jw hh uY hn iC he;rw[Vf i j hi]at hn he;rw[Vg i' j' jw]at iC he;obtain⟨m,ob,q1,q2,q3⟩:=hB.owni r1 i j (Kh i j hi hh) hn;obtain⟨n,ob',s1,s2,s3⟩:=hM.own r2 _ j' (NV i' j' jw uY) iC;rw[he]at q3;have:=bI.sep m ob n ob' _ q2 s2 q3 s3;subst this;exact(hM.D m _ s1).1 q1
    by_cases hi:i<xs.length
    ·by_cases jw:i'<xs.length
     ·rw[Vf i j hi]at hn he;rw[Vf i' j' jw]at iC he;exact(hB.inn r1).one i j i' j' (Kh i j hi hh) (Kh i' j' jw uY) hn iC he
     ·exact bS he (PU i j i' j' hi jw hh uY hn iC)
    ·by_cases jw:i'<xs.length
     ·exact bS he.symm (PU i' j' i j jw hi uY hh iC hn)
     ·rw[Vg i j hi]at hn he;rw[Vg i' j' jw]at iC he;have:=hM.one r2 _ j _ j' (NV i j hi hh) (NV i' j' jw uY) hn iC he;exact⟨by omega,this.2⟩
 ·intro m x q hm mR;rcases mem m x hm with ⟨_,rfl⟩|NC|⟨rfl,rfl⟩
  ·exact mR.elim
  ·obtain⟨_,_,hx⟩:=hM.D m x NC;rcases hx with rfl|⟨_,e',zs,rfl,_⟩
   ·exact mR.elim
   ·exact mR.elim
  ·rcases mR with ⟨hn,rfl⟩|⟨hR,i,j,hh,hn,rfl⟩
   ·rw[hP]at hn⊢;refine⟨?_,λhk=>Vl _ hk ⟨hn,rfl⟩⟩
    rcases F1 hn with h|⟨m,ob,h1,h2,h3⟩
    ·right;omega
    ·exact .inl ⟨m,ob,FH m h1,h2,h3⟩
   ·rw[hG]at hn⊢;obtain⟨q1,q2⟩:=WH hR i j hh hn;refine⟨.inl q2, ?_⟩
    rintro (h|⟨h,_⟩)
    ·exact bI.Cq q2.own h
    ·rw[hR]at h;cases h
 ·intro m x m' x' q hm sc mR JZ;have only:∀m x,(m,x)∈D->ea c' m x q->m=pz:=by
   intro m x hm mR;rcases mem m x hm with ⟨_,rfl⟩|NC|⟨rfl,rfl⟩
   ·exact mR.elim
   ·obtain⟨_,_,hx⟩:=hM.D m x NC;rcases hx with rfl|⟨_,e',zs,rfl,_⟩
    ·exact mR.elim
    ·exact mR.elim
   ·rfl
  rw[only m x hm mR,only m' x' sc JZ]
 ·intro m zs hm;rcases mem m _ hm with ⟨_,h⟩|NC|⟨_,h⟩
  ·cases h
  ·obtain⟨_,_,hx⟩:=hM.D m _ NC;rcases hx with h|⟨_,e',zs,h,_⟩<;>cases h
  ·cases h
 ·rintro q (h|⟨_,h,_⟩)
  ·exact .inl h
  ·exact .inr (.inl h)
 ·intro q hq ND;refine hA.old q hq (λhn he=>ND ?_);rcases F1 hn with h|⟨m,ob,h1,h2,h3⟩
  ·omega
  ·rw[he];exact⟨m,ob,FH m h1,h2,h3⟩
 ·show _=jj (c'.P pz);rw[hP]
 ·intro m hm;have:m=pz:=by simpa [bO,bh]using hm
  subst this;exact .inr VS
end
end Go.FG

namespace Go.FG
theorem Cg:∀{l:ak au} {n:au},n∈l->jO n l=true:=by
 intro l;induction l with
 |nil=>intro n h;cases h
 |cons m r ih=>
  intro n h;rcases bP.1 h with rfl|h
  ·simp[jO]
  ·simp only[jO,ih h,Rr]
theorem ng{l:ak au}{n:au}(h:jO n l=ah):n∉l:=λhm=>by rw[Cg hm]at h;cases h
theorem ch.one{E:eh}{w:bf}{K:au->Prop}{u:aR}{x:CV}(h:ch E w K u x):u.oneCell'=true:=by cases h<;>rfl
theorem Nz(p:Pl):(jj p).oneCell'=true:=by unfold jj;split<;>rfl
theorem XC.one{E:eh}{w:bf}{G:au->au->Pl}{i j:au}{u:aR}{x:CV}(h:XC E w G i j u x):u.oneCell'=true:=by
 cases x with
 |l e ys=>rw[h.1];exact Nz _
 |i=>rw[show u=_ from h.1];rfl
 |b=>rw[show u=_ from h.1];rfl
 |s=>rw[show u=_ from h.1];rfl
theorem CK{x:CV}:(HH x).oneCell'=true:=by cases x<;>rfl
theorem rU{α:Type}{b:aL}{x y:Rd α}(h:b=ae):(bif b then x else y)=x:=by rw[h];rfl
theorem yO{α:Type}{b:aL}{x y:Rd α}(h:b=ah):(bif b then x else y)=y:=by rw[h];rfl
theorem oY{α β γ:Type}{σ:St}{a x:α}{b y:β}{c z:γ}(h:(Rd.ret (a,b,c)).val σ=ab (x,y,z)):a=x/\b=y/\c=z:=by obtain⟨h1,h2⟩:=bn (aq h);obtain⟨h2,h3⟩:=bn h2;exact⟨h1,h2,h3⟩
section
variable {P:b9} {E:eh} {σ:St} {a:Act} {w:bf} {c:dJ} {o:dU} {nm:au} {e:o7}
theorem wk(bI:Ok E σ w c){el:au}{te:TI}(ht:E.ty el=ab te){s:AV}{v:aR}(hs:dz E w c s v){xU:aL}{xs:aY}{b:ak au}(h:(rT el s).val σ=ab (xU,xs,b)):
  ∃p g,C4 E σ w c te v xU xs b p g:=by
 have W6:∀b,(∀m∈b,∃ob,σ (cf m)= .o ob)->v= .slice af 0 0->∀xU,C4 E σ w c te v xU [] b ⟨ae,0,0,0,0,te.ks.length⟩ (D7 E te.ks):=λb hb hv xU=>
  ⟨hv,rfl,λy hy=>(by cases hy),⟨rfl,λ_=>⟨rfl,rfl⟩,λh=>(by cases h)⟩,λ_=>q_ (λ_ _=>rfl),λh=>(by cases h),λ_ i j ⟨y,x,h,_⟩=>(by simp at h),hb⟩
 cases s with
 |nl=>obtain⟨rfl,rfl,rfl⟩:=oY h;exact⟨_,_,W6 [] (λm hm=>by cases hm) hs ae⟩
 |own n=>
  obtain⟨ob,hg,h⟩:=Rd.bind_some h;have hg:=cM hg;cases ob with
  |row e' ex ys=>obtain⟨h1,h9⟩:=bQ h;have:=aJ h1;subst this;have h:=h9;obtain⟨rfl,rfl,rfl⟩:=oY h;obtain⟨⟨t2,q1,q2,q3⟩,q4,q5⟩:=bI.obj n _ hg;obtain rfl:te=t2:=aq (ht.symm.trans q1);exact⟨c.P n,c.G n,hs,q2,q3,q4,q5,λhn=>⟨n,_,by simp,hg, .inl ⟨hn,rfl⟩⟩,λhx i j hh hn=>⟨n,_,by simp,hg, .inr ⟨hx,i,j,hh,hn,rfl⟩⟩,λm hm=>by rw[aP]at hm;subst hm;exact⟨_,hg⟩⟩
  |_=>simp at h
 |vw n lo hi=>
  obtain⟨ob,hg,h⟩:=Rd.bind_some h;have hg:=cM hg;cases ob with
  |row e' ex ys=>
   obtain⟨h1,h9⟩:=bQ h;have:=aJ h1;subst this;have h:=h9;obtain⟨rfl,rfl,rfl⟩:=oY h;obtain⟨⟨t2,q1,q2,q3⟩,q4,q5⟩:=bI.obj n _ hg;obtain rfl:te=t2:=aq (ht.symm.trans q1);obtain⟨v1,v2,v3,v4⟩:=hs;have hle:hi<=ys.length:=by rw[<-q4.n];exact v2
   have hvl:=jK (xs:=ys) (lo:=lo) hle;have hb:∀m∈[n],∃ob,σ (cf m)= .o ob:=λm hm=>by rw[aP]at hm;subst hm;exact⟨_,hg⟩
   cases hq:(c.P n).nil with
   |true=>
    have hy:=(q4.nil hq).1;subst hy;have Ig:dM ([]:aY) lo hi=[]:=by unfold dM;simp
    rw[Ig];exact⟨_,_,W6 [n] hb (v3 hq) ex⟩
   |false=>
    obtain⟨vals,k1,k2,k3,k4,k5⟩:=q4.mem hq;rcases v4 hq with ⟨u1,hv⟩|⟨u1,oo,u2,hv⟩
    ·have NU:∀i j,eK (dM ys lo hi) i j->eK ys (lo+i) j:=by
      rintro i j ⟨y,x,h1,h2,h3⟩;rw[pO]at h1;split at h1
      ·exact⟨y,x,h1,h2,h3⟩
      ·cases h1
     refine⟨⟨ah,(c.P n).blk,(c.P n).off+lo*(c.P n).sz,(c.P n).cap-lo,hi-lo,(c.P n).sz⟩,λi j=>c.G n (lo+i) j,hv,q2,λy hy=>q3 y (wX hy),⟨hvl.symm,λh=>(by cases h),λ_=>⟨vals,k1,by show hi-lo<=(c.P n).cap-lo;omega,by show(c.P n).cap-lo<=maxLen;omega, ?_,λi y j x h1 h2=> ?_⟩⟩,λhx=>⟨λi j hh hn _=>(q5 hx).out _ j (NU i j hh) hn hq,λi j i' j' hh uY hn iC he=> ?_⟩,λ_=>⟨n,_,by simp,hg, .inl ⟨hq,rfl⟩⟩,λhx i j hh hn=>⟨n,_,by simp,hg, .inr ⟨hx,lo+i,j,NU i j hh,hn,rfl⟩⟩,hb⟩
     ·show(c.P n).off+lo*(c.P n).sz+((c.P n).cap-lo)*(c.P n).sz<=vals.size;have:lo*(c.P n).sz+((c.P n).cap-lo)*(c.P n).sz=(c.P n).cap*(c.P n).sz:=by rw[<-cB];congr 1;omega
      omega
     ·rw[pO]at h1;split at h1
      ·obtain⟨u,hu,hr⟩:=k5 (lo+i) y j x h1 h2;refine⟨u, ?_, ?_⟩
       ·show vals[(c.P n).off+lo*(c.P n).sz+i*(c.P n).sz+j]? =ab u;rw[<-hu];congr 1;rw[cB];omega
       ·split at hr
        ·rename_i hx;rw[br hx];cases x with
         |l e1 z1=>exact hr
         |_=>exact hr
        ·rename_i hx;rw[bF hx];exact hr
      ·cases h1
     ·have:=(q5 hx).one _ j _ j' (NU i j hh) (NU i' j' uY) hn iC he;exact⟨by omega,this.2⟩
    ·have h0:hi-lo=0:=by omega
     have Ig:dM ys lo hi=[]:=eH (hvl.trans h0);rw[Ig];exact⟨⟨ah,(c.P n).blk,oo,0,0,(c.P n).sz⟩,D7 E te.ks,hv,q2,λy hy=>(by cases hy),⟨rfl,λh=>(by cases h),λ_=>⟨vals,k1,cD _,bT _,by show oo+0*(c.P n).sz<=vals.size;rw[Nat.zero_mul];omega,λi y j x h=>(by simp at h)⟩⟩,λ_=>q_ (λ_ _=>rfl),λ_=>⟨n,_,by simp,hg, .inl ⟨hq,rfl⟩⟩,λ_ i j ⟨y,x,h,_⟩=>(by simp at h),hb⟩
  |_=>simp at h
 |_=>simp[rT]at h
theorem n5{u:au}(hu:(∃e',P.underlying u=ab (.slice e'))\/P.underlying u=ab .string){z:cG aR}{v:aR}{ys:aY}{ks:ak Ck}(iP:0<ks.length){R:au->au->aR->CV->Prop}(hs:lz w v ys ks.length R)(jR:∀y∈ys,y.map CV.kd=ks)(h1:∀i j u x,R i j u x->u.oneCell'=ae):
  ∃news,App P w u v z ks.length ys.length news/\∀(i:au) (y:ak CV) (j:au) (x:CV),ys[i]? =ab y->y[j]? =ab x->∃u:aR,news[i*ks.length+j]? =ab u/\R i j u x:=by
 have hl:∀y∈ys,y.length=ks.length:=λy hy=>by rw[<-jR y hy];simp
 obtain⟨A,cp,news,rfl,n1,n2,n3⟩:=hs.list hl;have first:∀W:bf,(∀q,W.cell? q=w.cell? q)->(dS ks.length ys.length (.slice A ys.length cp)).run P W= .ok news.toArray W:=by
  intro W hW;rcases n2 with h|⟨b,oo,rfl,h⟩
  ·subst h;have hn:news=[]:=eH (by rw[n1];simp);subst hn;cases A with
   |none=>exact run_firstCells_none _ _ _ _ _
   |some a=>exact run_firstCells_some W ks.length 0 a _ _ [] (by simp) (λj v hj=>by simp at hj)
  ·exact run_firstCells_some W ks.length ys.length _ _ _ news n1 (λj v hj=>by rw[hW,Addr.ld];exact h j v hj)
 refine⟨news,⟨.inl ⟨hu,by simp[mz],first w (λ_=>rfl),first w.drew (λ_=>rfl)⟩,n1,λv hv=> ?_⟩,n3⟩
 obtain⟨q,hq⟩:=bB hv;have NI:q<ys.length*ks.length:=by rw[<-n1];exact(aG.1 hq).1
 have hi:q/ks.length<ys.length:=by rw[sV iP];exact NI
 have hj:q%ks.length<ys[q/ks.length].length:=by rw[hl _ (bk hi)];exact xS _ iP
 obtain⟨u',oK,hr⟩:=n3 (q/ks.length) ys[q/ks.length] (q%ks.length) (ys[q/ks.length][q%ks.length]) (by simp[hi]) (by simp[hj]);have:q/ks.length*ks.length+q%ks.length=q:=by have:=CX q ks.length;rw[yH]at this;exact this
 rw[this,hq]at oK;cases oK;exact h1 _ _ _ _ hr
theorem KE(hE:dv P E)(bI:Ok E σ w c){pz el:au}{te:TI}(ht:E.ty el=ab te)(iP:0<te.ks.length){u:au}(hu:(∃e',P.underlying u=ab (.slice e'))\/P.underlying u=ab .string){z:cG aR}{b:ak au}{x:AV}{v:aR}(hx:dz E w c x v)
  {uV:aL} {ys:aY} {w2:ak (au×dF)} (h:(KD E pz el te.ks b x).val σ=ab (uV,ys,w2)):
  ∃D news gx,w2=ir D/\App P w u v z te.ks.length ys.length news/\nS E σ w c te b uV ys D news gx:=by
 have inK:∀D q,c.K q->K1 σ c D q:=λD q h=> .inl h;have PL:plain te.ks=ae->∀ys,lz w v ys te.ks.length (λ_ _ u x=>Sc u x)->(∀y∈ys,y.map CV.kd=te.ks)->∃D news gx,([]:ak (au×dF))=ir D/\App P w u v z te.ks.length ys.length news/\nS E σ w c te b ae ys D news gx:=by
  intro hp ys hs jR;obtain⟨news,n1,n2⟩:=n5 (P:=P) (z:=z) hu iP hs jR (λi j u x hr=>by rw[hr.1];exact CK);refine⟨[],news,λ_ _=>⟨ae,0,0,0,0,0⟩,rfl,n1,jR,λ_ i y j x hy hx=> ?_,λh=>(by cases h),λ_ i j _ hn=>(by cases hn),λ_ i j _ _ _ _ hn=>(by cases hn),λn x hn=>(by cases hn)⟩
  obtain⟨u,hu,hr⟩:=n2 i y j x hy hx;exact⟨_,hu,qg (fy hp (jR y (aD hy)) hx) hr⟩
 have YZ:plain te.ks=ae->∀ys,(jM E x).val σ=ab (el,ys)->∃D news gx,([]:ak (au×dF))=ir D/\App P w u v z te.ks.length ys.length news/\nS E σ w c te b ae ys D news gx:=by intro hp ys hr;obtain⟨q1,q2,_⟩:=uI bI hx hr ht hp;exact PL hp ys q1 q2
 have SH:∀ys,lz w v ys te.ks.length (λ_ _ u x=>ch E w c.K u x)->(∀y∈ys,y.map CV.kd=te.ks)->∃D news gx,([]:ak (au×dF))=ir D/\App P w u v z te.ks.length ys.length news/\nS E σ w c te b ah ys D news gx:=by
  intro ys hs jR;obtain⟨news,n1,n2⟩:=n5 (P:=P) (z:=z) hu iP hs jR (λi j u x hr=>hr.one);refine⟨[],news,λ_ _=>⟨ae,0,0,0,0,0⟩,rfl,n1,jR,λh=>(by cases h),λ_ i y j x hy hx=> ?_,λh=>(by cases h),λh=>(by cases h),λn x hn=>(by cases hn)⟩
  obtain⟨u,hu,hr⟩:=n2 i y j x hy hx;exact⟨_,hu,hr.frame (λ_ _=>rfl) (inK [])⟩
 have SHv:∀ys,ch E w c.K v (.l el ys)->∃D news gx,([]:ak (au×dF))=ir D/\App P w u v z te.ks.length ys.length news/\nS E σ w c te b ah ys D news gx:=by intro ys hh;obtain⟨q1,q2⟩:=ud ht hh;exact SH ys q1 q2
 have HP:∀ys,ch E w c.K v (.l el ys)->(jM E x).val σ=ab (el,ys)->∃D news gx,([]:ak (au×dF))=ir D/\App P w u v z te.ks.length ys.length news/\nS E σ w c te b (plain te.ks) ys D news gx:=by
  intro ys hh hr;cases hp:plain te.ks with
  |true=>exact YZ hp ys hr
  |false=>exact SHv ys hh
 have FZ:∀n xs lo hi,σ (cf n)= .o (.row el ae xs)->n∉b->rS (c.P n) lo hi v->∃D news gx,[(cf n,dF.o (.ej el xs))]=ir D/\App P w u v z te.ks.length (dM xs lo hi).length news/\nS E σ w c te b ah (dM xs lo hi) D news gx:=by
  intro n xs lo hi hg DU hv;obtain⟨⟨t2,q1,q2,q3⟩,q4,q5⟩:=bI.obj n _ hg;obtain rfl:te=t2:=aq (ht.symm.trans q1);obtain⟨t3,r1,r2,r3⟩:=sC bI hg hv;obtain rfl:te=t3:=aq (ht.symm.trans r1);let D:ak (au×Obj):=[(n, .ej el xs)]
  have WZ:∀i j,eK xs i j->(c.G n i j).nil=ah->K1 σ c D (c.G n i j).blk:=λi j hh hn=> .inr ⟨n,el,xs,_,aP.2 rfl,hg, .inr ⟨rfl,i,j,hh,hn,rfl⟩⟩;have eI:gq w (c.P n) xs (λ_ _ u x=>ch E w (K1 σ c D) u x):=q4.frame (λ_=>rfl) (λi j y x u hy hx hr=>by rw[br rfl]at hr;exact sR hr (λhl hn=>WZ i j ⟨y,x,hy,hx,hl⟩ hn));have ym:lz w v (dM xs lo hi) te.ks.length (λ_ _ u x=>ch E w (K1 σ c D) u x):=by have:=Ew eI hv;rwa[q2]at this
  obtain⟨news,n1,n2⟩:=n5 (P:=P) (z:=z) hu iP ym r2 (λi j u x hr=>hr.one);refine⟨D,news,λ_ _=>⟨ae,0,0,0,0,0⟩,rfl,n1,r2,λh=>(by cases h),λ_=>n2,λh=>(by cases h),λh=>(by cases h),λm y hm=> ?_⟩
  rw[aP]at hm;cases hm;exact⟨DU,⟨_,hg⟩, .inr ⟨rfl,el,xs,rfl,mW ht q2 q3 eI (λhn=> .inr ⟨n,el,xs,_,aP.2 rfl,hg, .inl ⟨hn,rfl⟩⟩),q4.n,te,ht,q2⟩⟩
 cases x with
 |s s=>
  obtain⟨h1,h⟩:=bQ h;obtain⟨rfl,rfl,rfl⟩:=oY h;have hk:te.ks=[.i .u8]:=by
   unfold Ua at h1;split at h1
   ·assumption
   ·cases h1
  have hv:v= .string s:=hx.1;subst hv;refine⟨[],(s.data.map λb=>Vi .u8 b.toNat).toList,λ_ _=>⟨ae,0,0,0,0,0⟩,rfl,⟨.inl ⟨hu, ?_, ?_, ?_⟩, ?_, ?_⟩,by rw[hk];exact CA s,λ_ i y j x hy hx=> ?_,λh=>(by cases h),λ_ i j _ hn=>(by cases hn),λ_ i j _ _ _ _ hn=>(by cases hn),λn x hn=>(by cases hn)⟩
  ·simp[mz,jy]
  ·simp[dS,jy];apply oO;simp
  ·simp[dS,jy];apply oO;simp
  ·rw[hk,jy];simp
  ·intro v hv;have hv:∃b,b∈s.data/\Vi aU (b.toNat:ax)=v:=by simpa using hv
   obtain⟨b,_,rfl⟩:=hv;rfl
  ·obtain⟨rfl,b,hb,rfl⟩:=AU hy hx;refine⟨.int .u8 b.toNat, ?_,rfl,trivial⟩
   rw[hk];simp[hb]
 |nl=>obtain⟨rfl,rfl,rfl⟩:=oY h;have hv:v= .slice af 0 0:=hx;subst hv;refine⟨[],[],λ_ _=>⟨ae,0,0,0,0,0⟩,rfl,⟨.inl ⟨hu,by simp[mz],run_firstCells_none _ _ _ _ _,run_firstCells_none _ _ _ _ _⟩,by simp,λv hv=>(by cases hv)⟩,λy hy=>(by cases hy),λ_ i y j x hy=>(by simp at hy),λh=>(by cases h),λ_ i j _ hn=>(by cases hn),λ_ i j _ _ _ _ hn=>(by cases hn),λn x hn=>(by cases hn)⟩
 |sh e' xs=>obtain⟨h1,h9⟩:=bQ h;have:=aJ h1;subst this;have h:=h9;obtain⟨rfl,rfl,rfl⟩:=oY h;exact HP xs hx rfl
 |own n=>
  obtain⟨ob,hg,h⟩:=Rd.bind_some h;have hg:=cM hg;have hv:v=jj (c.P n):=hx;cases ob with
  |row e' ex xs=>
   obtain⟨h1,h9⟩:=bQ h;have:=aJ h1;subst this;have h:=h9;have FM:(jM E (.own n)).val σ=ab (el,xs):=by simp[jM,gV,hg]
   have hvw:rS (c.P n) 0 xs.length v:=by rw[hv];exact ru bI hg
   cases hp:plain te.ks with
   |true=>rw[rU (by rw[hp];rfl)]at h;obtain⟨rfl,rfl,rfl⟩:=oY h;rw[hp];exact YZ hp xs FM
   |false=>
    cases ex with
    |false=>rw[rU (by simp)]at h;obtain⟨rfl,rfl,rfl⟩:=oY h;rw[hp];obtain⟨t3,r1,r2,r3⟩:=sC bI hg hvw;obtain rfl:te=t3:=aq (ht.symm.trans r1);rw[nI]at r2 r3;exact SH xs (r3.imp λi y j x u _ _ hr=>by simpa using hr) r2
    |true=>
     rw[yO (by rw[hp];rfl)]at h;cases hm:jO n b with
     |true=>rw[hm]at h;simp at h
     |false=>
      have DU:=ng hm;rw[hm]at h;cases Aw:E.tk pz with
      |true=>rw[Aw]at h;obtain⟨rfl,rfl,rfl⟩:=oY h;have:=FZ n xs 0 xs.length hg DU hvw;rwa[nI]at this
      |false=>
       rw[Aw]at h;obtain⟨rfl,rfl,rfl⟩:=oY h;obtain⟨t3,r1,r2,r3⟩:=sC bI hg hvw;obtain rfl:te=t3:=aq (ht.symm.trans r1);rw[nI]at r2 r3;have r3':=r3.imp (R':=λi j u x=>XC E w (c.G n) i j u x) (λi y j x u _ _ hr=>by rw[br rfl,bu]at hr;exact hr);obtain⟨news,n1,n2⟩:=n5 (P:=P) (z:=z) hu iP r3' r2 (λi j u x hr=>hr.one);refine⟨[(n, .dead)],news,c.G n,rfl,n1,r2,λ_=>n2,λh=>(by cases h),λ_ i j hh hn=>⟨n,_,aP.2 rfl,hg, .inr ⟨rfl,i,j,hh,hn,rfl⟩⟩,λ_=>((bI.obj n _ hg).inn rfl).one,λm y hm=> ?_⟩
       rw[aP]at hm;cases hm;exact⟨DU,⟨_,hg⟩, .inl rfl⟩
  |ej e' xs=>obtain⟨h1,h9⟩:=bQ h;have:=aJ h1;subst this;have h:=h9;obtain⟨rfl,rfl,rfl⟩:=oY h;refine HP xs ?_ (by simp[jM,gV,hg]);rw[hv];exact(bI.obj n _ hg).1
  |_=>simp at h
 |vw n lo hi=>
  obtain⟨ob,hg,h⟩:=Rd.bind_some h;have hg:=cM hg;cases ob with
  |row e' ex xs=>
   obtain⟨h1,h9⟩:=bQ h;have:=aJ h1;subst this;have h:=h9;have FM:(jM E (.vw n lo hi)).val σ=ab (el,dM xs lo hi):=by simp[jM,gV,hg]
   cases hp:plain te.ks with
   |true=>rw[rU (by rw[hp];rfl)]at h;obtain⟨rfl,rfl,rfl⟩:=oY h;rw[hp];exact YZ hp _ FM
   |false=>
    cases ex with
    |false=>rw[rU (by simp)]at h;obtain⟨rfl,rfl,rfl⟩:=oY h;rw[hp];obtain⟨t3,r1,r2,r3⟩:=sC bI hg hx;obtain rfl:te=t3:=aq (ht.symm.trans r1);exact SH _ (r3.imp λi y j x u _ _ hr=>by simpa using hr) r2
    |true=>
     rw[yO (by rw[hp];rfl)]at h;cases hm:jO n b with
     |true=>rw[hm]at h;simp at h
     |false=>
      have DU:=ng hm;rw[hm]at h;cases Aw:E.tk pz with
      |true=>rw[Aw]at h;obtain⟨rfl,rfl,rfl⟩:=oY h;exact FZ n xs lo hi hg DU hx
      |false=>rw[Aw]at h;simp at h
  |ej e' xs=>obtain⟨h1,h9⟩:=bQ h;have:=aJ h1;subst this;have h:=h9;obtain⟨rfl,rfl,rfl⟩:=oY h;exact HP _ (mh bI hg hx) (by simp[jM,gV,hg])
  |_=>simp at h
 |inn n i j=>obtain⟨h1,h⟩:=bQ h;obtain⟨⟨e',xs⟩,h2,h⟩:=Rd.bind_some h;obtain⟨h3,h9⟩:=bQ h;have:=aJ h3;subst this;have h:=h9;obtain⟨rfl,rfl,rfl⟩:=oY h;exact YZ h1 xs h2
 |_=>simp[KD]at h
theorem Hk(hE:dv P E)(bI:Ok E σ w c)(cU:dX E σ a w c)(hd:∀d,o.dst=ab d->d<a.tmps.size){cl:Call}(ho:o.op= .call cl)(hb:cl.callee= .builtin .append)(h:(jz E nm o).val σ=ab e)(hc:e.cond=ae):e7 P E σ a w c o e.ws:=by
 simp only[jz,ho,hb]at h;split at h
 ·rename_i s x t u oJ Tg;obtain⟨ku,h1,h⟩:=Rd.bind_some h;obtain⟨sv,h2,h⟩:=Rd.bind_some h;obtain⟨xv,h3,h⟩:=Rd.bind_some h;obtain⟨es,_⟩:=gd cU h2;obtain⟨ex,_⟩:=gd cU h3;have oJ:=xK oJ;have Tg:=xK Tg;have exec:∀{r w'},(fA #[t,u] o.type #[a.eval s,a.eval x]).run P w= .ok r w'->(execOp a.eval o).run P w= .ok (.value r) w':=by intro r w' hr;obtain⟨cs,Be⟩:=jY (P:=P) (a:=a) (w:=w) ho hb;rw[Be,oJ,Tg];simp only[builtin,x_,dW,v7];exact fY hr
  have APP:((∃e',P.underlying u=ab (.slice e'))\/P.underlying u=ab .string)->∀b v wl,(z8 E nm t sv xv).val σ=ab (b,v,wl)->b=ae->e7 P E σ a w c o (wl++dw o (.v ah [v])):=by
   intro hu b v wl h UB;obtain⟨ti,k1,h⟩:=Rd.bind_some h;have k1:=de k1;split at h
   ·rename_i el p8 yj;obtain⟨te,k2,h⟩:=Rd.bind_some h;have k2:=de k2;obtain⟨wS,h⟩:=bQ h;obtain⟨⟨xU,xs,bl⟩,k3,h⟩:=Rd.bind_some h;obtain⟨⟨uV,ys,w2⟩,k4,h⟩:=Rd.bind_some h;obtain⟨_,k5,h⟩:=Rd.bind_some h;obtain⟨rfl,rfl,rfl⟩:=oY h;obtain⟨hf,ix⟩:=iB k5;have ht:=me hE k1 p8 yj;obtain⟨inf,hi,eM,SN,iP,hz⟩:=hE.info el te k2;obtain⟨z,C1,yo,_⟩:=hz wS;obtain⟨p,g,hB⟩:=wk bI k2 es k3;obtain⟨D,news,gx,rfl,hA,hM⟩:=KE (P:=P) (z:=z.cells) hE bI k2 iP hu ex k4;simp only[cX,az,a9]at UB;obtain⟨p',w',hr,hAd⟩:=pJ (P:=P) (w:=w) (ty:=o.type) (p:=p) (x:=a.eval x) ht hi C1 (by rw[yo,hB.sz];simp) (by rw[eM,hB.sz]) (λhn=>by rw[hB.at_.n,(hB.at_.nil hn).1];rfl) (λhn=>by obtain⟨vals,m1,m2,m3,m4,_⟩:=hB.at_.mem hn;exact⟨vals,m1,m2,m3,m4⟩) (by rw[hB.sz];exact hA) (by rw[hB.at_.n,SN];exact UB.1) (by rw[hB.at_.n];exact UB.2);rw[<-hB.v]at hr;exact yY bI cU hd k2 hf ix hB hM hAd (exec hr)
   ·simp at h
  have ZER:∀k,P.underlying u=ab (.int k)->∀(kn:ki) (n:ax),a.eval x= .int kn n->∀b v wl,(L5 E nm t sv n).val σ=ab (b,v,wl)->b=ae->e7 P E σ a w c o (wl++dw o (.v ah [v])):=by
   intro k hu kn n hxn b v wl h UB;obtain⟨ti,k1,h⟩:=Rd.bind_some h;have k1:=de k1;split at h
   ·rename_i el p8 yj;obtain⟨te,k2,h⟩:=Rd.bind_some h;have k2:=de k2;obtain⟨Ib,h⟩:=bQ h;simp only[az]at Ib;obtain⟨wS,Mn⟩:=Ib;obtain⟨⟨xU,xs,bl⟩,k3,h⟩:=Rd.bind_some h;obtain⟨_,k5,h⟩:=Rd.bind_some h;obtain⟨rfl,rfl,rfl⟩:=oY h;obtain⟨hf,ix⟩:=iB k5;have ht:=me hE k1 p8 yj;obtain⟨inf,hi,eM,SN,iP,hz⟩:=hE.info el te k2;obtain⟨z,C1,yo,_⟩:=hz wS;obtain⟨p,g,hB⟩:=wk bI k2 es k3;simp only[cX,az,a9]at UB;obtain⟨⟨c0,c1,c2⟩,c3⟩:=UB;have DZ:(aM te.ks n.toNat).length=n.toNat:=by simp[aM]
    have UL:eb z.cells n.toNat=madeCells (te.ks.map fL).toArray (n.toNat*te.ks.length):=by rw[yo];show madeCells _ (n.toNat*(te.ks.map fL).toArray.size)=_;simp
    have hA:App P w u (a.eval x) z.cells te.ks.length (aM te.ks n.toNat).length (eb z.cells n.toNat).toList:=by
     refine⟨.inr ⟨⟨k,hu⟩,⟨kn, ?_⟩, ?_⟩, ?_,λv hv=> ?_⟩
     ·rw[hxn,DZ,Int.toNat_of_nonneg c0]
     ·rw[DZ]
     ·rw[DZ,c8,size_zeroCells,yo];simp
     ·rw[UL]at hv;obtain⟨q,hq⟩:=bB hv;have NI:q<n.toNat*te.ks.length:=by have:=(aG.1 hq).1;simpa [size_madeCells]using this
      have h1:q/te.ks.length<n.toNat:=by rw[sV iP];exact NI
      have h2:q%te.ks.length<te.ks.length:=xS _ iP;have:=jl (n:=n.toNat) h1 (show te.ks[q%te.ks.length]? =ab te.ks[q%te.ks.length]by simp[h2]);rw[show q/te.ks.length*te.ks.length+q%te.ks.length=q by have:=CX q te.ks.length;rw[yH]at this;exact this]at this;rw[bY,this]at hq;cases hq;cases te.ks[q%te.ks.length]<;>rfl
    have hM:nS E σ w c te bl ae (aM te.ks n.toNat) [] (eb z.cells n.toNat).toList (D7 E te.ks):=by
     refine⟨sS wS _,λ_ i y j x hy hx=> ?_,λh=>(by cases h),λ_ i j _ hn=>(by cases hn),λ_ i j _ _ _ _ hn=>(by cases hn),λn x hn=>(by cases hn)⟩
     obtain⟨fO,k,hk,rfl⟩:=qj hy hx;refine⟨fL k, ?_,Gr Mn wS hk⟩
     rw[UL,bY];exact jl fO hk
    obtain⟨p',w',hr,hAd⟩:=pJ (P:=P) (w:=w) (ty:=o.type) (p:=p) (x:=a.eval x) ht hi C1 (by rw[yo,hB.sz];simp) (by rw[eM,hB.sz]) (λhn=>by rw[hB.at_.n,(hB.at_.nil hn).1];rfl) (λhn=>by obtain⟨vals,m1,m2,m3,m4,_⟩:=hB.at_.mem hn;exact⟨vals,m1,m2,m3,m4⟩) (by rw[hB.sz];exact hA) (by rw[hB.at_.n,SN,DZ];exact c1) (by rw[hB.at_.n,DZ];exact c2);rw[<-hB.v]at hr;have:=yY bI cU hd k2 hf ix hB hM hAd (exec hr);rw[j9]at this;exact this
   ·simp at h
  cases ku with
  |i k=>
   cases xv with
   |i k' n=>obtain⟨⟨b,v,wl⟩,h4,h⟩:=Rd.bind_some h;obtain rfl:=aq h;exact ZER k (tP hE h1) k' n ex b v wl h4 hc
   |_=>simp at h
  |l e'=>obtain⟨⟨b,v,wl⟩,h4,h⟩:=Rd.bind_some h;obtain rfl:=aq h;exact APP (.inl ⟨e',iD hE h1⟩) b v wl h4 hc
  |s=>obtain⟨⟨b,v,wl⟩,h4,h⟩:=Rd.bind_some h;obtain rfl:=aq h;exact APP (.inr (iR hE h1)) b v wl h4 hc
  |b=>simp at h
  |o=>simp at h
 ·simp at h
end
end Go.FG

namespace Go.FG
section
variable {P:b9} {E:eh} {σ:St} {a:Act} {w:bf} {c:dJ} {o:dU} {nm:au} {e:o7}
theorem M4:∀{xs:ak AV} {cs:ak CV},(Jy.Si xs).val σ=ab cs->cs.length=xs.length/\∀(vals:cG aR),eE E w c vals xs->∀(q:au) (x:CV),cs[q]? =ab x->∃u:aR,vals[q]? =ab u/\ch E w c.K u x:=by
 intro xs;induction xs with
 |nil=>intro cs h;obtain rfl:=aq h;exact⟨rfl,λ_ _ q x hq=>by simp at hq⟩
 |cons a xs ih=>
  intro cs h;obtain⟨l,h1,h⟩:=Rd.bind_some h;obtain⟨i1,i2⟩:=ih h1;have main:∀cv,(∀u,dz E w c a u->ch E w c.K u cv)->cs=cv::l->cs.length=(a::xs).length/\∀(vals:cG aR),eE E w c vals (a::xs)->∀(q:au) (x:CV),cs[q]? =ab x->∃u:aR,vals[q]? =ab u/\ch E w c.K u x:=by
   rintro cv PZ rfl;refine⟨by simp[i1],λvals hv q x hq=> ?_⟩
   cases q with
   |zero=>cases hq;obtain⟨u,hu,ha⟩:=hv.2 0 a rfl;exact⟨u,hu,PZ u ha⟩
   |succ q=>
    have FN:eE E w c (vals.extract 1 vals.size) xs:=by
     refine⟨by simp;have:=hv.1;simp at this;omega,λj b hj=> ?_⟩
     obtain⟨u,hu,hb⟩:=hv.2 (j+1) b hj;refine⟨u, ?_,hb⟩
     have:=(c_.1 hu).1;rw[dn,br (by omega),gf];exact hu
    obtain⟨u,r1,r2⟩:=i2 _ FN q x hq;refine⟨u, ?_,r2⟩
    rw[dn]at r1;split at r1
    ·rw[gf];exact r1
    ·cases r1
  cases a with
  |i k n=>exact main (.i k n) (λu hu=>by rw[show u=_ from hu];exact .i _ _) (aq h).symm
  |b x=>exact main (.b x) (λu hu=>by rw[show u=_ from hu];exact .b _) (aq h).symm
  |s x=>exact main (.s x) (λu hu=>by rw[show u=_ from hu.1];exact .s _ hu.2) (aq h).symm
  |sh e xs=>exact main (.l e xs) (λu hu=>hu) (aq h).symm
  |_=>simp at h
def U3(E:eh)(σ:St)(w:bf)(c:dJ)(D:ak (au×Obj))(cs:ak CV)(v:aR):Prop:=
 ∃n,v= .pointer (ab (ad (c.P n).blk 0))/\(((n,Obj.lk cs)∈D)\/σ (cf n)= .o (.lk cs))
theorem M5(bI:Ok E σ w c)(cU:dX E σ a w c):∀{xs:ak cL} {l:ak (ak CV)} {ws:ak (au×dF)},(Jy xs).val σ=ab (l,ws)->l.length=xs.length/\∃D,ws=ir D/\
  (∀n x,(n,x)∈D->∃cs ys,x= .lk cs/\σ (cf n)= .o (.box ys)/\∀(q:au) (y:CV),cs[q]? =ab y->∃u:aR,w.cell? (ad (c.P n).blk q)=ab u/\ch E w c.K u y)/\
  ∀(q:au) (cs:ak CV),l[q]? =ab cs->∃x,xs[q]? =ab x/\U3 E σ w c D cs (a.eval x):=by
 intro xs;induction xs with
 |nil=>intro l ws h;obtain⟨rfl,rfl⟩:=bn (aq h);exact⟨rfl,[],rfl,λn x h=>(by cases h),λq cs h=>by simp at h⟩
 |cons x xs ih=>
  intro l ws h;obtain⟨v,h1,h⟩:=Rd.bind_some h;have hv:=(gd cU h1).1;split at h
  ·rename_i n;obtain⟨ob,hg,h⟩:=Rd.bind_some h;have hg:=cM hg;have hv:a.eval x= .pointer (ab (ad (c.P n).blk 0)):=hv;cases ob with
   |box ys=>
    obtain⟨cs,h2,h⟩:=Rd.bind_some h;obtain⟨⟨l',yw⟩,h3,h⟩:=Rd.bind_some h;obtain⟨rfl,rfl⟩:=bn (aq h);obtain⟨i1,D,rfl,i2,i3⟩:=ih h3;obtain⟨_,c2⟩:=M4 (E:=E) (w:=w) (c:=c) h2;obtain⟨vals,hb,eM,PZ⟩:=bI.obj n _ hg;refine⟨by simp[i1],(n, .lk cs)::D,rfl,λm y hm=> ?_,λq Y2 hq=> ?_⟩
    ·rcases bP.1 hm with hm|hm
     ·cases hm;refine⟨cs,ys,rfl,hg,λq y hq=> ?_⟩
      obtain⟨u,hu,hh⟩:=c2 vals ⟨eM,PZ⟩ q y hq;exact⟨u,(hb.cell q).trans hu,hh⟩
     ·exact i2 m y hm
    ·cases q with
     |zero=>cases hq;exact⟨x,rfl,n,hv, .inl (cR ..)⟩
     |succ q=>obtain⟨x',mB,m,e1,e2⟩:=i3 q Y2 hq;exact⟨x',mB,m,e1,e2.imp (b_ _) id⟩
   |lk cs=>
    obtain⟨⟨l',yw⟩,h3,h⟩:=Rd.bind_some h;obtain⟨rfl,rfl⟩:=bn (aq h);obtain⟨i1,D,rfl,i2,i3⟩:=ih h3;refine⟨by simp[i1],D,rfl,i2,λq Y2 hq=> ?_⟩
    cases q with
    |zero=>cases hq;exact⟨x,rfl,n,hv, .inr hg⟩
    |succ q=>exact i3 q Y2 hq
   |_=>simp at h
  ·simp at h
theorem Cs(bI:Ok E σ w c)(cU:dX E σ a w c)(hd:∀d,o.dst=ab d->d<a.tmps.size){fn:Fn}{first fV:cG cL}(ho:o.op= .makeFunc fn first fV)(h:(jz E nm o).val σ=ab e):e7 P E σ a w c o e.ws:=by
 cases fn with
 |func f=>
  simp only[jz,ho]at h;obtain⟨h1,h⟩:=bQ h;obtain⟨⟨l,ws⟩,h2,h⟩:=Rd.bind_some h;obtain rfl:=aq h;obtain⟨hl,D,rfl,hD,G4⟩:=M5 bI cU h2;have Zc:first= #[]:=by simpa using h1
  let K':au->Prop:=λb=>c.K b\/∃n x,(n,x)∈D/\b=(c.P n).blk;let c':dJ:=⟨c.P,c.G,K'⟩
  have WZ:∀b,c.K b->K' b:=λb h=> .inl h;have own:∀n x,(n,x)∈D->ig (qm D) σ c (c.P n).blk:=λn x hm=>by obtain⟨cs,ys,_,hg,_⟩:=hD n x hm;exact⟨n,_,⟨x,hm⟩,hg,rfl⟩
  have fb:∀n cs,(n,Obj.lk cs)∈D->FB E w K' (c.P n).blk cs:=λn cs hm=>by obtain⟨Y2,ys,hx,hg,hc⟩:=hD n _ hm;cases hx;exact⟨.inr ⟨n,_,hm,rfl⟩,λq x hq=>by obtain⟨u,hu,hh⟩:=hc q x hq;exact⟨u,hu,hh.frame (λ_ _=>rfl) WZ⟩⟩
  refine DN bI cU hd (c':=c') (w':=w) (v:= .func (.func f) #[] (fV.map a.eval)) (λm _=>⟨rfl,rfl⟩) ?_ ?_ ?_ ?_ WZ ?_ ?_ (λb _ _=>rfl) (cD _) rfl rfl rfl ?_ ?_ ?_
  ·intro n x hm;obtain⟨cs,ys,rfl,hg,hc⟩:=hD n x hm;exact fb n cs hm
  ·intro n x b hm hf;obtain⟨cs,ys,rfl,_⟩:=hD n x hm;exact hf.elim
  ·intro n x n' x' b hm _ hf;obtain⟨cs,ys,rfl,_⟩:=hD n x hm;exact hf.elim
  ·intro n xs hm;obtain⟨cs,ys,hx,_⟩:=hD n _ hm;cases hx
  ·rintro b (h|⟨n,x,hm,rfl⟩)
   ·exact .inl h
   ·exact .inr (.inl (own n x hm))
  ·rintro b (h|⟨n,x,hm,rfl⟩)
   ·exact bI.lt b h
   ·exact rI.lt bI (own n x hm).own
  ·refine⟨fV.map a.eval,rfl,by simp[hl],λq cs hq=> ?_⟩
   obtain⟨x,hx,n,hv,hor⟩:=G4 q cs hq;rw[bY]at hx;refine⟨(c.P n).blk,by rw[Gw,hx,<-hv];rfl, ?_⟩
   rcases hor with hm|hg
   ·exact fb n cs hm
   ·exact FB.frame (bI.obj n _ hg) (λ_ _=>rfl) WZ
  ·intro n hn;simp[bO,bh]at hn
  ·unfold execOp;rw[ho,Zc];refine fY (s:=L9 (.func f) ((#[]:cG cL).map a.eval) (fV.map a.eval)) ?_;simp[L9]
 |_=>simp[jz,ho]at h
end
end Go.FG

namespace Go.FG
theorem kY:∀{l:ak (au×dF)} {k:au} {c:dF},gk l k=c->c≠ .ie->(k,c)∈l:=by
 intro l;induction l with
 |nil=>intro k c h hc;exact bS h.symm hc
 |cons d l ih=>
  obtain⟨k',c'⟩:=d;intro k c h hc;unfold gk at h;cases hb:a_ k k' with
  |true=>rw[hb]at h;have:=aJ hb;subst this;have:c'=c:=h;subst this;exact cR ..
  |false=>rw[hb]at h;exact b_ _ (ih h hc)
theorem oC:∀{l:ak (au×dF)} {k:au} {c:dF},(k,c)∈l->(∀d∈l,d.2≠ .ie)->gk l k≠ .ie:=by
 intro l;induction l with
 |nil=>intro k c h;cases h
 |cons d l ih=>
  obtain⟨k',c'⟩:=d;intro k c h hn;unfold gk;cases hb:a_ k k' with
  |true=>exact hn _ (cR ..)
  |false=>
   rcases bP.1 h with h|h
   ·cases h;simp at hb
   ·exact ih h (λd hd=>hn d (b_ _ hd))
theorem Hg{nm:au}{a:AA}{k:au}{c:dF}:(k,c)∈zd nm a↔∃e ex xs,a= .ow e ex xs/\k=cf nm/\c= .o (.row e ex xs):=by
 cases a with
 |ow e ex xs=>simp only[zd,aP,hZ];exact⟨λ⟨h1,h2⟩=>⟨e,ex,xs,rfl,h1,h2⟩,λ⟨e',pY,EF,h,h1,h2⟩=>by cases h;exact⟨h1,h2⟩⟩
 |_=>simp[zd]
theorem wV:∀{xs:ak AA} {nm:au} {k:au} {c:dF},(k,c)∈po nm xs↔∃j e ex ys,xs[j]? =ab (.ow e ex ys)/\k=cf (nm+j)/\c= .o (.row e ex ys):=by
 intro xs;induction xs with
 |nil=>intro nm k c;simp[po]
 |cons a xs ih=>
  intro nm k c;simp only[po,aQ,Hg,ih];constructor
  ·rintro (⟨e,ex,ys,rfl,h1,h2⟩|⟨j,e,ex,ys,h0,h1,h2⟩)
   ·exact⟨0,e,ex,ys,rfl,h1,h2⟩
   ·exact⟨j+1,e,ex,ys,h0,by rw[h1];congr 1;omega,h2⟩
  ·rintro ⟨j,e,ex,ys,h0,h1,h2⟩;cases j with
   |zero=>cases h0;exact .inl ⟨e,ex,ys,rfl,h1,h2⟩
   |succ j=>exact .inr ⟨j,e,ex,ys,h0,by rw[h1];congr 1;omega,h2⟩
theorem fD{p:au}{a:dO}{k:au}{c:dF}:(k,c)∈qD p a↔(∃xs,a= .pt xs/\k=cf (c9 p 900)/\c= .o (.box (eN (c9 p 0) xs)))\/∃xs j e ex ys,((∃g,a= .v g xs)\/a= .pt xs)/\xs[j]? =ab (.ow e ex ys)/\k=cf (c9 p j)/\c= .o (.row e ex ys):=by
 have hn:∀j,c9 p 0+j=c9 p j:=λj=>by unfold c9;omega
 cases a with
 |v g xs=>
  simp only[qD,wV,hn];constructor
  ·rintro ⟨j,e,ex,ys,h⟩;exact .inr ⟨xs,j,e,ex,ys, .inl ⟨g,rfl⟩,h⟩
  ·rintro (⟨EF,h,_⟩|⟨EF,j,e,ex,ys,h,h'⟩)
   ·cases h
   ·rcases h with ⟨g',h⟩|h<;>cases h;exact⟨j,e,ex,ys,h'⟩
 |pt xs=>
  simp only[qD,bP,wV,hn,hZ];constructor
  ·rintro (⟨h1,h2⟩|⟨j,e,ex,ys,h⟩)
   ·exact .inl ⟨xs,rfl,h1,h2⟩
   ·exact .inr ⟨xs,j,e,ex,ys, .inr rfl,h⟩
  ·rintro (⟨EF,h,h1,h2⟩|⟨EF,j,e,ex,ys,h,h'⟩)
   ·cases h;exact .inl ⟨h1,h2⟩
   ·rcases h with ⟨g',h⟩|h<;>cases h;exact .inr ⟨j,e,ex,ys,h'⟩
 |fb xs=>
  simp only[qD,uM,false_iff];rintro (⟨EF,h,_⟩|⟨EF,j,e,ex,ys,h,h'⟩)
  ·cases h
  ·rcases h with ⟨g',h⟩|h<;>cases h
theorem jm:∀{l:ak dO} {q:au} {k:au} {c:dF},(k,c)∈D0 q l↔∃p a,l[p]? =ab a/\((k=nh (q+p)/\c= .v (pq (q+p) a))\/(k,c)∈qD (q+p) a):=by
 intro l;induction l with
 |nil=>intro q k c;simp[D0]
 |cons a l ih=>
  intro q k c;simp only[D0,bP,aQ,ih,hZ];constructor
  ·rintro ((⟨h1,h2⟩|h)|⟨p,b,h0,h⟩)
   ·exact⟨0,a,rfl, .inl ⟨h1,h2⟩⟩
   ·exact⟨0,a,rfl, .inr h⟩
   ·exact⟨p+1,b,h0,by rw[show q+(p+1)=q+1+p by omega];exact h⟩
  ·rintro ⟨p,b,h0,h⟩;cases p with
   |zero=>
    cases h0;rcases h with ⟨h1,h2⟩|h
    ·exact .inl (.inl ⟨h1,h2⟩)
    ·exact .inl (.inr h)
   |succ p=>exact .inr (⟨p,b,h0,by rw[show q+1+p=q+(p+1)by omega];exact h⟩)
theorem Cb{l:ak dO}{q:au}:∀d∈D0 q l,d.2≠ .ie:=by
 rintro ⟨k,c⟩ h;obtain⟨p,a,_,h⟩:=jm.1 h;rcases h with ⟨_,h⟩|h
 ·rw[h];simp
 ·rcases fD.1 h with ⟨_,_,_,h⟩|⟨_,_,_,_,_,_,_,_,h⟩<;>rw[h]<;>simp
theorem vA{args:ak dO}{m:au}{ob:Obj}(h:inj args (cf m)= .o ob):∃p a,args[p]? =ab a/\((∃xs,a= .pt xs/\m=c9 p 900/\ob= .box (eN (c9 p 0) xs))\/∃xs j e ex ys,((∃g,a= .v g xs)\/a= .pt xs)/\xs[j]? =ab (.ow e ex ys)/\m=c9 p j/\ob= .row e ex ys):=by
 obtain⟨p,a,h0,h⟩:=jm.1 (kY h (by simp));rw[bu]at h;refine⟨p,a,h0, ?_⟩
 rcases h with ⟨h,_⟩|h
 ·exact bS h (jG _ _)
 ·rcases fD.1 h with ⟨xs,h1,h2,h3⟩|⟨xs,j,e,ex,ys,h1,h2,h3,h4⟩
  ·cases h3;exact .inl ⟨xs,h1,ic h2,rfl⟩
  ·cases h4;exact .inr ⟨xs,j,e,ex,ys,h1,h2,ic h3,rfl⟩
theorem Cd{args:ak dO}{n:au}:(∃a,args[n]? =ab a/\slot (inj args) n=pq n a)\/slot (inj args) n= .un:=by
 unfold slot;cases h:inj args (nh n)with
 |v x=>
  obtain⟨p,a,h0,h⟩:=jm.1 (kY h (by simp));rw[bu]at h;rcases h with ⟨h1,h2⟩|h
  ·have:=A0 h1;subst this;cases h2;exact .inl ⟨a,h0,rfl⟩
  ·rcases fD.1 h with ⟨_,_,h,_⟩|⟨_,_,_,_,_,_,_,h,_⟩<;>exact bS h (oz _ _)
 |o=>exact .inr rfl
 |ie=>exact .inr rfl
theorem nA{args:ak dO}{p:au}{a:dO}(h:args[p]? =ab a):(∀xs,a= .pt xs->inj args (cf (c9 p 900))≠ .ie)/\∀xs j e ex ys,((∃g,a= .v g xs)\/a= .pt xs)->xs[j]? =ab (.ow e ex ys)->inj args (cf (c9 p j))≠ .ie:=by
 constructor
 ·intro xs hx;exact oC (jm.2 ⟨p,a,h, .inr (fD.2 (.inl ⟨xs,hx,by rw[bu],rfl⟩))⟩) Cb
 ·intro xs j e ex ys hx hj;exact oC (jm.2 ⟨p,a,h, .inr (fD.2 (.inr ⟨xs,j,e,ex,ys,hx,hj,by rw[bu],rfl⟩))⟩) Cb
theorem fH:∀{xs:ak AA} {nm j:au},(eN nm xs)[j]? =(xs[j]?).map (iW (nm+j)):=by
 intro xs;induction xs with
 |nil=>intro nm j;simp[eN]
 |cons a xs ih=>
  intro nm j;cases j with
  |zero=>rfl
  |succ j=>simp only[eN,cZ,ih];congr 2;omega
theorem fS:∀{xs:ak AA} {nm:au},(eN nm xs).length=xs.length:=by
 intro xs;induction xs with
 |nil=>intro nm;rfl
 |cons a xs ih=>intro nm;simp[eN,ih]
theorem py{nm:au}{a:AA}{n:au}(h:n∈bh (iW nm a)):n=nm/\∃e ex ys,a= .ow e ex ys:=by cases a<;>simp[iW,bh]at h;exact⟨h,_,_,_,rfl⟩
theorem Cc{args:ak dO}(n:au):jU (inj args) (slot (inj args) n):=by
 rcases Cd (args:=args) (n:=n)with ⟨a,h0,h⟩|h
 ·rw[h];intro m hm;have cells:∀xs,((∃g,a= .v g xs)\/a= .pt xs)->m∈(eN (c9 n 0) xs).flatMap bh->inj args (cf m)≠ .ie:=by
   intro xs hx hm;obtain⟨v,hv,hm⟩:=bg.1 hm;obtain⟨j,hj⟩:=bB hv;rw[fH]at hj;cases hy:xs[j]? with
   |none=>rw[hy]at hj;cases hj
   |some y=>
    rw[hy]at hj;cases hj;obtain⟨rfl,e,ex,ys,rfl⟩:=py hm;have:=(nA h0).2 xs j e ex ys hx hy;have hn:c9 n 0+j=c9 n j:=by unfold c9;omega
    rw[hn];exact this
  cases a with
  |v g xs=>exact cells xs (.inl ⟨g,rfl⟩) hm
  |pt xs=>
   have:m=c9 n 900:=by simpa [pq,bO,bh]using hm
   rw[this];exact(nA h0).1 xs rfl
  |fb xs=>simp[pq,bO,bh]at hm
 ·rw[h];intro m hm;simp[bO]at hm
theorem Ax{args:ak dO}{nm:au}{xs:ak AV}(h:inj args (cf nm)= .o (.box xs)):∀a∈xs,gp (inj args) a:=by
 obtain⟨p,a,h0,hh⟩:=vA h;rcases hh with ⟨ys,rfl,_,hb⟩|⟨_,_,_,_,_,_,_,_,hb⟩
 ·cases hb;intro v hv m hm;obtain⟨j,hj⟩:=bB hv;rw[fH]at hj;cases hy:ys[j]? with
  |none=>rw[hy]at hj;cases hj
  |some y=>
   rw[hy]at hj;cases hj;obtain⟨rfl,e,ex,zs,rfl⟩:=py hm;have:=(nA h0).2 ys j e ex zs (.inr rfl) hy;have hn:c9 p 0+j=c9 p j:=by unfold c9;omega
   rw[hn];exact this
 ·cases hb
end Go.FG

namespace Go.FG
theorem qc{p j:au}(h:j<1000):(c9 p j-900000000)/1000=p/\(c9 p j-900000000)%1000=j:=by unfold c9;omega
theorem w9(p j:au):900000000<=c9 p j:=by unfold c9;omega
theorem qd{p j p' j':au}(h:j<1000)(h':j'<1000)(e:c9 p j=c9 p' j'):p=p'/\j=j':=by unfold c9 at e;omega
section
variable {P:b9} {E:eh} {σ:St} {a:Act} {w:bf} {c:dJ} {o:dU} {nm:au} {e:o7}
theorem oy(bI:Ok E σ w c){n el:au}{ex:aL}{xs:aY}(hg:σ (cf n)= .o (.row el ex xs)){K:au->Prop}(hK:∀b,c.K b->K b)(hF:∀b,ea c n (.row el ex xs) b->K b):ch E w K (jj (c.P n)) (.l el xs):=by
 obtain⟨⟨t2,q1,q2,q3⟩,q4,q5⟩:=bI.obj n _ hg;refine mW q1 q2 q3 (q4.frame (λ_=>rfl) (λi j y x u hy hx hr=> ?_)) (λhn=>hF _ (.inl ⟨hn,rfl⟩));split at hr
 ·rename_i mB;exact sR hr (λhl hn=>hF _ (.inr ⟨mB,i,j,⟨y,x,hy,hx,hl⟩,hn,rfl⟩))
 ·exact hr.frame (λ_ _=>rfl) hK
theorem zv(bI:Ok E σ w c){n el:au}{ex:aL}{xs:aY}(hg:σ (cf n)= .o (.row el ex xs)){K:au->Prop}(hK:∀b,c.K b->K b)(hF:∀b,ea c n (.row el ex xs) b->K b){lo hi:au}{v:aR}(hv:rS (c.P n) lo hi v):ch E w K v (.l el (dM xs lo hi)):=by obtain⟨⟨t2,q1,q2,q3⟩,q4,q5⟩:=bI.obj n _ hg;exact B7 q1 (oy bI hg hK hF) q4.n q2 hv
def RC(σ:St)(c:dJ)(kL:ak au)(b:au):Prop:=c.K b\/∃n∈kL,∃o,σ (cf n)= .o o/\ea c n o b
def qQ(T:Tab)(σ:St)(w:bf)(c:dJ)(kL:ak au)(k:Pk)(u:aR):Prop:=
 match k.src with
 | .own nm e ex=>∃xs,σ (cf nm)= .o (.row e ex xs)/\k.a= .ow e ex xs/\u=jj (c.P nm)
 | .no=>(∀c1:dJ,(∀b,RC σ c kL b->c1.K b)->∀nm,dz T w c1 (iW nm k.a) u)/\∀e ex xs,k.a≠ .ow e ex xs
theorem qQ.mono{T:Tab}{kL K6:ak au}{k:Pk}{u:aR}(h:qQ T σ w c kL k u)(hs:∀n∈kL,n∈K6):qQ T σ w c K6 k u:=by
 unfold qQ at h⊢;split
 ·rename_i hk;rw[hk]at h;exact h
 ·rename_i hk;rw[hk]at h;exact⟨λc1 h1=>h.1 c1 (λb hb=>h1 b (hb.imp id (λ⟨n,hn,hh⟩=>⟨n,hs n hn,hh⟩))),h.2⟩
theorem xw(bI:Ok E σ w c){mt:aL}{x:AV}{k:Pk}{u:aR}(h:(uG E mt x).val σ=ab k)(hx:dz E w c x u):qQ E σ w c k.rd k u:=by
 have rd:∀{n el:au} {ex:aL} {xs:aY},σ (cf n)= .o (.row el ex xs)->∀c1:dJ,(∀b,RC σ c [n] b->c1.K b)->(∀b,c.K b->c1.K b)/\∀b,ea c n (.row el ex xs) b->c1.K b:=λhg c1 h=>⟨λb hb=>h b (.inl hb),λb hb=>h b (.inr ⟨_,aP.2 rfl,_,hg,hb⟩)⟩
 cases x with
 |i=>obtain rfl:=aq h;exact⟨λc1 _ _=>hx,λ_ _ _ hh=>by cases hh⟩
 |b=>obtain rfl:=aq h;exact⟨λc1 _ _=>hx,λ_ _ _ hh=>by cases hh⟩
 |s=>obtain rfl:=aq h;exact⟨λc1 _ _=>hx,λ_ _ _ hh=>by cases hh⟩
 |nl=>obtain rfl:=aq h;exact⟨λc1 _ _=>hx,λ_ _ _ hh=>by cases hh⟩
 |sh e xs=>obtain rfl:=aq h;exact⟨λc1 h1 _=>ch.frame hx (λ_ _=>rfl) (λb hb=>h1 b (.inl hb)),λ_ _ _ hh=>by cases hh⟩
 |fn f fV=>obtain rfl:=aq h;exact⟨λc1 h1 _=>dz.frame (a:= .fn f fV) hx (λ_ _=>rfl) (λb hb=>h1 b (.inl hb)) (λn hn=>by simp[bh]at hn),λ_ _ _ hh=>by cases hh⟩
 |own n=>
  obtain⟨ob,hg,h⟩:=Rd.bind_some h;have hg:=cM hg;have hx:u=jj (c.P n):=hx;cases ob with
  |row el ex xs=>
   cases mt with
   |true=>obtain rfl:=aq h;exact⟨xs,hg,rfl,hx⟩
   |false=>
    obtain rfl:=aq h;refine⟨λc1 h1 _=> ?_,λ_ _ _ hh=>by cases hh⟩
    obtain⟨r1,r2⟩:=rd hg c1 h1;rw[hx];exact oy bI hg r1 r2
  |ej el xs=>
   obtain rfl:=aq h;refine⟨λc1 h1 _=> ?_,λ_ _ _ hh=>by cases hh⟩
   rw[hx];exact ch.frame (bI.obj n _ hg).1 (λ_ _=>rfl) (λb hb=>h1 b (.inl hb))
  |_=>simp at h
 |vw n lo hi=>
  cases mt with
  |true=>simp[uG]at h
  |false=>
  obtain⟨ob,hg,h⟩:=Rd.bind_some h;have hg:=cM hg;cases ob with
  |row el ex xs=>
   obtain rfl:=aq h;refine⟨λc1 h1 _=> ?_,λ_ _ _ hh=>by cases hh⟩
   obtain⟨r1,r2⟩:=rd hg c1 h1;exact zv bI hg r1 r2 hx
  |ej el xs=>
   obtain rfl:=aq h;refine⟨λc1 h1 _=> ?_,λ_ _ _ hh=>by cases hh⟩
   exact ch.frame (mh bI hg hx) (λ_ _=>rfl) (λb hb=>h1 b (.inl hb))
  |_=>simp at h
 |inn n i j=>
  obtain⟨ob,hg,h⟩:=Rd.bind_some h;have hg:=cM hg;cases ob with
  |row el ex xs=>
   cases ex with
   |false=>simp at h
   |true=>
   obtain⟨te,ht,h⟩:=Rd.bind_some h;have ht:=de ht;split at h
   ·rename_i e2 wP;obtain⟨t2,C0,h⟩:=Rd.bind_some h;obtain⟨_,h⟩:=bQ h;obtain rfl:=aq h;obtain⟨⟨hi,hx⟩,_⟩:=hx;obtain⟨zs,y,t3,q1,q2,q3,q4,q5,q6,q7,q8⟩:=vB bI hg ht wP hi;refine⟨λc1 h1 _=> ?_,λ_ _ _ hh=>by cases hh⟩
    show ch E w c1.K u (.l e2 (ia (ao xs i j)));rw[dY q1 q2,hx];obtain⟨r1,r2⟩:=rd hg c1 h1;exact mW q3 q5 q6 (q7.frame (λ_=>rfl) (λi' j' y' x' u' hy' mB hr=>iH (fy q4 (q6 y' (aD hy')) mB) hr)) (λhn=>r2 _ (.inr ⟨rfl,i,j,⟨y,_,q1,q2,rfl⟩,hn,rfl⟩))
   ·simp at h
  |_=>simp at h
 |_=>simp[uG]at h
theorem zm(bI:Ok E σ w c){mt:aL}:∀{xs:ak AV} {l:ak Pk},(xy E mt xs).val σ=ab l->l.length=xs.length/\∀(j:au) (k:Pk),l[j]? =ab k->∃x,xs[j]? =ab x/\(uG E mt x).val σ=ab k:=by
 intro xs;induction xs with
 |nil=>intro l h;obtain rfl:=aq h;exact⟨rfl,λj k h=>by simp at h⟩
 |cons x xs ih=>
  intro l h;obtain⟨k,h1,h⟩:=Rd.bind_some h;obtain⟨l',h2,h⟩:=Rd.bind_some h;obtain rfl:=aq h;obtain⟨i1,i2⟩:=ih h2;refine⟨by simp[i1],λj k' hj=> ?_⟩
  cases j with
  |zero=>cases hj;exact⟨x,rfl,h1⟩
  |succ j=>exact i2 j k' hj
structure uO (T:Tab) (σ:St) (w:bf) (c:dJ) (kL:ak au) (pa:Pa) (v:aR):Prop where
 len:pa.cs.length<=100
 val:pa.box=af->∃agg,pa.arg= .v agg (pa.cs.map (·.a))/\((agg=ah/\∃k,pa.cs=[k]/\qQ T σ w c kL k v)\/(agg=ae/\∃vals:cG aR,v= .agg vals/\vals.size=pa.cs.length/\∀(j:au) (k:Pk),pa.cs[j]? =ab k->∃u:aR,vals[j]? =ab u/\qQ T σ w c kL k u))
 box:∀n xs,pa.box=ab (n,xs)->pa.arg= .pt (pa.cs.map (·.a))/\v= .pointer (ab (ad (c.P n).blk 0))/\σ (cf n)= .o (.box xs)/\pa.cs.length=xs.length/\
  (∃vals,k8 w (c.P n).blk vals/\vals.size=xs.length/\∀(j:au) (k:Pk),pa.cs[j]? =ab k->∃u:aR,vals[j]? =ab u/\qQ T σ w c kL k u)/\
  ∀(j:au) (k:Pk) (nm e:au) (ex:aL),pa.cs[j]? =ab k->k.src= .own nm e ex->xs[j]? =ab (.own nm)
theorem AF{pa:Pa}{j:au}{k:Pk}(h:pa.cs[j]? =ab k):∀n∈k.rd,n∈pa.kL:=λn hn=>bg.2 ⟨k,aD h,hn⟩
theorem Hr{mt:aL}{x:AV}{k:Pk}(h:(uG E mt x).val σ=ab k){nm e:au}{ex:aL}(hs:k.src= .own nm e ex):x= .own nm:=by
 cases x with
 |own n=>
  obtain⟨ob,hg,h⟩:=Rd.bind_some h;cases ob with
  |row el pY xs=>
   cases mt with
   |true=>obtain rfl:=aq h;cases hs;rfl
   |false=>obtain rfl:=aq h;cases hs
  |ej el xs=>obtain rfl:=aq h;cases hs
  |_=>simp at h
 |vw n lo hi=>
  cases mt with
  |true=>simp[uG]at h
  |false=>
  obtain⟨ob,hg,h⟩:=Rd.bind_some h;cases ob with
  |row=>obtain rfl:=aq h;cases hs
  |ej=>obtain rfl:=aq h;cases hs
  |_=>simp at h
 |inn n i j=>
  obtain⟨ob,hg,h⟩:=Rd.bind_some h;cases ob with
  |row el ex xs=>
   cases ex with
   |false=>simp at h
   |true=>
   obtain⟨te,ht,h⟩:=Rd.bind_some h;split at h
   ·obtain⟨t2,C0,h⟩:=Rd.bind_some h;obtain⟨_,h⟩:=bQ h;obtain rfl:=aq h;cases hs
   ·simp at h
  |_=>simp at h
 |i=>obtain rfl:=aq h;cases hs
 |b=>obtain rfl:=aq h;cases hs
 |s=>obtain rfl:=aq h;cases hs
 |nl=>obtain rfl:=aq h;cases hs
 |sh=>obtain rfl:=aq h;cases hs
 |fn=>obtain rfl:=aq h;cases hs
 |_=>simp[uG]at h
theorem M0(bI:Ok E σ w c){mt:aL}{x:SV}{pa:Pa}{v:aR}(h:(Sa E mt x).val σ=ab pa)(hl:pa.cs.length<=100)(hx:gu E w c x v):uO E σ w c pa.kL pa v:=by
 have gen:∀agg xs,x= .v agg xs->((xy E mt xs).bind λl=>Rd.ret (⟨.v agg (l.map (·.a)),af,l⟩:Pa)).val σ=ab pa->uO E σ w c pa.kL pa v:=by
  rintro agg xs rfl h;obtain⟨l,h1,h⟩:=Rd.bind_some h;obtain rfl:=aq h;obtain⟨i1,i2⟩:=zm bI h1;refine⟨hl,λ_=>⟨agg,rfl, ?_⟩,λn ys hb=>by cases hb⟩
  replace hx:m9 E w c agg xs v:=hx;unfold m9 at hx;split at hx
  ·rename_i y;left;obtain⟨k,rfl⟩:=e8.1 (i1.trans rfl);obtain⟨y',hy,hk⟩:=i2 0 k rfl;cases hy;exact⟨rfl,k,rfl,(xw bI hk hx).mono (AF (j:=0) (pa:=⟨.v ah ([k].map (·.a)),af,[k]⟩) rfl)⟩
  ·obtain⟨vals,rfl,hs,hv⟩:=hx;right;refine⟨rfl,vals,rfl,by rw[hs];exact i1.symm,λj k hj=> ?_⟩
   obtain⟨y,hy,hk⟩:=i2 j k hj;obtain⟨u,hu,ha⟩:=hv j y hy;exact⟨u,hu,(xw bI hk ha).mono (AF (j:=j) (pa:=⟨.v ae (l.map (·.a)),af,l⟩) hj)⟩
  ·exact hx.elim
 unfold Sa at h;split at h
 ·rename_i n;obtain⟨_,h⟩:=bQ h;obtain⟨ob,hg,h⟩:=Rd.bind_some h;have hg:=cM hg;cases ob with
  |box xs=>
   obtain⟨l,h1,h⟩:=Rd.bind_some h;obtain rfl:=aq h;obtain⟨i1,i2⟩:=zm bI h1;obtain⟨vals,hb,hs,hv⟩:=bI.obj n _ hg;refine⟨hl,λhb=>(by cases hb),λm ys H_=> ?_⟩
   cases H_;refine⟨rfl,hx,hg,i1,⟨vals,hb,hs,λj k hj=> ?_⟩,λj k nm e ex hj ym=> ?_⟩
   ·obtain⟨y,hy,hk⟩:=i2 j k hj;obtain⟨u,hu,ha⟩:=hv j y hy;exact⟨u,hu,(xw bI hk ha).mono (AF (j:=j) (pa:=⟨.pt (l.map (·.a)),ab (n,xs),l⟩) hj)⟩
   ·obtain⟨y,hy,hk⟩:=i2 j k hj;rw[hy,Hr hk ym]
  |_=>simp at h
 ·rename_i agg xs _;exact gen _ _ rfl h
 ·simp at h
theorem FV{T:Tab}{k:Ck}{y:AV}{u:aR}(h:dz T w c y u):dz T w c (Oo k y) u:=by
 unfold Oo;split
 ·rename_i e;have:u= .slice af 0 0:=h;subst this;exact .nl _ _ _
 ·exact h
theorem Co:∀(ks:ak Ck) (xs:ak AV),(w8 ks xs).length=xs.length
 |[],[]=>rfl
 |[],_::_=>rfl
 |_::_,[]=>rfl
 |k::ks,y::r=>by simp[w8,Co ks r]
theorem FW{T:Tab}:∀(ks:ak Ck) (xs:ak AV) (j:au) (y:AV),(w8 ks xs)[j]? =ab y->∃z,xs[j]? =ab z/\∀u,dz T w c z u->dz T w c y u
 |[],xs,j,y,h=>⟨y,by simpa [w8]using h,λ_ h=>h⟩
 |_::_,[],j,y,h=>by simp[w8]at h
 |k::ks,x::r,0,y,h=>by
  simp only[w8,oQ,gJ]at h;subst h;exact⟨x,rfl,λu hu=>FV hu⟩
 |k::ks,x::r,j+1,y,h=>by simp only[w8,cZ]at h;exact FW ks r j y h
theorem TJ{T:Tab}{t:ar au}{s:SV}{v:aR}(h:gu T w c s v):gu T w c (nlz T t s) v:=by
 unfold nlz;split
 ·exact h
 ·split
  ·rename_i ti g xs _;have h:m9 T w c g xs v:=h;show m9 T w c g (w8 ti.ks xs) v;unfold m9 at h;split at h
   ·rename_i y;cases hk:ti.ks with
    |nil=>exact h
    |cons k ks=>
     have e:∀z,w8 (k::ks) [z]=[Oo k z]:=λz=>by cases ks<;>rfl
     rw[e];exact FV h
   ·obtain⟨vals,h1,h2,h3⟩:=h;refine⟨vals,h1,by rw[Co];exact h2,λj y hj=> ?_⟩
    obtain⟨z,hz,hy⟩:=FW (T:=T) (w:=w) (c:=c) ti.ks _ j y hj;obtain⟨u,hu,ha⟩:=h3 j z hz;exact⟨u,hu,hy u ha⟩
   ·cases h
  ·exact h
theorem Jr(bI:Ok E σ w c)(cU:dX E σ a w c){f:au}{Ij:ar (ak au)}:∀{xs:ak cL} {p:au} {ps:ak Pa},(Jq E f Ij p xs).val σ=ab ps->ps.length=xs.length/\∀(q:au) (pa:Pa),ps[q]? =ab pa->∃x,xs[q]? =ab x/\uO E σ w c pa.kL pa (a.eval x):=by
 intro xs;induction xs with
 |nil=>intro p ps h;obtain rfl:=aq h;exact⟨rfl,λq pa h=>by simp at h⟩
 |cons x xs ih=>
  intro p ps h;obtain⟨v,h1,h⟩:=Rd.bind_some h;obtain⟨pa,h2,h⟩:=Rd.bind_some h;obtain⟨hl,h⟩:=bQ h;obtain⟨l,h3,h⟩:=Rd.bind_some h;obtain rfl:=aq h;obtain⟨i1,i2⟩:=ih h3;refine⟨by simp[i1],λq TW hq=> ?_⟩
  cases q with
  |zero=>
   cases hq;refine⟨x,rfl,M0 bI h2 (bN hl) ?_⟩
   cases E.mode f p with
   |true=>exact(jH cU h1).1
   |false=>exact TJ (jH cU h1).1
  |succ q=>exact i2 q TW hq
theorem uO.mono{T:Tab}{kL K6:ak au}{pa:Pa}{v:aR}(h:uO T σ w c kL pa v)(hs:∀n∈kL,n∈K6):uO T σ w c K6 pa v:=by
 refine⟨h.len,λhb=> ?_,λn xs hb=> ?_⟩
 ·obtain⟨agg,h1,h2⟩:=h.val hb;refine⟨agg,h1, ?_⟩
  rcases h2 with ⟨h3,k,h4,h5⟩|⟨h3,vals,h4,h5,h6⟩
  ·exact .inl ⟨h3,k,h4,h5.mono hs⟩
  ·exact .inr ⟨h3,vals,h4,h5,λj k hj=>by obtain⟨u,hu,hk⟩:=h6 j k hj;exact⟨u,hu,hk.mono hs⟩⟩
 ·obtain⟨h1,h2,h3,h4,⟨vals,h5,h6,h7⟩,h8⟩:=h.box n xs hb;exact⟨h1,h2,h3,h4,⟨vals,h5,h6,λj k hj=>by obtain⟨u,hu,hk⟩:=h7 j k hj;exact⟨u,hu,hk.mono hs⟩⟩,h8⟩
end
end Go.FG

namespace Go.FG
theorem jo{α:Type}{f:α->ak au}:∀{l:ak α},(l.flatMap f).Nodup->(∀(i j:au) (x y:α) (z:au),l[i]? =ab x->l[j]? =ab y->z∈f x->z∈f y->i=j)/\∀x∈l,(f x).Nodup:=by
 intro l;induction l with
 |nil=>intro _;exact⟨λi j x y z h=>by simp at h,λx h=>by cases h⟩
 |cons a l ih=>
  intro h;rw[th]at h;obtain⟨h1,h2,h3⟩:=dr.1 h;obtain⟨i1,i2⟩:=ih h2;refine⟨λi j x y z hi hj hx hy=> ?_,λx hx=> ?_⟩
  ·cases i with
   |zero=>
    cases hi;cases j with
    |zero=>rfl
    |succ j=>exact bS rfl (h3 z hx z (bg.2 ⟨y,aD hj,hy⟩))
   |succ i=>
    cases j with
    |zero=>cases hj;exact bS rfl (h3 z hy z (bg.2 ⟨x,aD hi,hx⟩))
    |succ j=>rw[i1 i j x y z hi hj hx hy]
  ·rcases bP.1 hx with rfl|hx
   ·exact h1
   ·exact i2 x hx
def loc(ps:ak Pa)(m:au):ar au:=
 match ps[(m-900000000)/1000]? with
 |none=>af
 |some pa=>if(m-900000000)%1000=900 then pa.box.map (·.1)else(pa.cs[(m-900000000)%1000]?).bind λk=>match k.src with| .own nm _ _=>ab nm| .no=>af
theorem AD{ps:ak Pa}{p j:au}{pa:Pa}{k:Pk}{nm e:au}{ex:aL}(hp:ps[p]? =ab pa)(hj:pa.cs[j]? =ab k)(hs:k.src= .own nm e ex)(hl:j<900):loc ps (c9 p j)=ab nm:=by obtain⟨h1,h2⟩:=qc (p:=p) (j:=j) (by omega);unfold loc;rw[h1,h2,hp];simp only;rw[bF (by omega),hj];simp only[Option.bind_some,hs]
theorem vC{ps:ak Pa}{p n:au}{pa:Pa}{xs:ak AV}(hp:ps[p]? =ab pa)(hb:pa.box=ab (n,xs)):loc ps (c9 p 900)=ab n:=by obtain⟨h1,h2⟩:=qc (p:=p) (j:=900) (by omega);unfold loc;rw[h1,h2,hp];simp[hb]
def nv(σ:St)(c:dJ)(ps:ak Pa):dJ:=
 ⟨λm=>match loc ps m with|some n=>c.P n|none=>⟨ae,0,0,0,0,0⟩,λm=>match loc ps m with|some n=>c.G n|none=>λ_ _=>⟨ae,0,0,0,0,0⟩,RC σ c (ps.flatMap (·.kL))⟩
theorem pW{σ:St}{c:dJ}{ps:ak Pa}{m n:au}(h:loc ps m=ab n):(nv σ c ps).P m=c.P n/\(nv σ c ps).G m=c.G n:=by unfold nv;simp only[h];exact⟨trivial,trivial⟩
section
variable {P:b9} {E:eh} {σ:St} {a:Act} {w:bf} {c:dJ} {o:dU} {nm:au} {e:o7}
structure Handed (T:Tab) (σ:St) (w:bf) (c:dJ) (ps:ak Pa) (vt:ak (ak CV)) (vs:cG aR):Prop where
 size:vs.size=ps.length+vt.length
 at_:∀(q:au) (pa:Pa),ps[q]? =ab pa->∃v,vs[q]? =ab v/\uO T σ w c (ps.flatMap (·.kL)) pa v
 fb:∀(q:au) (cs:ak CV),vt[q]? =ab cs->∃b,vs[ps.length+q]? =ab (.pointer (ab (ad b 0)))/\FB T w c.K b cs
 nd:(ps.flatMap (·.qb)).Nodup
 ap:∀n∈ps.flatMap (·.qb),n∉ps.flatMap (·.kL)
def gQ(ps:ak Pa)(vt:ak (ak CV)):ak dO:=ps.map (·.arg)++vt.map dO.fb
theorem qW{ps:ak Pa}{vt:ak (ak CV)}{p:au}{x:dO}(h:(gQ ps vt)[p]? =ab x):(∃pa,ps[p]? =ab pa/\x=pa.arg)\/(ps.length<=p/\∃cs,vt[p-ps.length]? =ab cs/\x= .fb cs):=by
 unfold gQ at h;by_cases hp:p<ps.length
 ·rw[cS (by simpa using hp),bc]at h;cases hq:ps[p]? with
  |none=>rw[hq]at h;cases h
  |some pa=>rw[hq]at h;cases h;exact .inl ⟨pa,rfl,rfl⟩
 ·rw[cm (by simp;omega),bc,bC]at h;cases hq:vt[p-ps.length]? with
  |none=>rw[hq]at h;cases h
  |some cs=>rw[hq]at h;cases h;exact .inr ⟨by omega,cs,rfl,rfl⟩
theorem KZ{T:Tab}{ps:ak Pa}{p j:au}{pa:Pa}{k:Pk}{u:aR}(hp:ps[p]? =ab pa)(hj:pa.cs[j]? =ab k)(hl:j<900)(h:qQ T σ w c (ps.flatMap (·.kL)) k u):dz T w (nv σ c ps) (iW (c9 p j) k.a) u:=by
 unfold qQ at h;split at h
 ·rename_i n e ex hs;obtain⟨xs,h1,h2,h3⟩:=h;rw[h2];show u=jj ((nv σ c ps).P (c9 p j));rw[(pW (AD hp hj hs hl)).1];exact h3
 ·exact h.1 _ (λb hb=>hb) _
theorem KY{T:Tab}{kL:ak au}{pa:Pa}{v:aR}(h:uO T σ w c kL pa v){xs:ak AA}(hx:(∃g,pa.arg= .v g xs)\/pa.arg= .pt xs):xs=pa.cs.map (·.a)/\∀(j:au) (k:Pk),pa.cs[j]? =ab k->∃u,qQ T σ w c kL k u:=by
 cases hb:pa.box with
 |none=>
  obtain⟨agg,h1,h2⟩:=h.val hb;rw[h1]at hx;have:xs=pa.cs.map (·.a):=by rcases hx with ⟨g,hx⟩|hx<;>cases hx;rfl
  refine⟨this,λj k hj=> ?_⟩
  rcases h2 with ⟨_,k',hk,hp⟩|⟨_,vals,_,_,hp⟩
  ·rw[hk]at hj;cases j with
   |zero=>cases hj;exact⟨_,hp⟩
   |succ j=>simp at hj
  ·obtain⟨u,_,hu⟩:=hp j k hj;exact⟨u,hu⟩
 |some nx=>
  obtain⟨n,ys⟩:=nx;obtain⟨h1,_,_,_,⟨vals,_,_,hp⟩,_⟩:=h.box n ys hb;rw[h1]at hx;have:xs=pa.cs.map (·.a):=by rcases hx with ⟨g,hx⟩|hx<;>cases hx;rfl
  exact⟨this,λj k hj=>by obtain⟨u,_,hu⟩:=hp j k hj;exact⟨u,hu⟩⟩
theorem sg(bI:Ok E σ w c){ps:ak Pa}{vt:ak (ak CV)}{vs:cG aR}(hh:Handed E σ w c ps vt vs){m:au}{ob:Obj}(h:inj (gQ ps vt) (cf m)= .o ob):
  ∃n o p pa,loc ps m=ab n/\ps[p]? =ab pa/\n∈pa.qb/\σ (cf n)= .o o/\mM E w (nv σ c ps) m ob/\(∀b,ea (nv σ c ps) m ob b->ea c n o b)/\
   ((m=c9 p 900/\∃xs,pa.box=ab (n,xs))\/∃j k e ex,m=c9 p j/\j<900/\pa.cs[j]? =ab k/\k.src= .own n e ex):=by
 obtain⟨p,x,h0,h⟩:=vA h;have adE:∀cs xs,x= .fb cs->¬((∃g,x= .v g xs)\/x= .pt xs):=by rintro cs xs rfl (⟨g,h⟩|h)<;>cases h
 rcases qW h0 with ⟨pa,hp,rfl⟩|⟨_,cs,_,hx⟩
 ·obtain⟨v,hv,DV⟩:=hh.at_ p pa hp;rcases h with ⟨xs,hx,rfl,rfl⟩|⟨xs,j,e,ex,ys,hx,hj,rfl,rfl⟩
  ·cases hb:pa.box with
   |none=>obtain⟨agg,h1,_⟩:=DV.val hb;rw[h1]at hx;cases hx
   |some nx=>
    obtain⟨n,zs⟩:=nx;obtain⟨h1,h2,h3,h4,⟨vals,h5,h6,h7⟩,_⟩:=DV.box n zs hb;rw[h1]at hx;cases hx;have J5:=vC hp hb;obtain⟨e1,e2⟩:=pW (σ:=σ) (c:=c) J5;refine⟨n,_,p,pa,J5,hp,by simp[Pa.qb,hb],h3, ?_,λb hf=>by rw[show b=_ from hf,e1];rfl, .inl ⟨rfl,zs,hb⟩⟩
    refine⟨vals,by rw[e1];exact h5,by rw[fS,bC,h6];exact h4.symm,λj y hj=> ?_⟩
    rw[fH,bc]at hj;cases hk:pa.cs[j]? with
    |none=>rw[hk]at hj;cases hj
    |some k=>
     rw[hk]at hj;cases hj;obtain⟨u,hu,NG⟩:=h7 j k hk;have jc:j<900:=by have:=(aG.1 hk).1;have:=DV.len;omega
     refine⟨u,hu, ?_⟩
     have hn:c9 p 0+j=c9 p j:=by unfold c9;omega
     rw[hn];exact KZ hp hk jc NG
  ·obtain⟨Qc,NG⟩:=KY DV hx;rw[Qc,bc]at hj;cases hk:pa.cs[j]? with
   |none=>rw[hk]at hj;cases hj
   |some k=>
    rw[hk]at hj;have Wj:k.a= .ow e ex ys:=by simpa using hj
    obtain⟨u,hu⟩:=NG j k hk;have jc:j<900:=by have:=(aG.1 hk).1;have:=DV.len;omega
    unfold qQ at hu;split at hu
    ·rename_i n e' pY hs;obtain⟨zs,q1,q2,q3⟩:=hu;rw[Wj]at q2;cases q2;have J5:=AD hp hk hs jc;obtain⟨e1,e2⟩:=pW (σ:=σ) (c:=c) J5;refine⟨n,_,p,pa,J5,hp, ?_,q1, ?_,λb hf=>by rw[jF (c:=⟨λ_=>c.P n,λ_=>c.G n,c.K⟩) (c':=nv σ c ps) ⟨e1,e2⟩]at hf;exact hf, .inr ⟨j,k,e,ex,rfl,jc,hk,hs⟩⟩
     ·refine bm _ (bg.2 ⟨k,aD hk, ?_⟩);simp[Pk.qb,hs]
     ·have j4:=bI.obj n _ q1;obtain⟨⟨t2,r1,r2,r3⟩,r4,r5⟩:=j4;refine⟨⟨t2,r1,by rw[e1];exact r2,r3⟩, ?_,λhx=>by rw[e1,e2];exact r5 hx⟩
      rw[e1,e2];refine r4.frame (λ_=>rfl) (λi j y x u hy hx hr=> ?_);split at hr
      ·rename_i mB;rw[br mB];exact hr
      ·rename_i mB;rw[bF mB];exact hr.frame (λ_ _=>rfl) (λb hb=> .inl hb)
    ·exact bS Wj (hu.2 _ _ _)
 ·rcases h with ⟨xs,h,_⟩|⟨xs,j,e,ex,ys,h,_⟩
  ·rw[hx]at h;cases h
  ·exact bS h (adE cs xs hx)
theorem enter(bI:Ok E σ w c){ps:ak Pa}{vt:ak (ak CV)}{vs:cG aR}(hh:Handed E σ w c ps vt vs):
  Ok E (inj (gQ ps vt)) w (nv σ c ps)/\(∀(p:au) (x:dO),(gQ ps vt)[p]? =ab x->∃v,vs[p]? =ab v/\gu E w (nv σ c ps) (pq p x) v)/\
  ∀b,rI (inj (gQ ps vt)) (nv σ c ps) b->∃n∈ps.flatMap (·.qb),∃o,σ (cf n)= .o o/\ea c n o b:=by
 have Cn:∀{p:au} {pa:Pa} {n:au},ps[p]? =ab pa->n∈pa.qb->n∈ps.flatMap (·.qb):=λhp hn=>bg.2 ⟨_,aD hp,hn⟩;obtain⟨nd1,nd2⟩:=jo hh.nd;refine⟨⟨λm ob h=> ?_,λm ob m' ob' b h h' hf sZ=> ?_,λm ob b h hf hk=> ?_,λb hb=> ?_,λm xs h=>Ax h⟩,λp x hx=> ?_, ?_⟩
 ·obtain⟨n,o,p,pa,_,_,_,_,h,_⟩:=sg bI hh h;exact h
 ·obtain⟨n,o,p,pa,_,hp,hn,ho,_,mR,iP⟩:=sg bI hh h;obtain⟨n',o',p',TW,_,se,iC,qC,_,JZ,P9⟩:=sg bI hh h';have:=bI.sep n o n' o' b ho qC (mR b hf) (JZ b sZ);subst this;have:=nd1 p p' pa TW n hp se hn iC;subst this;rw[hp]at se;cases se;have ndm:=nd2 pa (aD hp);unfold Pa.qb at ndm;obtain⟨_,m2,m3⟩:=dr.1 ndm;have WG:∀(j:au) (k:Pk) (e:au) (ex:aL),pa.cs[j]? =ab k->k.src= .own n e ex->n∈pa.cs.flatMap (·.qb):=λj k e ex hk hs=>bg.2 ⟨k,aD hk,by simp[Pk.qb,hs]⟩;rcases iP with ⟨rfl,xs,hb⟩|⟨j,k,e,ex,rfl,hj,hk,hs⟩
  ·rcases P9 with ⟨rfl,_⟩|⟨j',k',e',pY,rfl,Ia,qB,UF⟩
   ·rfl
   ·exact bS rfl (m3 n (by simp[hb]) n (WG _ _ _ _ qB UF))
  ·rcases P9 with ⟨rfl,xs,hb⟩|⟨j',k',e',pY,rfl,Ia,qB,UF⟩
   ·exact bS rfl (m3 n (by simp[hb]) n (WG _ _ _ _ hk hs))
   ·have:=(jo m2).1 j j' k k' n hk qB (by simp[Pk.qb,hs]) (by simp[Pk.qb,UF]);rw[this]
 ·obtain⟨n,o,p,pa,_,hp,hn,ho,_,mR,_⟩:=sg bI hh h;rcases hk with hk|⟨n',iC,o',qC,sZ⟩
  ·exact bI.kk n o b ho (mR b hf) hk
  ·have:=bI.sep n o n' o' b ho qC (mR b hf) sZ;subst this;exact hh.ap n (Cn hp hn) iC
 ·rcases hb with hb|⟨n',iC,o',qC,sZ⟩
  ·exact bI.lt b hb
  ·exact rI.lt bI ⟨n',o',qC,sZ⟩
 ·rcases qW hx with ⟨pa,hp,rfl⟩|⟨hle,cs,Be,rfl⟩
  ·obtain⟨v,hv,DV⟩:=hh.at_ p pa hp;refine⟨v,hv, ?_⟩
   have small:∀{j:au} {k:Pk},pa.cs[j]? =ab k->j<900:=λhj=>by have:=(aG.1 hj).1;have:=DV.len;omega
   cases hb:pa.box with
   |none=>
    obtain⟨agg,h1,h2⟩:=DV.val hb;rw[h1];rcases h2 with ⟨rfl,k,hk,NG⟩|⟨rfl,vals,rfl,hs,hc⟩
    ·rw[hk];have:=KZ (j:=0) hp (by rw[hk];rfl) (by omega) NG;exact this
    ·refine⟨vals,rfl,by rw[fS,bC];exact hs,λj y hj=> ?_⟩
     rw[fH,bc]at hj;cases hk:pa.cs[j]? with
     |none=>rw[hk]at hj;cases hj
     |some k=>
      rw[hk]at hj;cases hj;obtain⟨u,hu,NG⟩:=hc j k hk;refine⟨u,hu, ?_⟩
      have hn:c9 p 0+j=c9 p j:=by unfold c9;omega
      rw[hn];exact KZ hp hk (small hk) NG
   |some nx=>obtain⟨n,zs⟩:=nx;obtain⟨h1,h2,_⟩:=DV.box n zs hb;rw[h1];show v= .pointer (ab (ad ((nv σ c ps).P (c9 p 900)).blk 0));rw[(pW (vC hp hb)).1];exact h2
  ·obtain⟨b,hv,hf⟩:=hh.fb (p-ps.length) cs Be;rw[show ps.length+(p-ps.length)=p by omega]at hv;exact⟨_,hv,b,rfl,hf.frame (λ_ _=>rfl) (λb hb=> .inl hb)⟩
 ·rintro b ⟨m,ob,h,hf⟩;obtain⟨n,o,p,pa,_,hp,hn,ho,_,mR,_⟩:=sg bI hh h;exact⟨n,Cn hp hn,o,ho,mR b hf⟩
end
end Go.FG

namespace Go.FG
def pC(p j:au)(a:AA):AV:=match a with| .kp _=> .own (c9 p j)|a=>iW (c9 p (100+j)) a
def lu(p:au):au->ak AA->ak AV
 |_,[]=>[]|j,a::r=>pC p j a::lu p (j+1) r
def Cy(p j:au)(a b:AA):ak (au×dF):=
 match b with
 | .kp ys=>(match a with| .ow e ex _=>[(cf (c9 p j), .o (.row e ex ys))]|_=>[])
 | .ow e ex ys=>[(cf (c9 p (100+j)), .o (.row e ex ys))]
 |_=>[]
def pD(p:au):au->ak AA->ak AA->ak (au×dF)
 |_,_,[]=>[]|j,as,b::r=>Cy p j (as.headD .nl) b++pD p (j+1) as.tail r
def xt(p:au)(a:dO)(l:ak AA):ak (au×dF):=
 match a with
 | .v _ xs=>pD p 0 xs l
 | .pt xs=>(cf (c9 p 900), .o (.box (lu p 0 l)))::pD p 0 xs l
 | .fb _=>[]
def Ee:au->ak dO->ak (ak AA)->ak (au×dF)
 |_,[],_=>[]|p,a::r,l=>xt p a (l.headD [])++Ee (p+1) r l.tail
def Ek:au->ak dO->ak (au×dF)
 |_,[]=>[]|q,a::r=>qD q a++Ek (q+1) r
def lC(args:ak dO)(r:dp):St:=gk (Ek 500 r.rs++Ee 0 args r.outs)
def z_(q:au)(a:dO):aL×ak AV:=match a with| .v g xs=>(g,eN (c9 q 0) xs)| .pt _=>(ah,[.bp (c9 q 900) 0])| .fb xs=>(ah,[.fp xs 0])
def iX:au->ak dO->ak (aL×ak AV)
 |_,[]=>[]|q,a::r=>z_ q a::iX (q+1) r
def OG(rs:ak dO):SV:=oL (iX 500 rs)
def IQ(T:Tab)(args:ak dO)(r:dp)(c1:dJ)(w:bf)(v:aR)(w':bf):Prop:=
 ∃c3,Ok T (lC args r) w' c3/\lE (inj args) c1 w (lC args r) c3 w'/\(∀m,inj args (cf m)≠ .ie->c3.P m=c1.P m/\c3.G m=c1.G m)/\gu T w' c3 (OG r.rs) v
def jf(P:b9)(T:Tab)(g:au)(spec:ak dO->ar (aL×dp)):Prop:=
 ∀args r,spec args=ab (ae,r)->∀(w:bf) (c1:dJ) (vs:cG aR),Ok T (inj args) w c1->vs.size=args.length->(∀(p:au) (x:dO),args[p]? =ab x->∃v,vs[p]? =ab v/\gu T w c1 (pq p x) v)->
  (∃fn,P.funcs[g]? =ab fn/\fn.body.isSome=ae/\(fn.name== "runtime.NumGoroutine")=ah)/\Calls P g vs w (λ| .returned v,w'=>IQ T args r c1 w v w'|_,_=>False)
abbrev x7:=au×ar au×Obj
def find(L:ak x7)(m:au):ar au:=
 match L with
 |[]=>af
 |(n,t,_)::r=>if m=n then t else find r m
theorem BT{L:ak x7}{m x:au}(h:find L m=ab x):∃ob,(m,ab x,ob)∈L:=by
 induction L with
 |nil=>cases h
 |cons d L ih=>
  obtain⟨n,t,ob⟩:=d;unfold find at h;split at h
  ·rename_i hm;subst hm;rw[h];exact⟨ob,cR ..⟩
  ·obtain⟨ob,h⟩:=ih h;exact⟨ob,b_ _ h⟩
theorem Nn{L:ak x7}{m:au}{t:ar au}{ob:Obj}(h:(m,t,ob)∈L)(hn:(L.map (·.1)).Nodup):find L m=t:=by
 induction L with
 |nil=>cases h
 |cons d L ih=>
  obtain⟨n,t',ob'⟩:=d;rw[dW,iz]at hn;unfold find;rcases bP.1 h with h'|h'
  ·cases h';rw[br rfl]
  ·have fP:m≠n:=λe=>hn.1 (b7.2 ⟨_,h',e⟩);rw[bF fP];exact ih h' hn.2
def js(ok:aL)(L:ak x7)(v v3:AV):Prop:=
 (v=v3/\match v with| .i _ _=>True| .b _=>True| .s _=>True| .nl=>True| .sh _ _=>ok=ae|_=>False)\/∃n x ob,v= .own n/\v3= .own x/\(n,ab x,ob)∈L
def O7(L:ak x7)(v v3:AV):Prop:=∃n x ob,v= .bp n 0/\v3= .bp x 0/\(n,ab x,ob)∈L
def kO(ok:aL)(L:ak x7)(vs YL:ak AV):Prop:=vs.length=YL.length/\∀(j:au) (v v3:AV),vs[j]? =ab v->YL[j]? =ab v3->js ok L v v3
def ArgRel(ok:aL)(L:ak x7)(s s3:aL×ak AV):Prop:=s.1=s3.1/\s.2.length=s3.2.length/\∀(j:au) (v v3:AV),s.2[j]? =ab v->s3.2[j]? =ab v3->js ok L v v3\/O7 L v v3
def zx(ok:aL)(L:ak x7)(s s3:ak (aL×ak AV)):Prop:=s.length=s3.length/\∀(j:au) (x x3:aL×ak AV),s[j]? =ab x->s3[j]? =ab x3->ArgRel ok L x x3
structure Pb (σ σ3:St) (c c3:dJ) (ok:aL) (qb:ak au) (L:ak x7) (n:au) (t:ar au) (ob:Obj):Prop where
 old:σ (cf n)≠ .ie->n∈qb
 new:σ (cf n)= .ie->n<900000000
 dead:t=af->ob= .dead
 some_:∀x,t=ab x->(σ (cf n)≠ .ie->c3.P x=c.P n/\c3.G x=c.G n)/\
  ((∃e ex ys,ob= .row e ex ys/\σ3 (cf x)= .o (.row e ex ys)/\(ex=ae\/ok=ae))\/∃vs YL,ob= .box vs/\σ3 (cf x)= .o (.box YL)/\kO ok L vs YL)
section
variable {P:b9} {E:eh} {σ:St} {a:Act} {w:bf} {c:dJ} {o:dU} {nm:au} {e:o7}
theorem leave(bI:Ok E σ w c)(cU:dX E σ a w c)(hd:∀d,o.dst=ab d->d<a.tmps.size){ps:ak Pa}{vt:ak (ak CV)}{vs:cG aR}(hh:Handed E σ w c ps vt vs)
  {r:dp} {v:aR} {w':bf} {c3:dJ} (Au:Ok E (lC (gQ ps vt) r) w' c3) (s5:lE (inj (gQ ps vt)) (nv σ c ps) w (lC (gQ ps vt) r) c3 w') (uZ:gu E w' c3 (OG r.rs) v)
  {ok:aL} {L:ak x7} {Fz:ak (au×Obj)} (hL:∀n t ob,(n,t,ob)∈L->Pb σ (lC (gQ ps vt) r) c c3 ok (ps.flatMap (·.qb)) L n t ob) (hnd:(L.map (·.1)).Nodup)
  (abJ:∀n n' x ob ob',(n,ab x,ob)∈L->(n',ab x,ob')∈L->n=n') (lK:∀n∈ps.flatMap (·.qb),∃t ob,(n,t,ob)∈L)
  (SG:∀n x,(n,x)∈Fz->ok=ae/\n∈ps.flatMap (·.kL)/\∃el ex xs,σ (cf n)= .o (.row el ex xs)/\x= .ej el xs) (hFa:ok=ae->∀n∈ps.flatMap (·.kL),∃x,(n,x)∈Fz)
  {ss:ak (aL×ak AV)} (hss:zx ok L ss (iX 500 r.rs)):
  ∃c',Ok E (wr σ (ir (Fz++L.map λt=>(t.1,t.2.2))++dw o (oL ss))) w' c'/\dX E (wr σ (ir (Fz++L.map λt=>(t.1,t.2.2))++dw o (oL ss))) (a.put o.dst v) w' c'/\lE σ c w (wr σ (ir (Fz++L.map λt=>(t.1,t.2.2))++dw o (oL ss))) c' w'/\gO σ c c':=by
 obtain⟨J7,_,Wv⟩:=enter bI hh;let D:ak (au×Obj):=Fz++L.map λt=>(t.1,t.2.2)
 have KB:∀n x,(n,x)∈D->(n,x)∈Fz\/∃t,(n,t,x)∈L:=by
  intro n x hm;rcases aQ.1 hm with h|h
  ·exact .inl h
  ·obtain⟨⟨n',t,ob⟩,h1,h2⟩:=b7.1 h;cases h2;exact .inr ⟨t,h1⟩
 have Zr:∀n t ob,(n,t,ob)∈L->(n,ob)∈D:=λn t ob h=>bm _ (b7.2 ⟨_,h,rfl⟩);have adB:∀n,n∈ps.flatMap (·.qb)->qm D n:=λn hn=>by obtain⟨t,ob,h⟩:=lK n hn;exact⟨ob,Zr n t ob h⟩
 have Eh:∀b,rI (inj (gQ ps vt)) (nv σ c ps) b->ig (qm D) σ c b:=λb hb=>by obtain⟨n,hn,ob,h1,h2⟩:=Wv b hb;exact⟨n,ob,adB n hn,h1,h2⟩
 let K':au->Prop:=λb=>if ok=ae then c3.K b else c.K b
 let c':dJ:=⟨λm=>match find L m with|some x=>c3.P x|none=>c.P m,λm=>match find L m with|some x=>c3.G x|none=>c.G m,K'⟩
 have at_:∀n x ob,(n,ab x,ob)∈L->c'.P n=c3.P x/\c'.G n=c3.G x:=λn x ob h=>by have:=Nn h hnd;simp only[c',this];exact⟨trivial,trivial⟩
 have W4:∀n,find L n=af->c'.P n=c.P n/\c'.G n=c.G n:=λn h=>by simp only[c',h];exact⟨trivial,trivial⟩
 have hA:gO σ c c':=by
  intro m hm;cases hf:find L m with
  |none=>exact W4 m hf
  |some x=>
   obtain⟨ob,hx⟩:=BT hf;obtain⟨e1,e2⟩:=at_ m x ob hx;have he:=hL m _ ob hx;rw[e1,e2];by_cases hn:σ (cf m)= .ie
   ·have:=he.new hn;rcases hm with h|h
    ·exact bS hn h
    ·omega
   ·exact(he.some_ x rfl).1 hn
 have RD:ok=ae->∀b,K' b↔c3.K b:=λh b=>by simp only[K',h,if_true]
 have YX:ok=ah->∀b,K' b↔c.K b:=λh b=>by simp only[K',h];simp
 have K13:∀b,(nv σ c ps).K b->c3.K b:=s5.K;have cK1:∀b,c.K b->(nv σ c ps).K b:=λb hb=> .inl hb;have hK:∀b,c.K b->K' b:=λb hb=>by
  cases h:ok with
  |true=>exact(RD h b).2 (K13 b (cK1 b hb))
  |false=>exact(YX h b).2 hb
 have Mk:∀b,K' b->c.K b\/ig (qm D) σ c b\/w.heap.size<=b:=λb hb=>by
  cases h:ok with
  |true=>
   rcases s5.kn b ((RD h b).1 hb)with h1|h1|h1
   ·rcases h1 with h1|⟨n,hn,ob,h2,h3⟩
    ·exact .inl h1
    ·obtain⟨x,hx⟩:=hFa h n hn;exact .inr (.inl ⟨n,ob,⟨x,bw _ hx⟩,h2,h3⟩)
   ·exact .inr (.inl (Eh b h1))
   ·exact .inr (.inr h1)
  |false=>exact .inl ((YX h b).1 hb)
 have Ar:∀b,K' b->b<w'.heap.size:=λb hb=>by
  cases h:ok with
  |true=>exact Au.lt b ((RD h b).1 hb)
  |false=>exact gF (bI.lt b ((YX h b).1 hb)) s5.size
 have JR:∀n x ob b,(n,ab x,ob)∈L->ea c' n ob b->∃o3,lC (gQ ps vt) r (cf x)= .o o3/\ea c3 x o3 b:=by
  intro n x ob b hm hf;obtain⟨e1,e2⟩:=at_ n x ob hm;rcases((hL n _ ob hm).some_ x rfl).2 with ⟨e,ex,ys,rfl,h3,_⟩|⟨us,Rj,rfl,h3,_⟩
  ·refine⟨_,h3, ?_⟩
   simp only[ea,e1,e2]at hf⊢;exact hf
  ·refine⟨_,h3, ?_⟩
   simp only[ea,e1]at hf⊢;exact hf
 have JA:∀{v v3:AV} {u:aR},js ok L v v3->dz E w' c3 v3 u->dz E w' c' v u/\∀n∈bh v,qm D n:=by
  rintro v v3 u (⟨rfl,h⟩|⟨n,x,ob,rfl,rfl,hm⟩) hu
  ·cases v with
   |sh e xs=>exact⟨ch.frame hu (λ_ _=>rfl) (λb hb=>(RD h b).2 hb),λn hn=>by simp[bh]at hn⟩
   |i=>exact⟨hu,λn hn=>by simp[bh]at hn⟩
   |b=>exact⟨hu,λn hn=>by simp[bh]at hn⟩
   |s=>exact⟨hu,λn hn=>by simp[bh]at hn⟩
   |nl=>exact⟨hu,λn hn=>by simp[bh]at hn⟩
   |_=>exact h.elim
  ·refine⟨?_,λm sc=> ?_⟩
   ·show u=jj (c'.P n);rw[(at_ n x ob hm).1];exact hu
   ·have:m=n:=by simpa [bh]using sc
    subst this;exact⟨ob,Zr _ _ _ hm⟩
 have abd:∀{v v3:AV} {u:aR},O7 L v v3->dz E w' c3 v3 u->dz E w' c' v u/\∀n∈bh v,qm D n:=by
  rintro v v3 u ⟨n,x,ob,rfl,rfl,hm⟩ hu;refine⟨?_,λm sc=> ?_⟩
  ·show u= .pointer (ab (ad (c'.P n).blk 0));rw[(at_ n x ob hm).1];exact hu
  ·have:m=n:=by simpa [bh]using sc
   subst this;exact⟨ob,Zr _ _ _ hm⟩
 have PO:∀{s s3:aL×ak AV} {u:aR},ArgRel ok L s s3->m9 E w' c3 s3.1 s3.2 u->m9 E w' c' s.1 s.2 u/\∀n∈s.2.flatMap bh,qm D n:=by
  rintro ⟨g,xs⟩ ⟨g3,Um⟩ u ⟨h1,h2,h3⟩ hu;have h1:g=g3:=h1;subst h1;have one:∀(j:au) (y:AV) (uu:aR),xs[j]? =ab y->(∀y3,Um[j]? =ab y3->dz E w' c3 y3 uu)->dz E w' c' y uu/\∀n∈bh y,qm D n:=by
   intro j y uu hj hu3;have jc:j<Um.length:=by rw[<-h2];exact(aG.1 hj).1
   have FF:=h3 j y Um[j] hj (by simp[jc]);have oK:=hu3 Um[j] (by simp[jc]);rcases FF with h|h
   ·exact JA h oK
   ·exact abd h oK
  replace hu:m9 E w' c3 g Um u:=hu;unfold m9 at hu;split at hu
  ·rename_i y3;obtain⟨y,rfl⟩:=e8.1 (show xs.length=1 from h2);obtain⟨k1,k2⟩:=one 0 y u rfl (λy3' h=>by cases h;exact hu);exact⟨k1,λn hn=>k2 n (by simpa using hn)⟩
  ·obtain⟨vals,rfl,hs,hv⟩:=hu;have cell:∀(j:au) (y:AV),xs[j]? =ab y->∃uu:aR,vals[j]? =ab uu/\dz E w' c' y uu/\∀n∈bh y,qm D n:=by
    intro j y hj;have jc:j<Um.length:=by rw[<-h2];exact(aG.1 hj).1
    obtain⟨uu,hu,ha⟩:=hv j Um[j] (by simp[jc]);obtain⟨k1,k2⟩:=one j y uu hj (λy3' h=>by simp[jc]at h;rw[<-h];exact ha);exact⟨uu,hu,k1,k2⟩
   refine⟨⟨vals,rfl,by rw[hs];exact h2.symm,λj y hj=> ?_⟩,λn hn=> ?_⟩
   ·obtain⟨uu,k1,k2,_⟩:=cell j y hj;exact⟨uu,k1,k2⟩
   ·obtain⟨y,hy,hn⟩:=bg.1 hn;obtain⟨j,hj⟩:=bB hy;obtain⟨uu,_,_,k3⟩:=cell j y hj;exact k3 n hn
  ·exact hu.elim
 have YG:gu E w' c' (oL ss) v/\∀n∈bO (oL ss),qm D n:=by
  obtain⟨hl,hr⟩:=hss;have gM:∀(l l3:ak (aL×ak AV)),l=ss->l3=iX 500 r.rs->gu E w' c3 (.gM l3) v->gu E w' c' (.gM l) v/\∀n∈bO (.gM l),qm D n:=by
   rintro l l3 rfl rfl ⟨us,rfl,hs,hv⟩;have cell:∀(j:au) (x:aL×ak AV),l[j]? =ab x->∃u:aR,us[j]? =ab u/\m9 E w' c' x.1 x.2 u/\∀n∈x.2.flatMap bh,qm D n:=by
    intro j x hj;have jc:j<(iX 500 r.rs).length:=by rw[<-hl];exact(aG.1 hj).1
    have h3:(iX 500 r.rs)[j]? =ab ((iX 500 r.rs)[j].1,(iX 500 r.rs)[j].2):=by simp[jc]
    obtain⟨u,hu,ha⟩:=hv j _ _ h3;obtain⟨k1,k2⟩:=PO (hr j x _ hj h3) ha;exact⟨u,hu,k1,k2⟩
   refine⟨⟨us,rfl,by rw[hs];exact hl.symm,λj g xs hj=> ?_⟩,λn hn=> ?_⟩
   ·obtain⟨u,k1,k2,_⟩:=cell j (g,xs) hj;exact⟨u,k1,k2⟩
   ·obtain⟨x,hx,hn⟩:=bg.1 hn;obtain⟨j,hj⟩:=bB hx;obtain⟨u,_,_,k3⟩:=cell j x hj;exact k3 n hn
  unfold OG at uZ;cases h3:iX 500 r.rs with
  |nil=>rw[h3]at uZ hl;have:ss=[]:=eH hl;subst this;exact gM [] [] rfl h3.symm uZ
  |cons x l=>
   cases l with
   |nil=>obtain⟨g,xs⟩:=x;rw[h3]at uZ hl;obtain⟨⟨g',EF⟩,rfl⟩:=e8.1 (show ss.length=1 from hl);exact PO (s3:=(g,xs)) (hr 0 _ _ rfl (by rw[h3];rfl)) uZ
   |cons y l=>
    rw[h3]at uZ hl;match ss,hl with
    |s1::s2::st,_=>exact gM _ (x::y::l) rfl h3.symm uZ
    |[_],hl=>simp at hl
    |[],hl=>simp at hl
 refine⟨c', ?_⟩
 have:=BG bI cU hd (D:=D) (s:=oL ss) (v:=v) (w':=w') (c':=c') hA ?_ ?_ ?_ ?_ hK Mk Ar ?_ s5.size s5.os s5.tape s5.output YG.1 (λn hn=> .inr (YG.2 n hn))
 ·exact⟨this.1,this.2.1,this.2.2,hA⟩
 ·intro n x hm;rcases KB n x hm with hm|⟨t,hm⟩
  ·obtain⟨J8,hn,el,ex,xs,hg,rfl⟩:=SG n x hm;have Ws:find L n=none:=by
    cases hf:find L n with
    |none=>rfl
    |some x=>obtain⟨ob,hx⟩:=BT hf;have:=(hL n _ ob hx).old (by rw[hg];simp);exact bS hn (hh.ap n this)
   obtain⟨e1,_⟩:=W4 n Ws;obtain⟨h1,h2,ti,h3,h4⟩:=iS bI hg;show ch E w' K' (jj (c'.P n)) _/\(c'.P n).n=_/\_;rw[e1];refine⟨?_,h1,ti,h3,h4.1⟩
   have:=oy bI hg (K:=(nv σ c ps).K) cK1 (λb hb=> .inr ⟨n,hn,_,hg,hb⟩);exact this.frame (s5.Ph J7) (λb hb=>(RD J8 b).2 (K13 b hb))
  ·have he:=hL n t x hm;cases t with
   |none=>rw[he.dead rfl];trivial
   |some y=>
    obtain⟨e1,e2⟩:=at_ n y x hm;rcases(he.some_ y rfl).2 with ⟨el,ex,ys,rfl,h3,hor⟩|⟨us,Rj,rfl,h3,hl,hc⟩
    ·obtain⟨⟨t2,r1,r2,r3⟩,r4,r5⟩:=Au.obj y _ h3;refine⟨⟨t2,r1,by rw[e1];exact r2,r3⟩, ?_,λhx=>by rw[e1,e2];exact r5 hx⟩
     rw[e1,e2];refine r4.frame (λ_=>rfl) (λi j yy xx u hy hx hr=> ?_);split at hr
     ·rename_i mB;rw[br mB];exact hr
     ·rename_i mB;rw[bF mB];have J8:=hor.resolve_left mB;exact hr.frame (λ_ _=>rfl) (λb hb=>(RD J8 b).2 hb)
    ·obtain⟨vals,hb,hs,hv⟩:=Au.obj y _ h3;refine⟨vals,by rw[e1];exact hb,by rw[hs];exact hl.symm,λj yy hj=> ?_⟩
     have jc:j<Rj.length:=by rw[<-hl];exact(aG.1 hj).1
     obtain⟨u,hu,ha⟩:=hv j Rj[j] (by simp[jc]);exact⟨u,hu,(JA (hc j yy Rj[j] hj (by simp[jc])) ha).1⟩
 ·intro n x b hm hf;rcases KB n x hm with hm|⟨t,hm⟩
  ·obtain⟨_,_,el,ex,xs,_,rfl⟩:=SG n x hm;exact hf.elim
  ·cases t with
   |none=>rw[(hL n _ x hm).dead rfl]at hf;exact hf.elim
   |some y=>
    obtain⟨o3,h3,Zb⟩:=JR n y x b hm hf;have q9:ig (qm D) σ c b\/w.heap.size<=b:=(s5.own b ⟨y,o3,h3,Zb⟩).imp (Eh b) id;refine⟨q9,λhk=> ?_⟩
    cases h:ok with
    |true=>exact Au.kk y o3 b h3 Zb ((RD h b).1 hk)
    |false=>
     have hk:=(YX h b).1 hk;rcases q9 with q9|q9
     ·exact bI.Cq q9.own hk
     ·have:=bI.lt b hk;omega
 ·intro n x n' x' b hm sc hf sZ;rcases KB n x hm with hm|⟨t,hm⟩
  ·obtain⟨_,_,el,ex,xs,_,rfl⟩:=SG n x hm;exact hf.elim
  ·rcases KB n' x' sc with sc|⟨t',sc⟩
   ·obtain⟨_,_,el,ex,xs,_,rfl⟩:=SG n' x' sc;exact sZ.elim
   ·cases t with
    |none=>rw[(hL n _ x hm).dead rfl]at hf;exact hf.elim
    |some y=>
     cases t' with
     |none=>rw[(hL n' _ x' sc).dead rfl]at sZ;exact sZ.elim
     |some y'=>obtain⟨o3,h3,Zb⟩:=JR n y x b hm hf;obtain⟨o3',FF,aby⟩:=JR n' y' x' b sc sZ;have:=Au.sep y o3 y' o3' b h3 FF Zb aby;subst this;exact abJ n n' y x x' hm sc
 ·intro n xs hm y hy m UD;rcases KB n _ hm with hm|⟨t,hm⟩
  ·obtain⟨_,_,el,ex,zs,_,h⟩:=SG n _ hm;cases h
  ·have he:=hL n t _ hm;cases t with
   |none=>have:=he.dead rfl;cases this
   |some z=>
    rcases(he.some_ z rfl).2 with ⟨el,ex,ys,h,_⟩|⟨us,Rj,h,h3,hl,hc⟩
    ·cases h
    ·cases h;obtain⟨j,hj⟩:=bB hy;have jc:j<Rj.length:=by rw[<-hl];exact(aG.1 hj).1
     rcases hc j y Rj[j] hj (by simp[jc])with ⟨h1,h2⟩|⟨n',x',ob',h1,_,h2⟩
     ·exfalso;subst h1;cases h:Rj[j]<;>rw[h]at UD h2<;>first|(simp[bh]at UD;done)|exact h2
     ·rw[h1]at UD;have:m=n':=by simpa [bh]using UD
      subst this;exact .inr ⟨ob',Zr _ _ _ h2⟩
 ·intro b hb ND;exact s5.same b hb (λho=>ND (Eh b ho))
end
end Go.FG

namespace Go.FG
def EN(a:dO)(xs:ak AA):Prop:=(∃g,a= .v g xs)\/a= .pt xs
inductive vQ (args:ak dO) (r:dp):au->dF->Prop
 |rb (q xs):r.rs[q]? =ab (.pt xs)->vQ args r (c9 (500+q) 900) (.o (.box (eN (c9 (500+q) 0) xs)))
 |rr (q a xs j e ex ys):r.rs[q]? =ab a->EN a xs->xs[j]? =ab (.ow e ex ys)->vQ args r (c9 (500+q) j) (.o (.row e ex ys))
 |ob (p xs):args[p]? =ab (.pt xs)->vQ args r (c9 p 900) (.o (.box (lu p 0 (r.outs.getD p []))))
 |kp (p a xs j e ex z ys):args[p]? =ab a->EN a xs->xs[j]? =ab (.ow e ex z)->(r.outs.getD p [])[j]? =ab (.kp ys)->vQ args r (c9 p j) (.o (.row e ex ys))
 |nw (p a xs j e ex ys):args[p]? =ab a->EN a xs->(r.outs.getD p [])[j]? =ab (.ow e ex ys)->vQ args r (c9 p (100+j)) (.o (.row e ex ys))
theorem Cm:∀{l:ak dO} {q:au} {k:au} {c:dF},(k,c)∈Ek q l↔∃i a,l[i]? =ab a/\(k,c)∈qD (q+i) a:=by
 intro l;induction l with
 |nil=>intro q k c;simp[Ek]
 |cons a l ih=>
  intro q k c;simp only[Ek,aQ,ih];constructor
  ·rintro (h|⟨i,b,h0,h⟩)
   ·exact⟨0,a,rfl,h⟩
   ·exact⟨i+1,b,h0,by rw[show q+(i+1)=q+1+i by omega];exact h⟩
  ·rintro ⟨i,b,h0,h⟩;cases i with
   |zero=>cases h0;exact .inl h
   |succ i=>exact .inr ⟨i,b,h0,by rw[show q+1+i=q+(i+1)by omega];exact h⟩
theorem Cj:∀{l:ak dO} {p:au} {os:ak (ak AA)} {k:au} {c:dF},(k,c)∈Ee p l os↔∃i a,l[i]? =ab a/\(k,c)∈xt (p+i) a (os.getD i []):=by
 intro l;induction l with
 |nil=>intro p os k c;simp[Ee]
 |cons a l ih=>
  intro p os k c;have h0:os.headD []=os.getD 0 []:=by cases os<;>rfl
  have h1:∀i,os.tail.getD i []=os.getD (i+1) []:=λi=>by cases os<;>simp
  simp only[Ee,aQ,ih,h0,h1];constructor
  ·rintro (h|⟨i,b,hb,h⟩)
   ·exact⟨0,a,rfl,h⟩
   ·exact⟨i+1,b,hb,by rw[show p+(i+1)=p+1+i by omega];exact h⟩
  ·rintro ⟨i,b,hb,h⟩;cases i with
   |zero=>cases hb;exact .inl h
   |succ i=>exact .inr ⟨i,b,hb,by rw[show p+1+i=p+(i+1)by omega];exact h⟩
theorem tV{p j:au}{a b:AA}{k:au}{c:dF}:(k,c)∈Cy p j a b↔(∃e ex z ys,a= .ow e ex z/\b= .kp ys/\k=cf (c9 p j)/\c= .o (.row e ex ys))\/∃e ex ys,b= .ow e ex ys/\k=cf (c9 p (100+j))/\c= .o (.row e ex ys):=by
 cases b with
 |kp ys=>
  cases a with
  |ow e ex z=>
   constructor
   ·intro h;have h:=aP.1 h;cases h;exact .inl ⟨e,ex,z,ys,rfl,rfl,rfl,rfl⟩
   ·rintro (⟨e',pY,z',xY,h1,h2,h3,h4⟩|⟨_,_,_,h,_⟩)
    ·cases h1;cases h2;rw[h3,h4];exact aP.2 rfl
    ·cases h
  |_=>simp[Cy]
 |ow e ex ys=>
  constructor
  ·intro h;have h:=aP.1 h;cases h;exact .inr ⟨e,ex,ys,rfl,rfl,rfl⟩
  ·rintro (⟨_,_,_,_,_,h,_⟩|⟨e',pY,xY,h2,h3,h4⟩)
   ·cases h
   ·cases h2;rw[h3,h4];exact aP.2 rfl
 |_=>simp[Cy]
theorem D4{p:au}:∀{l:ak AA} {j:au} {as:ak AA} {k:au} {c:dF},(k,c)∈pD p j as l↔∃i b,l[i]? =ab b/\(k,c)∈Cy p (j+i) (as.getD i .nl) b:=by
 intro l;induction l with
 |nil=>intro j as k c;simp[pD]
 |cons b l ih=>
  intro j as k c;have h0:as.headD .nl=as.getD 0 .nl:=by cases as<;>rfl
  have h1:∀i,as.tail.getD i .nl=as.getD (i+1) .nl:=λi=>by cases as<;>simp
  simp only[pD,aQ,ih,h0,h1];constructor
  ·rintro (h|⟨i,b',hb,h⟩)
   ·exact⟨0,b,rfl,h⟩
   ·exact⟨i+1,b',hb,by rw[show j+(i+1)=j+1+i by omega];exact h⟩
  ·rintro ⟨i,b',hb,h⟩;cases i with
   |zero=>cases hb;exact .inl h
   |succ i=>exact .inr ⟨i,b',hb,by rw[show j+1+i=j+(i+1)by omega];exact h⟩
theorem Ap{xs:ak AA}{i e:au}{ex:aL}{z:aY}:xs.getD i .nl= .ow e ex z↔xs[i]? =ab (.ow e ex z):=by
 rw[cT];cases h:xs[i]? with
 |none=>simp
 |some x=>simp
theorem nC{p:au}{a:dO}{l:ak AA}{k:au}{c:dF}:(k,c)∈xt p a l↔(∃xs,a= .pt xs/\k=cf (c9 p 900)/\c= .o (.box (lu p 0 l)))\/∃xs,EN a xs/\((∃j e ex z ys,xs[j]? =ab (.ow e ex z)/\l[j]? =ab (.kp ys)/\k=cf (c9 p j)/\c= .o (.row e ex ys))\/∃j e ex ys,l[j]? =ab (.ow e ex ys)/\k=cf (c9 p (100+j))/\c= .o (.row e ex ys)):=by
 have cells:∀xs,(k,c)∈pD p 0 xs l↔((∃j e ex z ys,xs[j]? =ab (.ow e ex z)/\l[j]? =ab (.kp ys)/\k=cf (c9 p j)/\c= .o (.row e ex ys))\/∃j e ex ys,l[j]? =ab (.ow e ex ys)/\k=cf (c9 p (100+j))/\c= .o (.row e ex ys)):=by
  intro xs;rw[D4];constructor
  ·rintro ⟨i,b,hb,h⟩;rw[bu]at h;rcases tV.1 h with ⟨e,ex,z,ys,h1,rfl,h2,h3⟩|⟨e,ex,ys,rfl,h2,h3⟩
   ·exact .inl ⟨i,e,ex,z,ys,Ap.1 h1,hb,h2,h3⟩
   ·exact .inr ⟨i,e,ex,ys,hb,h2,h3⟩
  ·rintro (⟨i,e,ex,z,ys,h1,hb,h2,h3⟩|⟨i,e,ex,ys,hb,h2,h3⟩)
   ·exact⟨i,_,hb,tV.2 (.inl ⟨e,ex,z,ys,Ap.2 h1,rfl,by rw[bu];exact h2,h3⟩)⟩
   ·exact⟨i,_,hb,tV.2 (.inr ⟨e,ex,ys,rfl,by rw[bu];exact h2,h3⟩)⟩
 cases a with
 |v g xs=>
  simp only[xt,cells];constructor
  ·intro h;exact .inr ⟨xs, .inl ⟨g,rfl⟩,h⟩
  ·rintro (⟨ys,h,_⟩|⟨ys,h|h,h'⟩)
   ·cases h
   ·obtain⟨g',h⟩:=h;cases h;exact h'
   ·cases h
 |pt xs=>
  simp only[xt,bP,cells,hZ];constructor
  ·rintro (⟨h1,h2⟩|h)
   ·exact .inl ⟨xs,rfl,h1,h2⟩
   ·exact .inr ⟨xs, .inr rfl,h⟩
  ·rintro (⟨ys,h,h1,h2⟩|⟨ys,h|h,h'⟩)
   ·exact .inl ⟨h1,h2⟩
   ·obtain⟨g',h⟩:=h;cases h
   ·cases h;exact .inr h'
 |fb xs=>
  simp only[xt,uM,false_iff];rintro (⟨ys,h,_⟩|⟨ys,h|h,_⟩)
  ·cases h
  ·obtain⟨g',h⟩:=h;cases h
  ·cases h
theorem rZ{args:ak dO}{r:dp}{m:au}{c:dF}:(cf m,c)∈Ek 500 r.rs++Ee 0 args r.outs↔vQ args r m c:=by
 rw[aQ,Cm,Cj];constructor
 ·rintro (⟨q,a,h0,h⟩|⟨p,a,h0,h⟩)
  ·rcases fD.1 h with ⟨xs,rfl,h1,rfl⟩|⟨xs,j,e,ex,ys,hx,hj,h1,rfl⟩
   ·rw[ic h1];exact .rb q xs h0
   ·rw[ic h1];exact .rr q a xs j e ex ys h0 hx hj
  ·rw[bu]at h;rcases nC.1 h with ⟨xs,rfl,h1,rfl⟩|⟨xs,hx,⟨j,e,ex,z,ys,h2,h3,h1,rfl⟩|⟨j,e,ex,ys,h3,h1,rfl⟩⟩
   ·rw[ic h1];exact .ob p xs h0
   ·rw[ic h1];exact .kp p a xs j e ex z ys h0 hx h2 h3
   ·rw[ic h1];exact .nw p a xs j e ex ys h0 hx h3
 ·intro h;cases h with
  |rb q xs h0=>exact .inl ⟨q,_,h0,fD.2 (.inl ⟨xs,rfl,rfl,rfl⟩)⟩
  |rr q a xs j e ex ys h0 hx hj=>exact .inl ⟨q,a,h0,fD.2 (.inr ⟨xs,j,e,ex,ys,hx,hj,rfl,rfl⟩)⟩
  |ob p xs h0=>exact .inr ⟨p,_,h0,nC.2 (.inl ⟨xs,rfl,by rw[bu],by rw[bu]⟩)⟩
  |kp p a xs j e ex z ys h0 hx h2 h3=>exact .inr ⟨p,a,h0,nC.2 (.inr ⟨xs,hx, .inl ⟨j,e,ex,z,ys,h2,h3,by rw[bu],rfl⟩⟩)⟩
  |nw p a xs j e ex ys h0 hx h3=>exact .inr ⟨p,a,h0,nC.2 (.inr ⟨xs,hx, .inr ⟨j,e,ex,ys,h3,by rw[bu],rfl⟩⟩)⟩
def OI:ar AA->ar dF
 |some (.ow e ex ys)=>ab (.o (.row e ex ys))|_=>af
def kpC(a b:ar AA):ar dF:=
 match a,b with|some (.ow e ex _),ab (.kp ys)=>ab (.o (.row e ex ys))|_,_=>af
def Jo:dO->ak AA| .v _ xs=>xs| .pt xs=>xs| .fb _=>[]
theorem EN.eq{a:dO}{xs:ak AA}(h:EN a xs):Jo a=xs:=by rcases h with ⟨g,rfl⟩|rfl<;>rfl
def yS(args:ak dO)(r:dp)(P J:au):ar dF:=
 if 500<=P then(match r.rs[P-500]? with
  |some a=>if J=900 then ab (.o (.box (eN (c9 P 0) (Jo a))))else OI (Jo a)[J]?
  |none=>af)
 else(match args[P]? with
  |some a=>if J=900 then ab (.o (.box (lu P 0 (r.outs.getD P []))))else if J<100 then kpC (Jo a)[J]? (r.outs.getD P [])[J]? else OI (r.outs.getD P [])[J-100]?
  |none=>af)
structure Small (args:ak dO) (r:dp):Prop where
 a:∀(p:au) (a:dO) (xs:ak AA),args[p]? =ab a->EN a xs->p<500
 rl:∀(q:au) (a:dO) (xs:ak AA),r.rs[q]? =ab a->EN a xs->xs.length<=100
 o:∀p:au,(r.outs.getD p []).length<=100
theorem BO{args:ak dO}{r:dp}(hs:Small args r){m:au}{c:dF}(h:vQ args r m c):∃P J,m=c9 P J/\J<1000/\yS args r P J=ab c:=by
 cases h with
 |rb q xs h0=>exact⟨500+q,900,rfl,by omega,by simp[yS,h0,Jo]⟩
 |rr q a xs j e ex ys h0 hx hj=>
  have:=hs.rl q a xs h0 hx;have jc:=(aG.1 hj).1;refine⟨500+q,j,rfl,by omega, ?_⟩
  have:j≠900:=by omega
  simp[yS,h0,hx.eq,hj,this,OI]
 |ob p xs h0=>
  have:=hs.a p _ xs h0 (.inr rfl);have:¬500<=p:=by omega
  exact⟨p,900,rfl,by omega,by simp[yS,h0,this]⟩
 |kp p a xs j e ex z ys h0 hx h2 h3=>
  have:=hs.a p _ xs h0 hx;have h5:¬500<=p:=by omega
  have jc:=(aG.1 h3).1;have:=hs.o p;have G6:j≠900:=by omega
  have NB:j<100:=by omega
  refine⟨p,j,rfl,by omega, ?_⟩
  simp only[yS,h0,hx.eq,h2,h3,G6,NB,h5,if_false,if_true,kpC]
 |nw p a xs j e ex ys h0 hx h3=>
  have:=hs.a p _ xs h0 hx;have h5:¬500<=p:=by omega
  have jc:=(aG.1 h3).1;have:=hs.o p;have G6:¬100+j=900:=by omega
  have NB:¬100+j<100:=by omega
  refine⟨p,100+j,rfl,by omega, ?_⟩
  have hj3:100+j-100=j:=by omega
  simp only[yS,h0,h3,G6,NB,hj3,h5,if_false,OI]
theorem ue:∀{l:ak (au×dF)} {k:au} {c:dF},(k,c)∈l->(∀c',(k,c')∈l->c'=c)->gk l k=c:=by
 intro l;induction l with
 |nil=>intro k c h;cases h
 |cons d l ih=>
  obtain⟨k',c'⟩:=d;intro k c h hu;unfold gk;cases hb:a_ k k' with
  |true=>have:=aJ hb;subst this;exact hu c' (cR ..)
  |false=>
   rcases bP.1 h with h|h
   ·cases h;simp at hb
   ·exact ih h (λc'' h''=>hu c'' (b_ _ h''))
theorem rY{args:ak dO}{r:dp}(hs:Small args r){m:au}{c:dF}(h:vQ args r m c):lC args r (cf m)=c:=by refine ue (rZ.2 h) (λc' h'=> ?_);obtain⟨P,J,h1,h2,h3⟩:=BO hs h;obtain⟨P',J',DP,G1,FF⟩:=BO hs (rZ.1 h');obtain⟨rfl,rfl⟩:=qd h2 G1 (h1.symm.trans DP);rw[h3]at FF;cases FF;rfl
theorem ny{args:ak dO}{r:dp}{m:au}{o:Obj}(h:lC args r (cf m)= .o o):vQ args r m (.o o):=rZ.1 (kY h (by simp))
theorem rm{p:au}:∀{xs:ak AA} {j i:au},(lu p j xs)[i]? =(xs[i]?).map (pC p (j+i)):=by
 intro xs;induction xs with
 |nil=>intro j i;simp[lu]
 |cons a xs ih=>
  intro j i;cases i with
  |zero=>rfl
  |succ i=>simp only[lu,cZ,ih];congr 2;omega
theorem qE{p:au}:∀{xs:ak AA} {j:au},(lu p j xs).length=xs.length:=by
 intro xs;induction xs with
 |nil=>intro j;rfl
 |cons a xs ih=>intro j;simp[lu,ih]
theorem zp:∀{l:ak dO} {q i:au},(iX q l)[i]? =(l[i]?).map (z_ (q+i)):=by
 intro l;induction l with
 |nil=>intro q i;simp[iX]
 |cons a l ih=>
  intro q i;cases i with
  |zero=>rfl
  |succ i=>simp only[iX,cZ,ih];congr 2;omega
theorem sj:∀{l:ak dO} {q:au},(iX q l).length=l.length:=by
 intro l;induction l with
 |nil=>intro q;rfl
 |cons a l ih=>intro q;simp[iX,ih]
end Go.FG

namespace Go.FG
def jJ(L:ak x7):ak (au×dF):=ir (L.map λt=>(t.1,t.2.2))
theorem fN(L R:ak x7):jJ (L++R)=jJ L++jJ R:=by simp[jJ,ir]
def Il(ok:aL)(σ:St)(n:au)(a:AA):Prop:=
 match a with
 | .ow _ ex _=>(ex=ae\/ok=ae)/\σ (cf n)= .ie/\n<900000000
 | .sh _ _=>ok=ae| .kp _=>False| .fn _ _=>False|_=>True
def Hi(n x:au)(a:AA):ak x7:=match a with| .ow e ex ys=>[(n,ab x, .row e ex ys)]|_=>[]
theorem Ci{n x:au}{a:AA}{m:au}{t:ar au}{ob:Obj}:(m,t,ob)∈Hi n x a↔∃e ex ys,a= .ow e ex ys/\m=n/\t=ab x/\ob= .row e ex ys:=by
 cases a with
 |ow e ex ys=>
  constructor
  ·intro h;have h:=aP.1 h;cases h;exact⟨e,ex,ys,rfl,rfl,rfl,rfl⟩
  ·rintro ⟨e',pY,xY,h,rfl,rfl,rfl⟩;cases h;exact aP.2 rfl
 |_=>simp[Hi]
theorem js.mono{ok:aL}{L L':ak x7}{v v3:AV}(h:js ok L v v3)(hs:∀e∈L,e∈L'):js ok L' v v3:=h.imp id (λ⟨n,x,ob,h1,h2,h3⟩=>⟨n,x,ob,h1,h2,hs _ h3⟩)
theorem kO.mono{ok:aL}{L L':ak x7}{v v3:ak AV}(h:kO ok L v v3)(hs:∀e∈L,e∈L'):kO ok L' v v3:=⟨h.1,λj x y hx hy=>(h.2 j x y hx hy).mono hs⟩
section
variable {P:b9} {E:eh} {σ:St} {a:Act} {w:bf} {c:dJ} {o:dU} {nm:au} {e:o7}
theorem yM{ok:aL}{n:au}{a:AA}{v:AV}{ws:ak (au×dF)}(h:(n7 ok n a).val σ=ab (v,ws)):Il ok σ n a/\v=iW n a/\∀x,ws=jJ (Hi n x a)/\js ok (Hi n x a) v (iW x a):=by
 cases a with
 |i=>obtain⟨rfl,rfl⟩:=bn (aq h);exact⟨trivial,rfl,λx=>⟨rfl, .inl ⟨rfl,trivial⟩⟩⟩
 |b=>obtain⟨rfl,rfl⟩:=bn (aq h);exact⟨trivial,rfl,λx=>⟨rfl, .inl ⟨rfl,trivial⟩⟩⟩
 |s=>obtain⟨rfl,rfl⟩:=bn (aq h);exact⟨trivial,rfl,λx=>⟨rfl, .inl ⟨rfl,trivial⟩⟩⟩
 |nl=>obtain⟨rfl,rfl⟩:=bn (aq h);exact⟨trivial,rfl,λx=>⟨rfl, .inl ⟨rfl,trivial⟩⟩⟩
 |sh e xs=>obtain⟨h1,h⟩:=bQ h;obtain⟨rfl,rfl⟩:=bn (aq h);exact⟨h1,rfl,λx=>⟨rfl, .inl ⟨rfl,h1⟩⟩⟩
 |ow e ex xs=>obtain⟨h1,h⟩:=bQ h;obtain⟨u,h2,h⟩:=Rd.bind_some h;obtain⟨rfl,rfl⟩:=bn (aq h);obtain⟨f1,f2⟩:=iB h2;exact⟨⟨by simpa using h1,f1,f2⟩,rfl,λx=>⟨rfl, .inr ⟨n,x,_,rfl,rfl,aP.2 rfl⟩⟩⟩
 |kp=>simp[n7]at h
 |fn=>simp[n7]at h
theorem wi{ok:aL}{P:au}:∀{xs:ak AA} {n j:au} {vs:ak AV} {ws:ak (au×dF)},(vj ok n xs).val σ=ab (vs,ws)->vs=eN n xs/\(∀(i:au) (a:AA),xs[i]? =ab a->Il ok σ (n+i) a)/\
  ∃L,ws=jJ L/\(∀m t ob,(m,t,ob)∈L↔∃i e ex ys,xs[i]? =ab (.ow e ex ys)/\m=n+i/\t=ab (c9 P (j+i))/\ob= .row e ex ys)/\∀(i:au) (v:AV) (a:AA),vs[i]? =ab v->xs[i]? =ab a->js ok L v (iW (c9 P (j+i)) a):=by
 intro xs;induction xs with
 |nil=>intro n j vs ws h;obtain⟨rfl,rfl⟩:=bn (aq h);exact⟨rfl,λi a h=>by simp at h,[],rfl,λm t ob=>by simp,λi v a h=>by simp at h⟩
 |cons a xs ih=>
  intro n j vs ws h;obtain⟨⟨v,w1⟩,h1,h⟩:=Rd.bind_some h;obtain⟨⟨vr,w2⟩,h2,h⟩:=Rd.bind_some h;obtain⟨rfl,rfl⟩:=bn (aq h);obtain⟨b1,rfl,b2⟩:=yM h1;obtain⟨rfl,b3⟩:=b2 (c9 P j);obtain⟨i1,i2,L,rfl,i3,i4⟩:=ih (j:=j+1) h2;refine⟨by rw[i1];rfl,λi a' hi=> ?_,Hi n (c9 P j) a++L,by rw[fN],λm t ob=> ?_,λi v' a' hv ha=> ?_⟩
  ·cases i with
   |zero=>cases hi;exact b1
   |succ i=>have:=i2 i a' hi;rwa[show n+1+i=n+(i+1)by omega]at this
  ·rw[aQ,Ci,i3];constructor
   ·rintro (⟨e,ex,ys,rfl,rfl,rfl,rfl⟩|⟨i,e,ex,ys,h1,rfl,rfl,rfl⟩)
    ·exact⟨0,e,ex,ys,rfl,rfl,rfl,rfl⟩
    ·exact⟨i+1,e,ex,ys,h1,by omega,by rw[show j+1+i=j+(i+1)by omega],rfl⟩
   ·rintro ⟨i,e,ex,ys,h1,rfl,rfl,rfl⟩;cases i with
    |zero=>cases h1;exact .inl ⟨e,ex,ys,rfl,rfl,rfl,rfl⟩
    |succ i=>exact .inr ⟨i,e,ex,ys,h1,by omega,by rw[show j+1+i=j+(i+1)by omega],rfl⟩
  ·cases i with
   |zero=>cases hv;cases ha;exact b3.mono (λe he=>bw _ he)
   |succ i=>have:=(i4 i v' a' hv ha).mono (L':=Hi n (c9 P j) a++L) (λe he=>bm _ he);rwa[show j+1+i=j+(i+1)by omega]at this
def Bs(σ:St)(ok:aL)(b P:au)(x:dO)(L:ak x7)(n:au)(t:ar au)(ob:Obj):Prop:=
 (∃xs j e ex ys,EN x xs/\xs[j]? =ab (.ow e ex ys)/\n=b+j/\t=ab (c9 P j)/\ob= .row e ex ys/\(ex=ae\/ok=ae)/\σ (cf n)= .ie/\n<900000000)\/
 ∃xs,x= .pt xs/\n=b+30/\t=ab (c9 P 900)/\ob= .box (eN b xs)/\σ (cf n)= .ie/\n<900000000/\kO ok L (eN b xs) (eN (c9 P 0) xs)
theorem Ds{ok:aL}{b P:au}{x:dO}{s:aL×ak AV}{ws:ak (au×dF)}(h:(Ad ok b x).val σ=ab (s,ws)):∃L,ws=jJ L/\(∀n t ob,(n,t,ob)∈L->Bs σ ok b P x L n t ob)/\ArgRel ok L s (z_ P x):=by
 have pz:∀j,c9 P (0+j)=c9 P 0+j:=λj=>by unfold c9;omega
 cases x with
 |v g xs=>
  obtain⟨⟨vs,w1⟩,h1,h⟩:=Rd.bind_some h;obtain⟨rfl,rfl⟩:=bn (aq h);obtain⟨rfl,i2,L,rfl,i3,i4⟩:=wi (P:=P) (j:=0) h1;refine⟨L,rfl,λn t ob hm=> ?_,rfl,by simp[z_,fS],λj v v3 hv yn=> .inl ?_⟩
  ·obtain⟨i,e,ex,ys,h1,rfl,rfl,rfl⟩:=(i3 n t ob).1 hm;have:=i2 i _ h1;exact .inl ⟨xs,i,e,ex,ys, .inl ⟨g,rfl⟩,h1,rfl,by rw[bu],rfl,this⟩
  ·have yn:(eN (c9 P 0) xs)[j]? =ab v3:=yn;rw[fH]at yn;cases hx:xs[j]? with
   |none=>rw[hx]at yn;cases yn
   |some a=>rw[hx]at yn;cases yn;have:=i4 j v a hv hx;rwa[pz]at this
 |pt xs=>
  obtain⟨⟨vs,w1⟩,h1,h⟩:=Rd.bind_some h;obtain⟨u,h2,h⟩:=Rd.bind_some h;obtain⟨rfl,rfl⟩:=bn (aq h);obtain⟨f1,f2⟩:=iB h2;obtain⟨rfl,i2,L,rfl,i3,i4⟩:=wi (P:=P) (j:=0) h1;have cr:kO ok L (eN b xs) (eN (c9 P 0) xs):=by
   refine⟨by rw[fS,fS],λj v v3 hv yn=> ?_⟩
   rw[fH]at yn;cases hx:xs[j]? with
   |none=>rw[hx]at yn;cases yn
   |some a=>rw[hx]at yn;cases yn;have:=i4 j v a hv hx;rwa[pz]at this
  refine⟨L++[(b+30,ab (c9 P 900), .box (eN b xs))],by rw[fN];rfl,λn t ob hm=> ?_,rfl,rfl,λj v v3 hv yn=> .inr ?_⟩
  ·rcases aQ.1 hm with hm|hm
   ·obtain⟨i,e,ex,ys,h1,rfl,rfl,rfl⟩:=(i3 n t ob).1 hm;have:=i2 i _ h1;exact .inl ⟨xs,i,e,ex,ys, .inr rfl,h1,rfl,by rw[bu],rfl,this⟩
   ·rw[aP]at hm;cases hm;exact .inr ⟨xs,rfl,rfl,rfl,rfl,f1,f2,cr.mono (λe he=>bw _ he)⟩
  ·cases j with
   |zero=>cases hv;cases yn;exact⟨_,_,_,rfl,rfl,bm _ (aP.2 rfl)⟩
   |succ j=>simp at hv
 |fb xs=>simp[Ad]at h
theorem ArgRel.mono{ok:aL}{L L':ak x7}{s s3:aL×ak AV}(h:ArgRel ok L s s3)(hs:∀e∈L,e∈L'):ArgRel ok L' s s3:=⟨h.1,h.2.1,λj x y hx hy=>(h.2.2 j x y hx hy).imp (λh=>h.mono hs) (λ⟨n,x,ob,h1,h2,h3⟩=>⟨n,x,ob,h1,h2,hs _ h3⟩)⟩
theorem Bs.mono{ok:aL}{b P:au}{x:dO}{L L':ak x7}{n:au}{t:ar au}{ob:Obj}(h:Bs σ ok b P x L n t ob)(hs:∀e∈L,e∈L'):Bs σ ok b P x L' n t ob:=h.imp id (λ⟨xs,h1,h2,h3,h4,h5,h6,h7⟩=>⟨xs,h1,h2,h3,h4,h5,h6,h7.mono hs⟩)
theorem BB{ok:aL}:∀{l:ak dO} {b P:au} {ss:ak (aL×ak AV)} {ws:ak (au×dF)},(wj ok b l).val σ=ab (ss,ws)->∃L,ws=jJ L/\(∀n t ob,(n,t,ob)∈L->∃q x,l[q]? =ab x/\Bs σ ok (b+40*q) (P+q) x L n t ob)/\zx ok L ss (iX P l):=by
 intro l;induction l with
 |nil=>intro b P ss ws h;obtain⟨rfl,rfl⟩:=bn (aq h);exact⟨[],rfl,λn t ob h=>(by cases h),rfl,λj x x3 h=>by simp at h⟩
 |cons x l ih=>
  intro b P ss ws h;obtain⟨⟨v,w1⟩,h1,h⟩:=Rd.bind_some h;obtain⟨⟨vr,w2⟩,h2,h⟩:=Rd.bind_some h;obtain⟨rfl,rfl⟩:=bn (aq h);obtain⟨L1,rfl,a1,a2⟩:=Ds (P:=P) h1;obtain⟨L2,rfl,b1,b2,b3⟩:=ih (P:=P+1) h2;refine⟨L1++L2,by rw[fN],λn t ob hm=> ?_,by simp[iX,b2],λj s s3 hs hs3=> ?_⟩
  ·rcases aQ.1 hm with hm|hm
   ·exact⟨0,x,rfl,(a1 n t ob hm).mono (λe he=>bw _ he)⟩
   ·obtain⟨q,y,hq,hr⟩:=b1 n t ob hm;refine⟨q+1,y,hq, ?_⟩
    rw[show b+40*(q+1)=b+40+40*q by omega,show P+(q+1)=P+1+q by omega];exact hr.mono (λe he=>bm _ he)
  ·cases j with
   |zero=>cases hs;cases hs3;exact a2.mono (λe he=>bw _ he)
   |succ j=>exact(b3 j s s3 hs hs3).mono (λe he=>bm _ he)
end
end Go.FG

namespace Go.FG
section
variable {P:b9} {E:eh} {σ:St} {a:Act} {w:bf} {c:dJ} {o:dU} {nm:au} {e:o7}
def nN(σ:St)(ok bx:aL)(b p j:au)(k:Pk)(a:AA)(n:au)(t:ar au)(ob:Obj):Prop:=
 (∃e ex,k.src= .own n e ex/\t=af/\ob= .dead)\/
 (∃e ex ys,k.src= .own n e ex/\a= .kp ys/\t=ab (c9 p j)/\ob= .row e ex ys/\(ex=ae\/ok=ae))\/
 ∃e ex ys,bx=ae/\a= .ow e ex ys/\n=b+j/\t=ab (c9 p (100+j))/\ob= .row e ex ys/\(ex=ae\/ok=ae)/\σ (cf n)= .ie/\n<900000000
theorem KW{ok:aL}{b p j:au}{k:Pk}{a:AA}{ws:ak (au×dF)}(h:(zl ok k a).val σ=ab ws):∃L,ws=jJ L/\(∀n t ob,(n,t,ob)∈L->nN σ ok ah b p j k a n t ob)/\∀n e ex,k.src= .own n e ex->∃t ob,(n,t,ob)∈L:=by
 cases hs:k.src with
 |no=>
  have h:(Rd.ret []:Rd (ak (au×dF))).val σ=ab ws:=by unfold zl at h;rw[hs]at h;exact h
  obtain rfl:=aq h;exact⟨[],rfl,λn t ob h=>(by cases h),λn e ex h=>by cases h⟩
 |own n e ex=>
  cases a with
  |kp ys=>
   have h:(bif ex||ok then Rd.ret [(cf n,dF.o (.row e ex ys))]else .fail).val σ=ab ws:=by unfold zl at h;rw[hs]at h;exact h
   obtain⟨h1,h⟩:=bQ h;obtain rfl:=aq h;refine⟨[(n,ab (c9 p j), .row e ex ys)],rfl,λm t ob hm=> ?_,λm e' pY h=> ?_⟩
   ·rw[aP]at hm;cases hm;exact .inr (.inl ⟨e,ex,ys,hs,rfl,rfl,rfl,by simpa using h1⟩)
   ·cases h;exact⟨_,_,aP.2 rfl⟩
  |nl=>
   have h:(Rd.ret [(cf n,dF.o .dead)]:Rd (ak (au×dF))).val σ=ab ws:=by unfold zl at h;rw[hs]at h;exact h
   obtain rfl:=aq h;refine⟨[(n,af, .dead)],rfl,λm t ob hm=> ?_,λm e' pY h=> ?_⟩
   ·rw[aP]at hm;cases hm;exact .inl ⟨e,ex,hs,rfl,rfl⟩
   ·cases h;exact⟨_,_,aP.2 rfl⟩
  |_=>unfold zl at h;rw[hs]at h;simp at h
theorem Hp{ok:aL}{b p:au}:∀{r:ak Pk} {l:ak AA} {j:au} {ws:ak (au×dF)},(Eg ok r l).val σ=ab ws->∃L,ws=jJ L/\(∀n t ob,(n,t,ob)∈L->∃i k,r[i]? =ab k/\nN σ ok ah b p (j+i) k (l.getD i .nl) n t ob)/\
  ∀(i:au) (k:Pk) (n e:au) (ex:aL),r[i]? =ab k->k.src= .own n e ex->∃t ob,(n,t,ob)∈L:=by
 intro r;induction r with
 |nil=>intro l j ws h;obtain rfl:=aq h;exact⟨[],rfl,λn t ob h=>(by cases h),λi k n e ex h=>by simp at h⟩
 |cons k r ih=>
  intro l j ws h;obtain⟨w1,h1,h⟩:=Rd.bind_some h;obtain⟨w2,h2,h⟩:=Rd.bind_some h;obtain rfl:=aq h;obtain⟨L1,rfl,a1,a2⟩:=KW (b:=b) (p:=p) (j:=j) h1;obtain⟨L2,rfl,b1,b2⟩:=ih (j:=j+1) h2;have e0:l.headD .nl=l.getD 0 .nl:=by cases l<;>rfl
  have e1:∀i,l.tail.getD i .nl=l.getD (i+1) .nl:=λi=>by cases l<;>simp
  refine⟨L1++L2,by rw[fN],λn t ob hm=> ?_,λi k' n e ex hk hs=> ?_⟩
  ·rcases aQ.1 hm with hm|hm
   ·exact⟨0,k,rfl,by rw[<-e0];exact a1 n t ob hm⟩
   ·obtain⟨i,k',hk,hc⟩:=b1 n t ob hm;rw[e1]at hc;exact⟨i+1,k',hk,by rw[show j+(i+1)=j+1+i by omega];exact hc⟩
  ·cases i with
   |zero=>cases hk;obtain⟨t,ob,h⟩:=a2 n e ex hs;exact⟨t,ob,bw _ h⟩
   |succ i=>obtain⟨t,ob,h⟩:=b2 i k' n e ex hk hs;exact⟨t,ob,bm _ h⟩
theorem Hm{ok:aL}{b p j:au}{k:Pk}{v v':AV}{a:AA}{ws:ak (au×dF)}(hv:∀n e ex,k.src= .own n e ex->v= .own n)(h:(xr ok (b+j) k v a).val σ=ab (v',ws)):
  ∃L,ws=jJ L/\(∀n t ob,(n,t,ob)∈L->nN σ ok ae b p j k a n t ob)/\(∀n e ex,k.src= .own n e ex->∃t ob,(n,t,ob)∈L)/\js ok L v' (pC p j a):=by
 have new:∀{v':AV} {ws:ak (au×dF)},(n7 ok (b+j) a).val σ=ab (v',ws)->∃L,ws=jJ L/\(∀n t ob,(n,t,ob)∈L->nN σ ok ae b p j k a n t ob)/\js ok L v' (pC p j a):=by
  intro v' ws h;obtain⟨b1,rfl,b2⟩:=yM h;obtain⟨rfl,b3⟩:=b2 (c9 p (100+j));refine⟨_,rfl,λn t ob hm=> ?_, ?_⟩
  ·obtain⟨e,ex,ys,rfl,rfl,rfl,rfl⟩:=Ci.1 hm;exact .inr (.inr ⟨e,ex,ys,rfl,rfl,rfl,rfl,rfl,b1⟩)
  ·have:pC p j a=iW (c9 p (100+j)) a:=by cases a<;>first|rfl|exact b1.elim
   rw[this];exact b3
 cases hs:k.src with
 |no=>
  have h:(n7 ok (b+j) a).val σ=ab (v',ws):=by unfold xr at h;rw[hs]at h;exact h
  obtain⟨L,rfl,a1,a2⟩:=new h;exact⟨L,rfl,a1,λm e' pY h=>(by cases h),a2⟩
 |own n e ex=>
  have other:((n7 ok (b+j) a).bind λ(x:AV×ak (au×dF))=>Rd.ret (x.1,(cf n,dF.o .dead)::x.2)).val σ=ab (v',ws)->∃L,ws=jJ L/\(∀n t ob,(n,t,ob)∈L->nN σ ok ae b p j k a n t ob)/\(∀n' e' pY,Src.own n e ex= .own n' e' pY->∃t ob,(n',t,ob)∈L)/\js ok L v' (pC p j a):=by
   intro h;obtain⟨⟨v1,w1⟩,h1,h⟩:=Rd.bind_some h;obtain⟨rfl,rfl⟩:=bn (aq h);obtain⟨L,rfl,a1,a2⟩:=new h1;refine⟨(n,af, .dead)::L,rfl,λm t ob hm=> ?_,λm e' pY h=> ?_,a2.mono (λe he=>b_ _ he)⟩
   ·rcases bP.1 hm with hm|hm
    ·cases hm;exact .inl ⟨e,ex,hs,rfl,rfl⟩
    ·exact a1 m t ob hm
   ·cases h;exact⟨_,_,cR ..⟩
  cases a with
  |kp ys=>
   have h:(bif ex||ok then Rd.ret (v,[(cf n,dF.o (.row e ex ys))])else .fail).val σ=ab (v',ws):=by unfold xr at h;rw[hs]at h;exact h
   obtain⟨h1,h⟩:=bQ h;obtain⟨rfl,rfl⟩:=bn (aq h);refine⟨[(n,ab (c9 p j), .row e ex ys)],rfl,λm t ob hm=> ?_,λm e' pY h=> ?_, .inr ⟨n,c9 p j,_,hv n e ex hs,rfl,aP.2 rfl⟩⟩
   ·rw[aP]at hm;cases hm;exact .inr (.inl ⟨e,ex,ys,hs,rfl,rfl,rfl,by simpa using h1⟩)
   ·cases h;exact⟨_,_,aP.2 rfl⟩
  |_=>exact other (by unfold xr at h;rw[hs]at h;exact h)
theorem Ed{ok:aL}{b p:au}:∀{r:ak Pk} {vs:ak AV} {l:ak AA} {j:au} {C3:ak AV} {ws:ak (au×dF)},(∀(i:au) (k:Pk) (n e:au) (ex:aL),r[i]? =ab k->k.src= .own n e ex->vs[i]? =ab (.own n))->(ou ok (b+j) r vs l).val σ=ab (C3,ws)->
  l.length=r.length/\∃L,ws=jJ L/\(∀n t ob,(n,t,ob)∈L->∃i k,r[i]? =ab k/\nN σ ok ae b p (j+i) k (l.getD i .nl) n t ob)/\
  (∀(i:au) (k:Pk) (n e:au) (ex:aL),r[i]? =ab k->k.src= .own n e ex->∃t ob,(n,t,ob)∈L)/\C3.length=l.length/\∀(i:au) (v:AV) (a:AA),C3[i]? =ab v->l[i]? =ab a->js ok L v (pC p (j+i) a):=by
 intro r;induction r with
 |nil=>
  intro vs l j C3 ws hv h;cases vs with
  |cons=>cases l<;>simp[ou]at h
  |nil=>
   cases l with
   |cons=>simp[ou]at h
   |nil=>obtain⟨rfl,rfl⟩:=bn (aq h);exact⟨rfl,[],rfl,λn t ob h=>(by cases h),λi k n e ex h=>by simp at h,rfl,λi v a h=>by simp at h⟩
 |cons k r ih=>
  intro vs l j C3 ws hv h;cases vs with
  |nil=>cases l<;>simp[ou]at h
  |cons v vs=>
   cases l with
   |nil=>simp[ou]at h
   |cons a l=>
    obtain⟨⟨v1,w1⟩,h1,h⟩:=Rd.bind_some h;obtain⟨⟨vr,w2⟩,h2,h⟩:=Rd.bind_some h;obtain⟨rfl,rfl⟩:=bn (aq h);obtain⟨L1,rfl,a1,a2,a3⟩:=Hm (p:=p) (λn e ex hs=>by have:=hv 0 k n e ex rfl hs;simpa using this) h1;obtain⟨i0,L2,rfl,b1,b2,b3,b4⟩:=ih (j:=j+1) (λi k' n e ex hk hs=>hv (i+1) k' n e ex hk hs) h2;refine⟨by simp[i0],L1++L2,by rw[fN],λn t ob hm=> ?_,λi k' n e ex hk hs=> ?_,by simp[b3],λi v' a' hv' Za=> ?_⟩
    ·rcases aQ.1 hm with hm|hm
     ·exact⟨0,k,rfl,a1 n t ob hm⟩
     ·obtain⟨i,k',hk,hc⟩:=b1 n t ob hm;exact⟨i+1,k',hk,by rw[show j+(i+1)=j+1+i by omega];exact hc⟩
    ·cases i with
     |zero=>cases hk;obtain⟨t,ob,h⟩:=a2 n e ex hs;exact⟨t,ob,bw _ h⟩
     |succ i=>obtain⟨t,ob,h⟩:=b2 i k' n e ex hk hs;exact⟨t,ob,bm _ h⟩
    ·cases i with
     |zero=>cases hv';cases Za;exact a3.mono (λe he=>bw _ he)
     |succ i=>have:=(b4 i v' a' hv' Za).mono (L':=L1++L2) (λe he=>bm _ he);rwa[show j+1+i=j+(i+1)by omega]at this
def Bq(σ:St)(ok:aL)(b p:au)(pa:Pa)(l:ak AA)(L:ak x7)(n:au)(t:ar au)(ob:Obj):Prop:=
 (∃i k,pa.cs[i]? =ab k/\nN σ ok pa.box.isSome b p i k (l.getD i .nl) n t ob)\/∃xs C3,pa.box=ab (n,xs)/\t=ab (c9 p 900)/\ob= .box C3/\kO ok L C3 (lu p 0 l)
theorem KV{T:Tab}{kL:ak au}{v:aR}{ok:aL}{b p:au}{pa:Pa}(DV:uO T σ w c kL pa v){l:ak AA}{ws:ak (au×dF)}(h:(KU ok b pa l).val σ=ab ws):
  ∃L,ws=jJ L/\(∀n t ob,(n,t,ob)∈L->Bq σ ok b p pa l L n t ob)/\∀n∈pa.qb,∃t ob,(n,t,ob)∈L:=by
 have cs:∀n,n∈pa.cs.flatMap (·.qb)->∃(i:au) (k:Pk) (e:au) (ex:aL),pa.cs[i]? =ab k/\k.src= .own n e ex:=by
  intro n hn;obtain⟨k,hk,hn⟩:=bg.1 hn;obtain⟨i,hi⟩:=bB hk;unfold Pk.qb at hn;split at hn
  ·rename_i m e ex hs;have:=aP.1 hn;subst this;exact⟨i,k,e,ex,hi,hs⟩
  ·cases hn
 unfold KU at h;split at h
 ·rename_i n xs hb;obtain⟨⟨C3,w1⟩,h1,h⟩:=Rd.bind_some h;obtain rfl:=aq h;obtain⟨_,_,_,hl,_,q9⟩:=DV.box n xs hb;obtain⟨i0,L,rfl,a1,a2,a3,a4⟩:=Ed (b:=b) (p:=p) (j:=0) q9 (by rw[tn];exact h1);have cr:kO ok L C3 (lu p 0 l):=by
   refine⟨by rw[qE,a3],λi v v3 hv yn=> ?_⟩
   rw[rm]at yn;cases hx:l[i]? with
   |none=>rw[hx]at yn;cases yn
   |some y=>rw[hx]at yn;cases yn;exact a4 i v y hv hx
  refine⟨L++[(n,ab (c9 p 900), .box C3)],by rw[fN];rfl,λm t ob hm=> ?_,λm hm=> ?_⟩
  ·rcases aQ.1 hm with hm|hm
   ·obtain⟨i,k,hk,hc⟩:=a1 m t ob hm;rw[bu]at hc;exact .inl ⟨i,k,hk,by rw[hb];exact hc⟩
   ·rw[aP]at hm;cases hm;exact .inr ⟨xs,C3,hb,rfl,rfl,cr.mono (λe he=>bw _ he)⟩
  ·unfold Pa.qb at hm;rw[hb]at hm;rcases aQ.1 hm with hm|hm
   ·have:=aP.1 hm;subst this;exact⟨_,_,bm _ (aP.2 rfl)⟩
   ·obtain⟨i,k,e,ex,hk,hs⟩:=cs m hm;obtain⟨t,ob,h⟩:=a2 i k m e ex hk hs;exact⟨t,ob,bw _ h⟩
 ·rename_i hb;obtain⟨L,rfl,a1,a2⟩:=Hp (b:=b) (p:=p) (j:=0) h;refine⟨L,rfl,λm t ob hm=> ?_,λm hm=> ?_⟩
  ·obtain⟨i,k,hk,hc⟩:=a1 m t ob hm;rw[bu]at hc;exact .inl ⟨i,k,hk,by rw[hb];exact hc⟩
  ·unfold Pa.qb at hm;rw[hb,fU]at hm;obtain⟨i,k,e,ex,hk,hs⟩:=cs m hm;exact a2 i k m e ex hk hs
theorem Bq.mono{ok:aL}{b p:au}{pa:Pa}{l:ak AA}{L L':ak x7}{n:au}{t:ar au}{ob:Obj}(h:Bq σ ok b p pa l L n t ob)(hs:∀e∈L,e∈L'):Bq σ ok b p pa l L' n t ob:=
 h.imp id (λ⟨xs,C3,h1,h2,h3,h4⟩=>⟨xs,C3,h1,h2,h3,h4.mono hs⟩)
theorem Hn{T:Tab}{kL:ak au}{ok:aL}:∀{ps:ak Pa} {b p:au} {os:ak (ak AA)} {ws:ak (au×dF)},(∀(q:au) (pa:Pa),ps[q]? =ab pa->∃v,uO T σ w c kL pa v)->(Ef ok b ps os).val σ=ab ws->
  ∃L,ws=jJ L/\(∀n t ob,(n,t,ob)∈L->∃q pa,ps[q]? =ab pa/\Bq σ ok (b+40*q) (p+q) pa (os.getD q []) L n t ob)/\∀n∈ps.flatMap (·.qb),∃t ob,(n,t,ob)∈L:=by
 intro ps;induction ps with
 |nil=>intro b p os ws _ h;obtain rfl:=aq h;exact⟨[],rfl,λn t ob h=>(by cases h),λn h=>(by cases h)⟩
 |cons pa ps ih=>
  intro b p os ws Av h;obtain⟨w1,h1,h⟩:=Rd.bind_some h;obtain⟨w2,h2,h⟩:=Rd.bind_some h;obtain rfl:=aq h;obtain⟨v,DV⟩:=Av 0 pa rfl;obtain⟨L1,rfl,a1,a2⟩:=KV (p:=p) DV h1;obtain⟨L2,rfl,b1,b2⟩:=ih (p:=p+1) (λq TW hq=>Av (q+1) TW hq) h2;have e0:os.headD []=os.getD 0 []:=by cases os<;>rfl
  have e1:∀i,os.tail.getD i []=os.getD (i+1) []:=λi=>by cases os<;>simp
  refine⟨L1++L2,by rw[fN],λn t ob hm=> ?_,λn hn=> ?_⟩
  ·rcases aQ.1 hm with hm|hm
   ·exact⟨0,pa,rfl,by rw[<-e0];exact(a1 n t ob hm).mono (λe he=>bw _ he)⟩
   ·obtain⟨q,TW,hq,hc⟩:=b1 n t ob hm;rw[e1]at hc;refine⟨q+1,TW,hq, ?_⟩
    rw[show b+40*(q+1)=b+40+40*q by omega,show p+(q+1)=p+1+q by omega];exact hc.mono (λe he=>bm _ he)
  ·rw[th]at hn;rcases aQ.1 hn with hn|hn
   ·obtain⟨t,ob,h⟩:=a2 n hn;exact⟨t,ob,bw _ h⟩
   ·obtain⟨t,ob,h⟩:=b2 n hn;exact⟨t,ob,bm _ h⟩
theorem JT:∀{l:ak au} {ws:ak (au×dF)},(JS l).val σ=ab ws->∃Fz:ak (au×Obj),ws=ir Fz/\(∀n x,(n,x)∈Fz->n∈l/\∃el ex xs,σ (cf n)= .o (.row el ex xs)/\x= .ej el xs)/\∀n∈l,∃x,(n,x)∈Fz:=by
 intro l;induction l with
 |nil=>intro ws h;obtain rfl:=aq h;exact⟨[],rfl,λn x h=>(by cases h),λn h=>(by cases h)⟩
 |cons m l ih=>
  intro ws h;obtain⟨ob,hg,h⟩:=Rd.bind_some h;have hg:=cM hg;cases ob with
  |row el ex xs=>
   obtain⟨w1,h1,h⟩:=Rd.bind_some h;obtain rfl:=aq h;obtain⟨Fz,rfl,a1,a2⟩:=ih h1;refine⟨(m, .ej el xs)::Fz,rfl,λn x hm=> ?_,λn hn=> ?_⟩
   ·rcases bP.1 hm with hm|hm
    ·cases hm;exact⟨cR ..,el,ex,xs,hg,rfl⟩
    ·obtain⟨h1,h2⟩:=a1 n x hm;exact⟨b_ _ h1,h2⟩
   ·rcases bP.1 hn with rfl|hn
    ·exact⟨_,cR ..⟩
    ·obtain⟨x,h⟩:=a2 n hn;exact⟨x,b_ _ h⟩
  |_=>simp at h
end
end Go.FG

namespace Go.FG
section
variable {P:b9} {E:eh} {σ:St} {a:Act} {w:bf} {c:dJ} {o:dU} {nm:au} {e:o7}
theorem XH{T:Tab}{kL:ak au}{pa:Pa}{v:aR}(h:uO T σ w c kL pa v):∃xs,EN pa.arg xs/\xs=pa.cs.map (·.a)/\∀(j:au) (k:Pk),pa.cs[j]? =ab k->∃u,qQ T σ w c kL k u:=by
 have h1:EN pa.arg (pa.cs.map (·.a)):=by
  cases hb:pa.box with
  |none=>obtain⟨g,h1,_⟩:=h.val hb;exact .inl ⟨g,h1⟩
  |some nx=>obtain⟨n,xs⟩:=nx;exact .inr (h.box n xs hb).1
 exact⟨_,h1,rfl,(KY h h1).2⟩
theorem Ns{l:ak AA}{i:au}{ys:aY}(h:l.getD i .nl= .kp ys):l[i]? =ab (.kp ys):=by
 rw[cT]at h;cases hx:l[i]? with
 |none=>rw[hx]at h;cases h
 |some x=>rw[hx]at h;rw[<-h];rfl
theorem zr{f:au}{fn:Func}{vs QH:cG aR}{cl:Call}{fx:cL}(ho:o.op= .call cl)(hc:cl.callee= .value fx)(hf:P.funcs[f]? =ab fn)(hb:fn.body.isSome=ae)(hn:(fn.name== "runtime.NumGoroutine")=ah)(he:a.eval fx= .func (.func f) #[] QH):
  (execOp a.eval o).run P w= .ok (.enter f (cl.args.map a.eval++QH)) w:=by
 have H_:fn.body.isNone=false:=by cases h:fn.body<;>simp_all
 unfold execOp;rw[ho];simp only[resolve,hc,he,Deferred.ofValue,bJ,bV,ba,invoke,callFunc,program,kj,hf,hn,H_,cJ,if_false,Array.empty_append]
def nameOf(nm:au)(ps:ak Pa)(P J:au):ar au:=
 if 500<=P then ab (if J=900 then nm+1+40*(P-500)+30 else nm+1+40*(P-500)+J)
 else if J<100\/J=900 then loc ps (c9 P J)else ab (nm+400+40*P+(J-100))
theorem lR:∀{l r:ak au},nZ l r=ae->∀n∈l,n∉r
 |[],_,_,n,h=>by cases h
 |m::l,r,h,n,hn=>by
  simp only[nZ,az,dt]at h;rcases bP.1 hn with rfl|hn
  ·exact ng h.1
  ·exact lR h.2 n hn
theorem Cr(hE:dv P E)(hF:∀g,jf P E g (E.call g))(bI:Ok E σ w c)(cU:dX E σ a w c)(hd:∀d,o.dst=ab d->d<a.tmps.size){cl:Call}{fx:cL}(ho:o.op= .call cl)(hb:cl.callee= .value fx){f:au}{fV:ak (ak CV)}(ef:dz E w c (.fn f fV) (a.eval fx)){Ij:ar (ak au)}(h:(Af E nm o f cl.args.toList Ij fV).val σ=ab e)(hc:e.cond=ae):e7 P E σ a w c o e.ws:=by
  obtain⟨QH,he,Av,VX⟩:=ef;unfold Af at h;obtain⟨ps,h2,h⟩:=Rd.bind_some h;obtain⟨h3,h⟩:=bQ h;simp only[az]at h3;obtain⟨hlen,DV⟩:=Jr bI cU h2;split at h
  ·rename_i VI r BZ;obtain⟨h4,h⟩:=bQ h;simp only[az]at h4;obtain⟨w0,h5,h⟩:=Rd.bind_some h;obtain⟨w1,h6,h⟩:=Rd.bind_some h;obtain⟨⟨ss,w2⟩,h7,h⟩:=Rd.bind_some h;obtain⟨h8,h⟩:=bQ h;obtain rfl:=aq h;have hc:VI=true:=hc;subst hc;have air:=bN h4.1.1;have ab5:∀{q:au} {pa:Pa},ps[q]? =ab pa->∀n∈pa.kL,n∈ps.flatMap (·.kL):=λhq n hn=>bg.2 ⟨_,aD hq,hn⟩;have hh:Handed E σ w c ps fV (cl.args.map a.eval++QH):=by
    refine⟨by simp[Av,hlen],λq pa hq=> ?_,λq cs hq=> ?_,nD h3.1,lR h3.2⟩
    ·obtain⟨x,hx,hp⟩:=DV q pa hq;rw[bY]at hx;have NI:=(c_.1 hx).1;exact⟨a.eval x,by rw[yz (by simpa using NI),Gw,hx];rfl,hp.mono (ab5 hq)⟩
    ·obtain⟨b,H_,hf⟩:=VX q cs hq;refine⟨b, ?_,hf⟩
     rw[Array.getElem?_append_right (by simp[hlen]),<-H_];congr 1;simp[hlen]
   have Tc:∀(q:au) (pa:Pa),ps[q]? =ab pa->∃v,uO E σ w c (ps.flatMap (·.kL)) pa v:=λq pa hq=>by obtain⟨v,_,h⟩:=hh.at_ q pa hq;exact⟨v,h⟩
   obtain⟨J7,ab6,_⟩:=enter bI hh;have eM:(cl.args.map a.eval++QH).size=(gQ ps fV).length:=by simp[gQ,Av,hlen]
   have SP:E.call f (gQ ps fV)=ab (ae,r):=BZ;obtain⟨⟨fn,g1,g2,g3⟩,DS⟩:=hF f _ r SP w (nv σ c ps) _ J7 eM ab6;obtain⟨Fz,rfl,z1,z2⟩:=JT h5;obtain⟨Lo,rfl,l1,l2⟩:=Hn (p:=0) Tc h6;obtain⟨Lr,rfl,m1,m2⟩:=BB (P:=500) h7;generalize Wt:(E.tk nm||(ps.flatMap (·.kL)).isEmpty)=ok at l1 m1 m2;have P_:Small (gQ ps fV) r:=by
    refine⟨λp x xs hp hx=> ?_,λq x xs hq hx=> ?_,λp=> ?_⟩
    ·rcases qW hp with ⟨pa,hq,_⟩|⟨_,cs,_,rfl⟩
     ·have:=(aG.1 hq).1;omega
     ·rcases hx with ⟨g,hx⟩|hx<;>cases hx
    ·have:=aZ.1 h4.1.2 x (aD hq);have:=bN this;rcases hx with ⟨g,rfl⟩|rfl<;>(simp only[kA]at this;omega)
    ·rw[cT];cases hx:r.outs[p]? with
     |none=>simp
     |some l=>have:=aZ.1 h4.2 l (aD hx);exact bN this
   have BA:∀{q:au} {pa:Pa},ps[q]? =ab pa->(gQ ps fV)[q]? =ab pa.arg:=λ{q} {pa} hq=>by have:=(aG.1 hq).1;unfold gQ;rw[cS (by simpa using this),bc,hq];rfl
   have Cn:∀{q:au} {pa:Pa} {n:au},ps[q]? =ab pa->n∈pa.qb->n∈ps.flatMap (·.qb):=λhp hn=>bg.2 ⟨_,aD hp,hn⟩;have VJ:∀{q i n e:au} {ex:aL} {pa:Pa} {k:Pk},ps[q]? =ab pa->pa.cs[i]? =ab k->k.src= .own n e ex->n∈ps.flatMap (·.qb):=λhq hk hs=>Cn hq (bm _ (bg.2 ⟨_,aD hk,by simp[Pk.qb,hs]⟩));have small:∀{q i:au} {pa:Pa} {k:Pk},ps[q]? =ab pa->pa.cs[i]? =ab k->i<100:=λhq hk=>by obtain⟨v,hv⟩:=Tc _ _ hq;have:=(aG.1 hk).1;have:=hv.len;omega
   unfold e7;intro K Q hK;unfold Gz;rw[zr (vs:=cl.args.map a.eval++QH) ho hb g1 g2 g3 he,L_];refine Uq DS (λen w'' hR=> ?_);cases en with
   |panicked=>exact hR.elim
   |outgrown=>exact hR.elim
   |returned v=>
    obtain⟨c3,Au,s5,p8,uZ⟩:=hR;have eI:∀m,inj (gQ ps fV) (cf m)≠ .ie->c3.P m=(nv σ c ps).P m/\c3.G m=(nv σ c ps).G m:=p8;have hL:∀n t ob,(n,t,ob)∈Lo++Lr->Pb σ (lC (gQ ps fV) r) c c3 ok (ps.flatMap (·.qb)) (Lo++Lr) n t ob/\∀x,t=ab x->∃PP J,x=c9 PP J/\J<1000/\nameOf nm ps PP J=ab n:=by
     intro n t ob hm;rcases aQ.1 hm with hm|hm
     ·obtain⟨q,pa,hq,qC⟩:=l1 n t ob hm;obtain⟨v0,Ig⟩:=Tc q pa hq;obtain⟨xs,UJ,Ih,Zn⟩:=XH Ig;have NI:=(aG.1 hq).1;rw[bu]at qC;rcases qC with ⟨i,k,hk,hco⟩|⟨ys,C3,VW,rfl,rfl,hcr⟩
      ·have hi:=small hq hk;rcases hco with ⟨e',ex,hs,rfl,rfl⟩|⟨e',ex,ys,hs,ha,rfl,rfl,hex⟩|⟨e',ex,ys,VW,ha,rfl,rfl,rfl,hex,hf,ix⟩
       ·refine⟨⟨λ_=>VJ hq hk hs,λhn=> ?_,λ_=>rfl,λx hx=>(by cases hx)⟩,λx hx=>(by cases hx)⟩
        obtain⟨u,hu⟩:=Zn i k hk;unfold qQ at hu;rw[hs]at hu;obtain⟨zs,hg,_⟩:=hu;rw[hg]at hn;cases hn
       ·obtain⟨u,hu⟩:=Zn i k hk;unfold qQ at hu;rw[hs]at hu;obtain⟨zs,hg,Wj,_⟩:=hu;refine⟨⟨λ_=>VJ hq hk hs,λhn=>(by rw[hg]at hn;cases hn),λhx=>(by cases hx),λx hx=> ?_⟩,λx hx=> ?_⟩
        ·cases hx;refine⟨λ_=> ?_, .inl ⟨e',ex,ys,rfl, ?_,hex⟩⟩
         ·obtain⟨q1,q2⟩:=eI (c9 q i) ((nA (BA hq)).2 xs i e' ex zs UJ (by rw[Ih,bc,hk];simp[Wj]));obtain⟨q3,q4⟩:=pW (σ:=σ) (c:=c) (AD hq hk hs (by omega));exact⟨q1.trans q3,q2.trans q4⟩
         ·exact rY P_ (.kp q pa.arg xs i e' ex zs ys (BA hq) UJ (by rw[Ih,bc,hk];simp[Wj]) (Ns ha))
        ·cases hx;refine⟨q,i,rfl,by omega, ?_⟩
         unfold nameOf;rw[bF (by omega),br (.inl hi)];exact AD hq hk hs (by omega)
       ·have hla:=Ap.1 ha;refine⟨⟨λhn=>bS hf hn,λ_=>ix,λhx=>(by cases hx),λx hx=> ?_⟩,λx hx=> ?_⟩
        ·cases hx;exact⟨λhn=>bS hf hn, .inl ⟨e',ex,ys,rfl,rY P_ (.nw q pa.arg xs i e' ex ys (BA hq) UJ hla),hex⟩⟩
        ·cases hx;refine⟨q,100+i,rfl,by omega, ?_⟩
         unfold nameOf;rw[bF (by omega),bF (by omega)];congr 1;omega
      ·obtain⟨p1,p2,p3,_⟩:=Ig.box n ys VW;refine⟨⟨λ_=>Cn hq (by simp[Pa.qb,VW]),λhn=>(by rw[p3]at hn;cases hn),λhx=>(by cases hx),λx hx=> ?_⟩,λx hx=> ?_⟩
       ·cases hx;refine⟨λ_=> ?_, .inr ⟨C3,_,rfl,rY P_ (.ob q _ (by rw[BA hq,p1])),hcr.mono (λe he=>bw _ he)⟩⟩
        obtain⟨q1,q2⟩:=eI (c9 q 900) ((nA (BA hq)).1 _ p1);obtain⟨q3,q4⟩:=pW (σ:=σ) (c:=c) (vC hq VW);exact⟨q1.trans q3,q2.trans q4⟩
       ·cases hx;refine⟨q,900,rfl,by omega, ?_⟩
        unfold nameOf;rw[bF (by omega),br (.inr rfl)];exact vC hq VW
     ·obtain⟨q,x0,hq,hra⟩:=m1 n t ob hm;rcases hra with ⟨xs,j,e',ex,ys,hx,hj,rfl,rfl,rfl,hex,hf,ix⟩|⟨xs,rfl,rfl,rfl,rfl,hf,ix,hcr⟩
      ·have jc:=(aG.1 hj).1;have:=P_.rl q x0 xs hq hx;refine⟨⟨λhn=>bS hf hn,λ_=>ix,λhx=>(by cases hx),λx mB=> ?_⟩,λx mB=> ?_⟩
       ·cases mB;exact⟨λhn=>bS hf hn, .inl ⟨e',ex,ys,rfl,rY P_ (.rr q x0 xs j e' ex ys hq hx hj),hex⟩⟩
       ·cases mB;refine⟨500+q,j,rfl,by omega, ?_⟩
        unfold nameOf;rw[br (by omega),bF (by omega),show 500+q-500=q by omega]
      ·refine⟨⟨λhn=>bS hf hn,λ_=>ix,λhx=>(by cases hx),λx mB=> ?_⟩,λx mB=> ?_⟩
       ·cases mB;exact⟨λhn=>bS hf hn, .inr ⟨_,_,rfl,rY P_ (.rb q xs hq),hcr.mono (λe he=>bm _ he)⟩⟩
       ·cases mB;refine⟨500+q,900,rfl,by omega, ?_⟩
        unfold nameOf;rw[br (by omega),br rfl,show 500+q-500=q by omega]
    have hnd:((Lo++Lr).map (·.1)).Nodup:=by
     have:=nD h8;rw[<-fN]at this;unfold jJ ir at this;rw[jC,jC]at this;have e1:(Lo++Lr).map (((λx:au×dF=>x.1)∘λd:au×Obj=>(cf d.1,dF.o d.2))∘λt:x7=>(t.1,t.2.2))=((Lo++Lr).map (·.1)).map cf:=by rw[jC];rfl
     rw[e1]at this;exact oi this
    have J8:ok=ae->∀n∈ps.flatMap (·.kL),∃x,(n,x)∈Fz:=by
     intro hk n hn;rw[<-Wt]at hk;cases Aw:E.tk nm with
     |true=>rw[Aw]at z2;exact z2 n hn
     |false=>
      rw[Aw]at hk;have:ps.flatMap (·.kL)=[]:=by simpa using hk
      rw[this]at hn;cases hn
    have SG:∀n x,(n,x)∈Fz->ok=ae/\n∈ps.flatMap (·.kL)/\∃el ex xs,σ (cf n)= .o (.row el ex xs)/\x= .ej el xs:=by
     intro n x hn;obtain⟨y1,y2⟩:=z1 n x hn;cases Aw:E.tk nm with
     |true=>rw[Aw]at y1;exact⟨by rw[<-Wt,Aw];rfl,y1,y2⟩
     |false=>rw[Aw]at y1;cases y1
    have hws:ir Fz++(jJ Lo++jJ Lr)++dw o (oL ss)=ir (Fz++(Lo++Lr).map λt=>(t.1,t.2.2))++dw o (oL ss):=by rw[<-fN];simp only[jJ,ir,fw]
    obtain⟨c',k1,k2,k3,k4⟩:=leave bI cU hd hh Au s5 uZ (L:=Lo++Lr) (Fz:=Fz) (λn t ob hm=>(hL n t ob hm).1) hnd
     (λn n' x ob ob' h1 h2=>by obtain⟨P1,J1,e1,e2,e3⟩:=(hL n _ ob h1).2 x rfl;obtain⟨P2,J2,f1,f2,f3⟩:=(hL n' _ ob' h2).2 x rfl;obtain⟨rfl,rfl⟩:=qd e2 f2 (e1.symm.trans f1);rw[e3]at f3;exact aq f3)
     (λn hn=>by obtain⟨t,ob,h⟩:=l2 n hn;exact⟨t,ob,bw _ h⟩) SG J8
     (show zx ok (Lo++Lr) ss (iX 500 r.rs)from⟨m2.1,λj x x3 hx Zn=>(m2.2 j x x3 hx Zn).mono (λe he=>bm _ he)⟩)
    show K (a.put o.dst v) w'';rw[<-hws]at k1 k2 k3;exact hK v w'' c' k1 k2 k3 k4.w
  ·simp at h
theorem AR(bI:Ok E σ w c)(cU:dX E σ a w c){o:dU}(hd:∀d,o.dst=ab d->d<a.tmps.size){nm:au}{ob ob':Obj}{s:SV}{v:aR}{w':bf}
  (hn:σ (cf nm)= .o ob) (j4:mM E w' c nm ob') (mR:∀b,ea c nm ob' b->ea c nm ob b)
  (B5:∀xs,ob'= .box xs->∀a∈xs,gp σ a)
  (uZ:gu E w' c s v) (yj:jU σ s)
  (hW:∀b,b<w.heap.size->¬ea c nm ob b->w'.heap[b]? =w.heap[b]?) (eM:w.heap.size<=w'.heap.size) (G9:w'.os=w.os) (NJ:w'.tape=w.tape) (NF:w'.output=w.output):
  Ok E (wr σ ([(cf nm, .o ob')]++dw o s)) w' c/\dX E (wr σ ([(cf nm, .o ob')]++dw o s)) (a.put o.dst v) w' c/\lE σ c w (wr σ ([(cf nm, .o ob')]++dw o s)) c w':=by
 let σ1:=mK σ (cf nm) (.o ob');obtain⟨s1,s2,s3⟩:=oA σ1 o s;have key:∀m,wr σ1 (dw o s) (cf m)=if m=nm then .o ob' else σ (cf m):=λm=>by rw[s3];exact mX _ _ _ _
 have fP:∀m,σ (cf m)≠ .ie->wr σ1 (dw o s) (cf m)≠ .ie:=λm hm=>by rw[key];split<;>simp_all
 have fO:∀b,ea c nm ob b->ig (λm=>m=nm) σ c b:=λb hb=>⟨nm,ob,rfl,hn,hb⟩
 have hh:=bI.change (σ':=wr σ1 (dw o s)) (w':=w') (c':=c) (λm=>m=nm) (λm hm=>by rw[key,bF hm]) fP (gO.refl _ _)
  (λb hb ND=>hW b hb (λhf=>ND (fO b hf))) eM (λ_ h=>h) (λ_ h=> .inl h) (λb hb=>gF (bI.lt b hb) eM)
  (λm x hm ho=>by subst hm;rw[key,br rfl]at ho;cases ho;exact j4)
  (λm x b hm ho hf=>by subst hm;rw[key,br rfl]at ho;cases ho;exact⟨.inl (fO b (mR b hf)),bI.kk _ _ b hn (mR b hf)⟩)
  (λm x m' x' b hm sc _ _ _ _=>by rw[hm,sc])
  (λm xs hm ho y hy n iC=>by subst hm;rw[key,br rfl]at ho;cases ho;exact fP n (B5 xs rfl y hy n iC)) G9 NJ NF
 refine⟨hh.1, ?_,hh.2⟩
 refine cU.change bI hh.2 (gO.refl _ _) fP o v (λn iC=>by rw[s1 n iC];exact gv _ _ _ _) (λd ho=>⟨hd d ho, ?_, ?_⟩)
 ·rw[s2 d ho];exact uZ
 ·rw[s2 d ho];intro n iC;rw[key];split
  ·simp
  ·exact yj n iC
theorem Ea(hE:dv P E)(hF:∀g,jf P E g (E.call g))(bI:Ok E σ w c)(cU:dX E σ a w c)(hd:∀d,o.dst=ab d->d<a.tmps.size){cl:Call}{fx x y:cL}(ho:o.op= .call cl)(hb:cl.callee= .value fx)(oJ:cl.args.toList=[x,y])
  {f n i j:au} (ef:dz E w c (.fn f []) (a.eval fx)) (hx:dz E w c (.inn n i j) (a.eval x)) (h:(wT E o f n i j y).val σ=ab e) (hc:e.cond=ae):e7 P E σ a w c o e.ws:=by
 unfold wT at h;obtain⟨⟨k,m⟩,h1,h⟩:=Rd.bind_some h;have ey:=mU cU h1;obtain⟨ob,h2,h⟩:=Rd.bind_some h;have hg:=cM h2;split at h
 ·rename_i el xs;obtain⟨te,h3,h⟩:=Rd.bind_some h;have h6:=de h3;split at h
  ·rename_i e2 wP;split at h
   ·rename_i VI r BZ;split at h
    ·rename_i k2 m2 xY Zl FM;obtain rfl:=aq h;have hc:VI=true:=hc;subst hc;obtain⟨⟨hi,Zo⟩,_⟩:=hx;obtain⟨zs,yy,t2,r1,r2,r3,r4,r5,r6,r7,r8⟩:=vB bI hg h6 wP hi;rw[dY r1 r2]at BZ;simp only[ia]at BZ;obtain⟨⟨t1,q1,eM,jR⟩,eI,fO⟩:=bI.obj n _ hg;obtain rfl:te=t1:=aq (h6.symm.trans q1);have jw:i<xs.length:=(aG.1 r1).1;obtain⟨gH,pv,hpb⟩:=eI.pos hi;have yi:eK xs i j:=⟨yy,_,r1,r2,rfl⟩
     generalize hq:c.G n i j=p at r5 r7 r8 Zo;let c1:dJ:=⟨λ_=>p,λ_ _ _=>⟨ae,0,0,0,0,0⟩,c.K⟩
     let args:ak dO:=[.v ah [.ow e2 ae zs], .v ah [.i k m]]
     have hO:∀q o',inj args (cf q)= .o o'->q=c9 0 0/\o'= .row e2 ae zs:=by
      intro q o' hq';have hm:=kY hq' (by simp);simp only[args,D0,pq,qD,po,zd,bP,da,fU,MO,uM,or_false,hZ]at hm;rcases hm with ⟨hm,_⟩|⟨hm,h⟩|⟨hm,_⟩
      ·exact bS hm (jG _ _)
      ·exact⟨ic hm,dF.o.inj h⟩
      ·exact bS hm (jG _ _)
     have hX:inj args (cf (c9 0 0))= .o (.row e2 ae zs):=rfl;have w_:∀i j,¬eK zs i j:=by rintro i j ⟨y,x,h1,h2,h3⟩;rw[fy r4 (r6 y (aD h1)) h2]at h3;cases h3
     have B0:∀b,ea c1 (c9 0 0) (.row e2 ae zs) b->p.nil=ah/\b=p.blk:=by
      rintro b (⟨h1,h2⟩|⟨_,i,j,h,_⟩)
      ·exact⟨h1,h2⟩
      ·exact bS h (w_ i j)
     have hpf:p.nil=ah->ea c n (.row el ae xs) p.blk:=λhn=> .inr ⟨rfl,i,j,yi,by rw[hq];exact hn,by rw[hq]⟩;have J7:Ok E (inj args) w c1:=by
      refine⟨?_, ?_, ?_, ?_, ?_⟩
      ·intro q o' h;obtain⟨rfl,rfl⟩:=hO q o' h;exact⟨⟨t2,r3,r5,r6⟩,r7.frame (λ_=>rfl) (λi j y x u h1 h2 hr=>by rw[br rfl];exact qg (fy r4 (r6 y (aD h1)) h2) hr),λ_=>⟨λi j h=>bS h (w_ i j),λi j i' j' h=>bS h (w_ i j)⟩⟩
      ·intro q o' q' o'' b h h' _ _;rw[(hO q o' h).1,(hO q' o'' h').1]
      ·intro q o' b h hf hk;obtain⟨rfl,rfl⟩:=hO q o' h;obtain⟨hn,rfl⟩:=B0 b hf;exact bI.kk _ _ _ hg (hpf hn) hk
      ·exact bI.lt
      ·intro q bs h;obtain⟨_,h⟩:=hO q _ h;cases h
     have Kd:(cl.args.map a.eval).size=args.length:=by
      have:cl.args.size=2:=by rw[<-c8,oJ];rfl
      simp[args,this]
     have Ml:cl.args.map a.eval= #[a.eval x,a.eval y]:=by apply oO;rw[uK,oJ];rfl
     obtain⟨QH,he,Av,_⟩:=ef;have abZ:QH= #[]:=uJ (by simpa using Av);subst abZ;obtain⟨⟨fn,g1,g2,g3⟩,DS⟩:=hF f args r BZ w c1 #[a.eval x,a.eval y] J7 rfl (by
      intro q arg hqa;match q with
      |0=>cases hqa;exact⟨_,rfl,Zo⟩
      |1=>cases hqa;exact⟨_,rfl,ey⟩
      |q+2=>cases hqa)
     unfold e7;intro K Q hK;unfold Gz;rw[zr (vs:= #[a.eval x,a.eval y]) ho hb g1 g2 g3 he,Ml,Array.append_empty,L_];refine Uq DS (λen w' hR=> ?_);cases en with
     |panicked=>exact hR.elim
     |outgrown=>exact hR.elim
     |returned v=>
      obtain⟨c3,Au,s5,p8,uZ⟩:=hR;obtain⟨rs,outs⟩:=r;simp only at Zl FM;subst Zl;subst FM;have hv:v= .int k2 m2:=uZ;have hp3:c3.P (c9 0 0)=p:=(p8 (c9 0 0) (by rw[hX];simp)).1;have hX3:lC args ⟨[.v ah [.i k2 m2]],[[.kp xY]]⟩ (cf (c9 0 0))= .o (.row e2 ae xY):=rfl;obtain⟨⟨t3,u1,u2,u3⟩,u4,_⟩:=Au.obj _ _ hX3;obtain rfl:t2=t3:=aq (r3.symm.trans u1);rw[hp3]at u2 u4;have abq:gq w' p xY (λ_ _ u x=>Sc u x):=u4.frame (λ_=>rfl) (λi j y x u h1 h2 hr=>by rw[br rfl]at hr;exact qi hr (fy r4 (u3 y (aD h1)) h2));have oa:∀b,b<w.heap.size->¬(p.nil=ah/\b=p.blk)->w'.heap[b]? =w.heap[b]? :=λb hb DU=>s5.same b hb (by rintro ⟨q,o',h1,h2⟩;obtain⟨rfl,rfl⟩:=hO q o' h1;exact DU (B0 b h2));have hjk:j<te.ks.length:=(aG.1 wP).1;have SX:[CV.l e2 xY].map CV.kd=(te.ks.drop j).take [CV.l e2 xY].length:=by rw[bM,List.take_one,List.head?_drop,wP];rfl
      have oX:=sI (i:=i) (j:=j) (cs:=[CV.l e2 xY]) jR SX (by simp;omega) jw;have B3:=iQ jR;have wO:=iQ oX;have same:∀i' j',eK (dP xs i j [CV.l e2 xY]) i' j'->eK xs i' j':=λi' j' hx=>(B3 i' j').2 (by have:=(wO i' j').1 hx;rwa[g7]at this);have ix:∀b,ea c n (.row el ae xs) b->b<w.heap.size:=λb hb=>rI.lt bI ⟨n,_,hg,hb⟩;have Ta:p.nil=ah->(c.P n).blk≠p.blk:=λhn e=>(fO rfl).out i j yi (by rw[hq];exact hn) gH (by rw[hq];exact e.symm);have lL:gq w' (c.P n) (dP xs i j [CV.l e2 xY]) (λi1 j1 u1 x1=>if ae=ae then XC E w' (c.G n) i1 j1 u1 x1 else ch E w' c.K u1 x1):=by
       obtain⟨vs,k1,k2,k3,k4,k5⟩:=eI.mem gH;refine⟨by rw[g7];exact eI.n,λhn=>(by rw[gH]at hn;cases hn),λ_=>⟨vs,k1.frame (oa _ (ix _ (.inl ⟨gH,rfl⟩)) (λh=>Ta h.1 h.2)),k2,k3,k4,λi1 y1 j1 x1 g1 g2=> ?_⟩⟩
       rw[sH r1]at g1;simp only[if_true]at k5⊢;by_cases B2:i1=i
       ·subst B2;rw[br rfl]at g1;cases g1;have B_:yy.length=te.ks.length:=by rw[<-jR yy (aD r1)];simp
        rw[mr (by simp;omega)]at g2;by_cases Zk:j<=j1/\j1<j+[CV.l e2 xY].length
        ·rw[br Zk]at g2;have:j1=j:=by simp at Zk;omega
         subst this;simp at g2;subst g2;obtain⟨u,hu,hr⟩:=k5 _ _ _ _ r1 r2;refine⟨u,hu,hr.1,t2,r3,r4,by rw[hq];exact r5,u3,by rw[hq];exact abq⟩
        ·rw[bF Zk]at g2;obtain⟨u,hu,hr⟩:=k5 _ _ _ _ r1 g2;refine⟨u,hu,hr.frame (λhl hn=>oa _ (ix _ (.inr ⟨rfl,_,_,⟨yy,x1,r1,g2,hl⟩,hn,rfl⟩)) (λe=> ?_))⟩
         have:=((fO rfl).one _ _ _ _ ⟨yy,x1,r1,g2,hl⟩ yi hn (by rw[hq];exact e.1) (by rw[hq];exact e.2)).2;simp at Zk;omega
       ·rw[bF B2]at g1;obtain⟨u,hu,hr⟩:=k5 _ _ _ _ g1 g2;exact⟨u,hu,hr.frame (λhl hn=>oa _ (ix _ (.inr ⟨rfl,_,_,⟨y1,x1,g1,g2,hl⟩,hn,rfl⟩)) (λe=>B2 ((fO rfl).one _ _ _ _ ⟨y1,x1,g1,g2,hl⟩ yi hn (by rw[hq];exact e.1) (by rw[hq];exact e.2)).1))⟩
      obtain⟨z1,z2,z3⟩:=AR bI cU hd hg (ob':= .row el ae (dP xs i j [CV.l e2 xY])) (w':=w') (s:= .v ah [.i k2 m2]) (v:=v)
       ⟨⟨te,q1,eM,oX⟩,lL,λhx=>⟨λi1 j1 hh=>(fO hx).out i1 j1 (same i1 j1 hh),λi1 j1 i2 j2 h1 h2=>(fO hx).one i1 j1 i2 j2 (same i1 j1 h1) (same i2 j2 h2)⟩⟩
       (by
        rintro b (hb|⟨hx,i1,j1,hh,hn⟩)
        ·exact .inl hb
        ·exact .inr ⟨hx,i1,j1,same i1 j1 hh,hn⟩)
       (λzs hz=>by cases hz) hv (λn hn=>by simp[bO,bh]at hn)
       (λb hb Ib=>oa b hb (λe=>Ib (by rw[e.2];exact hpf e.1))) s5.size s5.os s5.tape s5.output
      exact hK v w' c z1 z2 z3 (gO.refl _ _).w
    ·simp at h
   ·simp at h
  ·simp at h
 ·simp at h
theorem A9{α:Type}{x y:Rd α}{σ:St}{e:α}(h:(x.or y).val σ=ab e):x.val σ=ab e\/y.val σ=ab e:=by
 induction x with
 |ret a=>exact .inl h
 |fail=>exact .inr h
 |get k f ih=>
  have h':((f (σ k)).or y).val σ=ab e:=by rw[<-h];unfold Rd.val;simp only[Rd.or,Rd.run];rw[iT,iT]
  rcases ih (σ k) h' with h|h
  ·refine .inl ?_;rw[<-h];unfold Rd.val;simp only[Rd.run];rw[iT,iT]
  ·exact .inr h
theorem xo(hE:dv P E)(hF:∀g,jf P E g (E.call g))(bI:Ok E σ w c)(cU:dX E σ a w c)(hd:∀d,o.dst=ab d->d<a.tmps.size){cl:Call}{fx:cL}(ho:o.op= .call cl)(hb:cl.callee= .value fx){f:au}{fV:ak (ak CV)}(ef:dz E w c (.fn f fV) (a.eval fx)){Ij:ak au}(h:(Fg E nm o f cl.args.toList Ij fV).val σ=ab e)(hc:e.cond=ae):e7 P E σ a w c o e.ws:=by
 rcases A9 h with h|h
 ·exact Cr hE hF bI cU hd ho hb ef h hc
 ·exact Cr hE hF bI cU hd ho hb ef h hc
theorem Oy(hE:dv P E)(hF:∀g,jf P E g (E.call g))(bI:Ok E σ w c)(cU:dX E σ a w c)(hd:∀d,o.dst=ab d->d<a.tmps.size){cl:Call}{fx:cL}(ho:o.op= .call cl)(hb:cl.callee= .value fx)(h:(jz E nm o).val σ=ab e)(hc:e.cond=ae):e7 P E σ a w c o e.ws:=by
 simp only[jz,ho,hb]at h;obtain⟨fv,h1,h⟩:=Rd.bind_some h;have ef:=(gd cU h1).1;cases fv with
 |fn f fV=>
  simp only at h;split at h
  ·rename_i x y oJ;obtain⟨sx,h2,h⟩:=Rd.bind_some h;split at h
   ·rename_i n i j;cases hm:E.mode f 0 with
    |true=>rw[hm,aw]at h;exact Ea hE hF bI cU hd ho hb oJ ef (jH cU h2).1 h hc
    |false=>rw[hm,aC]at h;exact xo hE hF bI cU hd ho hb ef h hc
   ·exact xo hE hF bI cU hd ho hb ef h hc
  ·exact xo hE hF bI cU hd ho hb ef h hc
 |_=>simp at h
end
end Go.FG

namespace Go.FG
section
variable {P:b9} {E:eh} {σ:St} {a:Act} {w:bf} {c:dJ} {o:dU} {nm:au} {e:o7}
theorem XG(hE:dv P E)(hF:∀g,jf P E g (E.call g))(bI:Ok E σ w c)(cU:dX E σ a w c)(hd:∀d,o.dst=ab d->d<a.tmps.size)(h:(jz E nm o).val σ=ab e)(hc:e.cond=ae):e7 P E σ a w c o e.ws:=by
 cases ho:o.op with
 |move x=>exact F2 bI cU hd (.inl ho) h
 |assign x=>exact F2 bI cU hd (.inr ho) h
 |nilCheck x=>exact Ct bI cU hd ho h
 |pick x y z=>exact OA bI cU hd ho h hc
 |alloc t=>exact KL hE bI cU hd ho h
 |box t x=>exact TT bI cU hd ho h
 |build t ps=>exact KN hE bI cU hd ho h
 |buildSlice t n ps=>exact yq hE bI cU hd ho h hc
 |load t p=>exact Oz hE bI cU hd ho h
 |store t p x=>exact KS hE bI cU hd ho h
 |fieldAddr t p f=>exact AJ hE bI cU hd ho h
 |field t x f=>exact KP hE bI cU hd ho h
 |indexAddr t x i=>exact AK hE bI cU hd ho h hc
 |index t x i=>exact KQ hE bI cU hd ho h hc
 |binOp op t x y ty=>exact KM hE bI cU hd ho h hc
 |unOp op t x=>exact OB bI cU hd ho h
 |convert s d x=>exact Eb hE bI cU hd ho h hc
 |makeSlice t l m=>exact AL hE bI cU hd ho h hc
 |slice t x lo hi mx=>exact KR hE bI cU hd ho h hc
 |extract x i=>exact Ec bI cU hd ho h
 |makeFunc f first fV=>exact Cs bI cU hd ho h
 |call cl=>
  cases hb:cl.callee with
  |value f=>exact Oy hE hF bI cU hd ho hb h hc
  |builtin b=>
   cases b with
   |len=>exact TV hE bI cU hd ho hb h
   |cap=>exact TU hE bI cU hd ho hb h
   |min=>exact zk ah bI cU hd ho hb h
   |max=>exact zk ae bI cU hd ho hb h
   |clear=>exact KO hE bI cU hd ho hb h
   |append=>exact Hk hE bI cU hd ho hb h hc
   |_=>simp[jz,ho,hb]at h
  |_=>simp[jz,ho,hb]at h
 |_=>simp[jz,ho]at h
end
end Go.FG

namespace Go.FG
theorem xM{σ:St}{k:au}{c:dF}(h:σ k=c):mK σ k c=σ:=by
 funext n;by_cases hn:n=k
 ·subst hn;rw[pN,h]
 ·rw[ug σ c hn]
def L7(c c':dJ):Prop:=∀m,900000000<=m->c'.P m=c.P m/\c'.G m=c.G m
theorem L7.refl(c:dJ):L7 c c:=λ_ _=>⟨rfl,rfl⟩
theorem L7.trans{c c1 c2:dJ}(h:L7 c c1)(k:L7 c1 c2):L7 c c2:=λm hm=>⟨(k m hm).1.trans (h m hm).1,(k m hm).2.trans (h m hm).2⟩
theorem NW{m:au}(h:900000000<=m):tO m=false:=by
 unfold tO;cases hb:nk m 900000000 with
 |true=>have:m<900000000:=by simpa [uN]using hb
        omega
 |false=>simp
theorem nM.aga{σ:St}{c c':dJ}(h:nM σ c c'):L7 c c':=λm hm=>⟨(h m (.inr hm)).1,(h m (.inr hm)).2 (NW hm)⟩
def jI(all:cG dU)(o:dU)(σ:St):ar aL:=
 match o.guard with
 |none=>ab ae
 |some (g,want)=>match (all.getD g default).dst with
  |none=>af
  |some d=>match σ (nh d)with| .v (.v ah [.b x])=>ab (x==want)| .v (.gM [])=>ab ah|_=>af
def mQ(all:cG dU)(o:dU):ak au:=
 match o.guard with
 |none=>[]
 |some (g,_)=>match (all.getD g default).dst with|none=>[]|some d=>[nh d]
def qz(E:eh)(all:cG dU)(nm:au)(o:dU)(σ:St)(ws:ak (au×dF))(lg:Lg):Prop:=
 (jI all o σ=ab ae/\∃e l,(jz E nm o).run σ []=ab (e,l)/\e.cond=ae/\ws=e.ws/\lg=⟨mQ all o++l,e.ws.map (·.1)⟩)\/
 (jI all o σ=ab ah/\ws=dw o (.gM [])/\lg=⟨mQ all o,(dw o (.gM [])).map (·.1)⟩)
def D8(lx i:au):au:=(lx+1)*1000000+i*1000
abbrev Tr:=ak (ak (au×dF)×Lg)
def rD(E:eh)(all:cG dU)(lx:au):au->ak dU->St->Tr->St->Prop
 |_,[],σ,tr,σ'=>tr=[]/\σ'=σ
 |i,o::os,σ,tr,σ'=>∃ws lg Rg,tr=(ws,lg)::Rg/\qz E all (D8 lx i) o σ ws lg/\rD E all lx (i+1) os (wr σ ws) Rg σ'
theorem Hl{R:Type}(E:eh)(all:cG dU)(lx:au):∀(os:ak dU) (i:au) (σ:St) (lg:ak Lg) (K:St->ak Lg->ar R) (r:R),ops E all lx i os σ lg K=ab r->
  ∃tr σ',rD E all lx i os σ tr σ'/\K σ' ((tr.map (·.2)).reverse++lg)=ab r:=by
 intro os;induction os with
 |nil=>intro i σ lg K r h;exact⟨[],σ,⟨rfl,rfl⟩,by simpa [ops]using h⟩
 |cons o os ih=>
  intro i σ lg K r h;have next:∀ws l,qz E all (D8 lx i) o σ ws l->ops E all lx (i+1) os (wr σ ws) (l::lg) K=ab r->∃tr σ',rD E all lx i (o::os) σ tr σ'/\K σ' ((tr.map (·.2)).reverse++lg)=ab r:=by intro ws l hs h;obtain⟨tr,σ',h1,h2⟩:=ih _ _ _ _ _ h;exact⟨(ws,l)::tr,σ',⟨ws,l,tr,rfl,hs,h1⟩,by simpa using h2⟩
  have XI:∀rs,rs=mQ all o->jI all o σ=ab ae->(match (jz E (D8 lx i) o).run σ []with
    |some (e,l)=>bif e.cond then ops E all lx (i+1) os (wr σ e.ws) (⟨rs++l,e.ws.map (·.1)⟩::lg) K else af
    |none=>af)=ab r->∃tr σ',rD E all lx i (o::os) σ tr σ'/\K σ' ((tr.map (·.2)).reverse++lg)=ab r:=by
   intro rs Zl hw h
   cases hr:(jz E (D8 lx i) o).run σ []with
   |none=>rw[hr]at h;cases h
   |some el=>
    obtain⟨e,l⟩:=el;rw[hr]at h;cases hc:e.cond with
    |false=>simp[hc]at h
    |true=>simp only[hc,aw]at h;exact next e.ws _ (.inl ⟨hw,e,l,hr,hc,rfl,by rw[Zl]⟩) h
  unfold ops at h;simp(config:={zeta:=false}) only[yX]at h;cases hg:o.guard with
  |none=>rw[hg]at h;exact XI [] (by simp[mQ,hg]) (by simp[jI,hg]) h
  |some gw=>
   obtain⟨g,want⟩:=gw;rw[hg]at h;dsimp only at h;cases hd:(all.getD g default).dst with
   |none=>rw[hd]at h;cases h
   |some d=>
    rw[hd]at h;dsimp only at h;have s5:mQ all o=[nh d]:=by unfold mQ;rw[hg];dsimp only;rw[hd]
    cases hs:σ (nh d)with
    |v sv=>
     rw[hs]at h;cases sv with
     |v agg xs=>
      cases agg with
      |true=>cases h
      |false=>
       match xs with
       |[]=>cases h
       |_::_::_=>simp at h
       |[av]=>
        cases av with
        |b x=>
         have UI:jI all o σ=ab (x==want):=by unfold jI;rw[hg];dsimp only;rw[hd];dsimp only;rw[hs]
         have hup:mK σ (nh d) (.v (.v ah [.b x]))=σ:=xM hs;have skip:jI all o σ=ab ah->ops E all lx (i+1) os (wr (mK σ (nh d) (.v (.v ah [.b x]))) (dw o (.gM []))) (⟨[nh d],(dw o (.gM [])).map (·.1)⟩::lg) K=ab r->∃tr σ',rD E all lx i (o::os) σ tr σ'/\K σ' ((tr.map (·.2)).reverse++lg)=ab r:=by intro hw h;rw[hup]at h;exact next (dw o (.gM [])) _ (.inr ⟨hw,rfl,by rw[s5]⟩) h
         have QG:jI all o σ=ab ae->(match (jz E (D8 lx i) o).run (mK σ (nh d) (.v (.v ah [.b x]))) []with
           |some (e,l)=>bif e.cond then ops E all lx (i+1) os (wr (mK σ (nh d) (.v (.v ah [.b x]))) e.ws) (⟨nh d::l,e.ws.map (·.1)⟩::lg) K else af
           |none=>af)=ab r->∃tr σ',rD E all lx i (o::os) σ tr σ'/\K σ' ((tr.map (·.2)).reverse++lg)=ab r:=by
          intro hw h
          rw[hup]at h
          exact XI [nh d] s5.symm hw h
         cases x with
         |true=>
          cases want with
          |true=>exact QG (by rw[UI];rfl) h
          |false=>exact skip (by rw[UI];rfl) h
         |false=>
          cases want with
          |true=>exact skip (by rw[UI];rfl) h
          |false=>exact QG (by rw[UI];rfl) h
        |_=>simp at h
     |gM l=>cases l with
      |nil=>
       have UI:jI all o σ=ab false:=by unfold jI;rw[hg];dsimp only;rw[hd];dsimp only;rw[hs]
       exact next (dw o (.gM [])) _ (.inr ⟨UI,rfl,by rw[s5]⟩) h
      |cons=>simp at h
     |un=>simp at h
    |o x=>rw[hs]at h;cases h
    |ie=>rw[hs]at h;cases h
section
variable {P:b9} {E:eh} {σ:St} {a:Act} {w:bf} {c:dJ} {o:dU} {nm:au} {e:o7}
theorem zw(cU:dX E σ a w c){all:cG dU}{x:aL}(h:jI all o σ=ab x):qx o (yielded all a.tmps)=x:=by
 unfold jI at h;unfold qx;cases hg:o.guard with
 |none=>rw[hg]at h;simp at h;simp[<-h]
 |some gw=>
  obtain⟨g,want⟩:=gw;rw[hg]at h;simp only at h⊢;cases hd:(all.getD g default).dst with
  |none=>rw[hd]at h;cases h
  |some d=>
   rw[hd]at h;have Wf:(all[g]?).bind (·.dst)=ab d:=by
    rw[dD]at hd;cases hq:all[g]? with
    |none=>rw[hq]at hd;cases hd
    |some og=>rw[hq]at hd;exact hd
   simp only at h;split at h
   ·rename_i y hy;have h1:=cU.ok d;have:slot σ d= .v ah [.b y]:=by unfold slot;rw[hy]
    rw[this]at h1;have h1:a.eval (.tmp d)= .bool y:=h1;have ht:a.tmps[d]? =ab (.bool y):=by
     have h2:a.tmps.getD d undef= .bool y:=h1;rw[dD]at h2;cases hq:a.tmps[d]? with
     |none=>rw[hq]at h2;cases h2
     |some v=>rw[hq]at h2;rw[show v=_ from h2]
    have B_:yielded all a.tmps g=ab y:=by unfold yielded;rw[Wf];simp[ht]
    rw[B_];simp at h;rw[<-h];cases y<;>cases want<;>rfl
   ·rename_i hy;have h1:=cU.ok d;have:slot σ d= .gM []:=by unfold slot;rw[hy]
    rw[this]at h1;obtain⟨vs,h1,h3,_⟩:=h1;have h4:vs= #[]:=by simpa using h3
    subst h4;have ht:a.tmps.getD d undef= .tuple #[]:=h1;have B_:yielded all a.tmps g=none:=by
     unfold yielded;rw[Wf];rw[dD]at ht;cases hq:a.tmps[d]? with
     |none=>simp[hq]
     |some v=>rw[hq]at ht;simp at ht;simp[hq,ht]
    rw[B_];have h5:ah=x:=by simpa using h
    rw[<-h5];cases want<;>rfl
   ·cases h
theorem Act.Lh(a:Act)(d:ar Tmp)(v:aR):(a.put d v).tmps.size=a.tmps.size:=by cases d<;>simp[L8]
theorem Gh(hE:dv P E)(hF:∀g,jf P E g (E.call g))(bI:Ok E σ w c)(cU:dX E σ a w c)(hd:∀d,o.dst=ab d->d<a.tmps.size){all:cG dU}{i:au}(hi:all[i]? =ab o){ws:ak (au×dF)}{lg:Lg}(h:qz E all nm o σ ws lg)
  {K:Act->bf->Prop} {Q:Exit->Act->bf->Prop} (hK:∀v w' c',Ok E (wr σ ws) w' c'->dX E (wr σ ws) (a.put o.dst v) w' c'->lE σ c w (wr σ ws) c' w'->nM σ c c'->K (a.put o.dst v) w'):wpOp P all Q i K a w:=by
 unfold wpOp;rw[hi];simp only;rcases h with ⟨hw,e,l,hr,hc,rfl,_⟩|⟨hw,rfl,_⟩
 ·rw[br (zw cU hw)];exact .inl (XG hE hF bI cU hd (Rd.EB hr) hc K Q hK)
 ·rw[bF (by rw[zw cU hw];simp)];obtain⟨s1,s2,s3⟩:=oA σ o (.gM []);obtain⟨h1,h2⟩:=bI.slot s3;refine hK undef w c h1 ?_ h2 (gO.refl _ _).w;refine cU.change bI h2 (gO.refl _ _) (λnm hn=>by rw[s3];exact hn) o undef s1 (λd ho=>⟨hd d ho, ?_, ?_⟩)
  ·rw[s2 d ho];exact⟨#[],rfl,rfl,λj agg xs hj=>by simp at hj⟩
  ·rw[s2 d ho];intro n hn;simp[bO]at hn
structure At (P:b9) (E:eh) (N:au) (σ0:St) (c0:dJ) (w0:bf) (σ:St) (a:Act) (w:bf) (c:dJ):Prop where
 ok:Ok E σ w c
 sl:dX E σ a w c
 sz:a.tmps.size=N
 gr:lE σ0 c0 w0 σ c w
 ag:L7 c0 c
theorem At.step{N:au}{σ0:St}{c0:dJ}{w0:bf}(h:At P E N σ0 c0 w0 σ a w c){d:ar Tmp}{v:aR}{w':bf}{c':dJ}{σ':St}(h1:Ok E σ' w' c')(h2:dX E σ' (a.put d v) w' c')(h3:lE σ c w σ' c' w')(h4:nM σ c c'):At P E N σ0 c0 w0 σ' (a.put d v) w' c':=
 ⟨h1,h2,by rw[Act.Lh];exact h.sz,h.gr.trans h3,h.ag.trans h4.aga⟩
theorem Dz(hE:dv P E)(hF:∀g,jf P E g (E.call g)){N:au}{σ0:St}{c0:dJ}{w0:bf}{all:cG dU}{lx:au}{Q:Exit->Act->bf->Prop}:∀(os:ak dU) (i:au) (σ:St) (tr:Tr) (σ':St),rD E all lx i os σ tr σ'->(∀j o,os[j]? =ab o->all[i+j]? =ab o)->(∀o∈os,∀d,o.dst=ab d->d<N)->
  (∀a w c,At P E N σ0 c0 w0 σ' a w c->Q .normal a w)->∀a w c,At P E N σ0 c0 w0 σ a w c->wpOps P all Q (oH i os.length) a w:=by
 intro os;induction os with
 |nil=>intro i σ tr σ' h _ _ hQ a w c eI;obtain⟨_,rfl⟩:=h;exact hQ a w c eI
 |cons o os ih=>intro i σ tr σ' h lK wM hQ a w c eI;obtain⟨ws,lg,Rg,rfl,hs,Mm⟩:=h;have hi:all[i]? =ab o:=lK 0 o rfl;rw[cE,List.range'_succ,wpOps_cons];refine Gh hE hF eI.ok eI.sl (λd hd=>by rw[eI.sz];exact wM o (cR ..) d hd) hi hs (λv w' c' h1 h2 h3 h4=> ?_);exact ih (i+1) _ _ _ Mm (λj o' hj=>by have:=lK (j+1) o' hj;rwa[show i+(j+1)=i+1+j by omega]at this) (λo' qC=>wM o' (b_ _ qC)) hQ _ _ _ (eI.step h1 h2 h3 h4)
end
end Go.FG

namespace Go.FG
theorem Rd.OJ{α:Type}(m:Rd α):∀{σ:St} {l l':ak au} {a:α},m.run σ l=ab (a,l')->∀k∈l,k∈l':=by
 induction m with
 |ret a=>intro σ l l' b h k hk;cases h;exact hk
 |fail=>intro σ l l' b h;cases h
 |get k f ih=>intro σ l l' b h k' qB;exact ih _ h k' (b_ _ qB)
theorem Rd.HF{α:Type}(m:Rd α):∀{σ σ':St} {l l':ak au} {a:α},m.run σ l=ab (a,l')->(∀k∈l',σ' k=σ k)->m.run σ' l=ab (a,l'):=by
 induction m with
 |ret a=>intro σ σ' l l' b h _;exact h
 |fail=>intro σ σ' l l' b h;cases h
 |get k f ih=>intro σ σ' l l' b h hk;have h:(f (σ k)).run σ (k::l)=ab (b,l'):=h;have qB:σ' k=σ k:=hk k (Rd.OJ _ h k (cR ..));show(f (σ' k)).run σ' (k::l)=ab (b,l');rw[qB];exact ih _ h hk
theorem sP{all:cG dU}{o:dU}{σ σ':St}(h:∀k∈mQ all o,σ' k=σ k):jI all o σ'=jI all o σ:=by
 unfold jI mQ at*
 cases hg:o.guard with
 |none=>rfl
 |some gw=>
  obtain⟨g,want⟩:=gw;rw[hg]at h;dsimp only at h⊢;cases hd:(all.getD g default).dst with
  |none=>rfl
  |some d=>rw[hd]at h;dsimp only at h⊢;rw[h (nh d) (aP.2 rfl)]
theorem qz.congr{E:eh}{all:cG dU}{nm:au}{o:dU}{σ σ':St}{ws:ak (au×dF)}{lg:Lg}(h:qz E all nm o σ ws lg)(hk:∀k∈lg.rs,σ' k=σ k):qz E all nm o σ' ws lg:=by
 rcases h with ⟨h1,e,l,h2,h3,rfl,rfl⟩|⟨h1,rfl,rfl⟩
 ·refine .inl ⟨by rw[sP (λk qB=>hk k (bw _ qB))];exact h1,e,l,Rd.HF _ h2 (λk qB=>hk k (bm _ qB)),h3,rfl,rfl⟩
 ·exact .inr ⟨by rw[sP (λk qB=>hk k qB)];exact h1,rfl,rfl⟩
theorem qz.keys{E:eh}{all:cG dU}{nm:au}{o:dU}{σ:St}{ws:ak (au×dF)}{lg:Lg}(h:qz E all nm o σ ws lg):lg.ws=ws.map (·.1):=by rcases h with ⟨h1,e,l,h2,h3,rfl,rfl⟩|⟨h1,rfl,rfl⟩<;>rfl
theorem mw:∀{ws:ak (au×dF)} {σ:St} {k:au},k∉ws.map (·.1)->wr σ ws k=σ k:=by
 intro ws;induction ws with
 |nil=>intro σ k _;rfl
 |cons d ws ih=>obtain⟨k',c⟩:=d;intro σ k h;rw[dW,bP,not_or]at h;show wr (mK σ k' c) ws k=σ k;rw[ih h.2,ug σ c h.1]
theorem LX:∀{ws:ak (au×dF)} {σ σ':St} {k:au},k∈ws.map (·.1)->wr σ ws k=wr σ' ws k:=by
 intro ws;induction ws with
 |nil=>intro σ σ' k h;cases h
 |cons d ws ih=>
  obtain⟨k',c⟩:=d;intro σ σ' k h;show wr (mK σ k' c) ws k=wr (mK σ' k' c) ws k;by_cases hk:k∈ws.map (·.1)
  ·exact ih hk
  ·have:k=k':=by
    rcases bP.1 h with h|h
    ·exact h
    ·exact bS h hk
   subst this;rw[mw hk,mw hk,pN,pN]
theorem LW{ws:ak (au×dF)}{σ σ':St}{k:au}(h:σ k=σ' k):wr σ ws k=wr σ' ws k:=by
 by_cases hk:k∈ws.map (·.1)
 ·exact LX hk
 ·rw[mw hk,mw hk];exact h
def xX:Tr->au->(au->aL)->St->St
 |[],_,_,σ=>σ
 |(ws,_)::tr,i,S,σ=>xX tr (i+1) S (bif S i then wr σ ws else σ)
theorem qh:∀{tr:Tr} {i:au} {S S':au->aL} {σ σ':St} {k:au},σ k=σ' k->(∀j ws lg,tr[j]? =ab (ws,lg)->S (i+j)≠S' (i+j)->k∉ws.map (·.1))->xX tr i S σ k=xX tr i S' σ' k:=by
 intro tr;induction tr with
 |nil=>intro i S S' σ σ' k h _;exact h
 |cons d tr ih=>
  obtain⟨ws,lg⟩:=d;intro i S S' σ σ' k h hd;refine ih ?_ (λj yw xV hj fP=>hd (j+1) yw xV hj (by rwa[show i+(j+1)=i+1+j by omega]));by_cases hS:S i=S' i
  ·rw[hS];cases S' i
   ·exact h
   ·exact LW h
  ·have hk:=hd 0 ws lg rfl hS;cases hs:S i<;>cases UF:S' i
   ·exact bS (hs.trans UF.symm) hS
   ·show σ k=wr σ' ws k;rw[mw hk];exact h
   ·show wr σ ws k=σ' k;rw[mw hk];exact h
   ·exact bS (hs.trans UF.symm) hS
theorem xJ:∀{tr:Tr} {i:au} {S:au->aL} {σ:St},(∀j,i<=j->S j=ah)->xX tr i S σ=σ:=by
 intro tr;induction tr with
 |nil=>intro i S σ _;rfl
 |cons d tr ih=>obtain⟨ws,lg⟩:=d;intro i S σ h;show xX tr (i+1) S (bif S i then wr σ ws else σ)=σ;rw[h i (cD _)];exact ih (λj hj=>h j (by omega))
theorem LL:∀{tr:Tr} {i j:au} {S:au->aL} {σ:St} {ws:ak (au×dF)} {lg:Lg},tr[j]? =ab (ws,lg)->S (i+j)=ae->(∀q,i+j<q->S q=ah)->∃τ,xX tr i S σ=wr τ ws:=by
 intro tr;induction tr with
 |nil=>intro i j S σ ws lg h;simp at h
 |cons d tr ih=>
  obtain⟨yw,xV⟩:=d;intro i j S σ ws lg h hS hn;cases j with
  |zero=>
   cases h;refine⟨σ, ?_⟩
   show xX tr (i+1) S (bif S i then wr σ yw else σ)=wr σ yw;rw[show S i=ae from hS];exact xJ (λq hq=>hn q (by omega))
  |succ j=>exact ih (i:=i+1) h (by rwa[show i+1+j=i+(j+1)by omega]) (λq hq=>hn q (by omega))
theorem JB{E:eh}{all:cG dU}{lx:au}:∀{os:ak dU} {i:au} {σ σ':St} {tr:Tr},rD E all lx i os σ tr σ'->tr.length=os.length/\xX tr i (λ_=>ae) σ=σ'/\
  ∀(j:au) (o:dU),os[j]? =ab o->∃ws lg,tr[j]? =ab (ws,lg)/\qz E all (D8 lx (i+j)) o (xX tr i (λq=>decide (q<i+j)) σ) ws lg:=by
 intro os;induction os with
 |nil=>intro i σ σ' tr h;obtain⟨rfl,rfl⟩:=h;exact⟨rfl,rfl,λj o h=>by simp at h⟩
 |cons o os ih=>
  intro i σ σ' tr h;obtain⟨ws,lg,Rg,rfl,hs,Mm⟩:=h;obtain⟨h1,h2,h3⟩:=ih Mm;refine⟨by simp[h1],h2,λj o' hj=> ?_⟩
  cases j with
  |zero=>
   cases hj;refine⟨ws,lg,rfl, ?_⟩
   rw[show xX ((ws,lg)::Rg) i (λq=>decide (q<i+0)) σ=σ from xJ (λq hq=>by simp;omega)];exact hs
  |succ j=>
   obtain⟨yw,xV,q1,q2⟩:=h3 j o' hj;refine⟨yw,xV,q1, ?_⟩
   have e1:xX ((ws,lg)::Rg) i (λq=>decide (q<i+(j+1))) σ=xX Rg (i+1) (λq=>decide (q<i+1+j)) (wr σ ws):=by show xX Rg (i+1) (λq=>decide (q<i+(j+1))) (bif decide (i<i+(j+1))then wr σ ws else σ)=_;rw[aE (by omega:i<i+(j+1))];rw[show i+(j+1)=i+1+j by omega];rfl
   rw[e1,show i+(j+1)=i+1+j by omega];exact q2
theorem pd{a b:Lg}(h:wx a b=ah):(∀k∈a.ws,k∉b.ws)/\(∀k∈a.ws,k∉b.rs)/\∀k∈b.ws,k∉a.rs:=by simp only[wx,s6,az]at h;exact⟨lR h.1.1,lR h.1.2,lR h.2⟩
theorem tU{l:ak au}{n:au}(h:jO n l=ae):n∈l:=by
 induction l with
 |nil=>cases h
 |cons m r ih=>
  simp only[jO,dg]at h;rcases h with h|h
  ·rw[aJ h];exact cR ..
  ·exact b_ _ (ih h)
theorem Dv{an:ak au}{j:au}{a:Lg}:∀{l:ak Lg} {i:au},vm an j a i l=ae->∀(q:au) (b:Lg),l[q]? =ab b->i+q∈an\/wx a b=false:=by
 intro l;induction l with
 |nil=>intro i _ q b h;simp at h
 |cons d l ih=>
  intro i h q b hq;simp only[vm,az,dg,dt]at h;cases q with
  |zero=>cases hq;exact h.1.imp tU id
  |succ q=>have:=ih h.2 q b hq;rwa[show i+1+q=i+(q+1)by omega]at this
theorem Fj{an:ak (ak au)}:∀{rest:ak Lg} {j:au} {done:ak Lg},done.length=j->calm j an done rest=ae->∀(i J:au) (a b:Lg),i<J->j<=J->(done++rest)[i]? =ab b->(done++rest)[J]? =ab a->i∈an.getD J []\/wx a b=false:=by
 intro rest;induction rest with
 |nil=>intro j done hd _ i J a b _ hJ _ hb;rw[da,iL (by omega)]at hb;cases hb
 |cons d rest ih=>
  intro j done hd h i J a b J0 hJ hi hb;simp only[calm,az]at h;by_cases hJj:J=j
  ·subst hJj;rw[cm (by omega),hd,Mg]at hb;cases hb;rw[cS (by omega)]at hi;have:=Dv h.1 i b hi;rwa[bu]at this
  ·refine ih (done:=done++[d]) (by simp[hd]) h.2 i J a b J0 (by omega) ?_ ?_
   ·rw[bR];exact hi
   ·rw[bR];exact hb
theorem MX:∀{os:ak dU} {acc:ak (ak au)},∃rest,z7 acc os=acc++rest/\rest.length=os.length/\
  ∀(t:au) (o:dU),os[t]? =ab o->rest[t]? =ab (Sn [] (o.after.toList.flatMap λe=>bif jT .any e then e.on::((acc++rest).take (acc.length+t)).getD e.on []else [])):=by
 intro os;induction os with
 |nil=>intro acc;exact⟨[],by simp[z7],rfl,λt o h=>by simp at h⟩
 |cons o os ih=>
  intro acc;let x:=Sn [] (o.after.toList.flatMap λe=>bif jT .any e then e.on::acc.getD e.on []else []);obtain⟨rest,h1,h2,h3⟩:=ih (acc:=acc++[x]);refine⟨x::rest, ?_,by simp[h2],λt o' ht=> ?_⟩
  ·show jZ x (λx=>z7 (acc++[x]) os)=_;rw[lT,h1,bR];rfl
  ·cases t with
   |zero=>cases ht;rw[oQ,tn,lG (cD _),la]
   |succ t=>rw[cZ,h3 t o' ht];simp only[b8,bM,bR,qq,show acc.length+1+t=acc.length+(t+1)by omega]
theorem F7:∀{os:ak dU} {i:au},Cv i os=ae->∀(t:au) (o:dU),os[t]? =ab o->∀e∈o.after,jT .any e=ae->e.on<i+t:=by
 intro os;induction os with
 |nil=>intro i _ t o h;simp at h
 |cons o os ih=>
  intro i h t o' ht e he hb;simp only[Cv,az]at h;cases t with
  |zero=>
   cases ht;have:=aZ.1 h.1 e (by simpa using he);rw[hb]at this;have:nk e.on i=true:=by simpa using this
   simpa [uN]using this
  |succ t=>have:=ih h.2 t o' ht e he hb;omega
theorem we{os:ak dU}{S:au->aL}(hS:∀(j:au) (o:dU),S j=ae->os[j]? =ab o->∀e∈o.after,jT .any e=ae->S e.on=ae)(J9:Cv 0 os=ae):
  ∀j,S j=ae->∀i∈(z7 [] os).getD j [],S i=true:=by
 obtain⟨rest,h1,h2,h3⟩:=MX (os:=os) (acc:=[]);rw[fU]at h1;intro j;induction j using Nat.strongRecOn with
 |_ j ih=>
  intro hj i hi;rw[h1,cT]at hi;cases ho:os[j]? with
  |none=>rw[iL (by rw[h2];exact List.getElem?_eq_none_iff.1 ho)]at hi;cases hi
  |some o=>
   rw[h3 j o ho]at hi;simp only[tq,gX,bu,fU]at hi;have hi:=(Ag _ _ _ hi).elim (λh=>by cases h) id;obtain⟨e,he,hi⟩:=bg.1 hi;have he:e∈o.after:=by simpa using he
   cases hb:jT .any e with
   |false=>rw[hb]at hi;cases hi
   |true=>
    rw[hb]at hi;have ix:=F7 J9 j o ho e he hb;rw[bu]at ix;have hSe:=hS j o hj ho e he hb;rcases bP.1 hi with rfl|hi
    ·exact hSe
    ·refine ih e.on ix hSe i ?_;rw[h1,cT];rw[cT,dj,br ix]at hi;exact hi
end Go.FG

namespace Go.FG
theorem BJ{p p':au->aL}{i:au}(hp:p i=ae)(se:p' i=ah)(fP:∀j,j≠i->p' j=p j):∀{l:ak au},l.Nodup->i∈l->l.countP p'+1=l.countP p:=by
 have same:∀{l:ak au},i∉l->l.countP p'=l.countP p:=by
  intro l;induction l with
  |nil=>intro _;rfl
  |cons m l ih=>intro h;rw[bP,not_or]at h;rw[i_,i_,ih h.2,fP m (λe=>h.1 e.symm)]
 intro l;induction l with
 |nil=>intro _ h;cases h
 |cons m l ih=>
  intro hn h;rw[iz]at hn;rcases bP.1 h with rfl|h
  ·rw[i_,i_,same hn.1,hp,se];simp
  ·have hm:m≠i:=λe=>hn.1 (e▸h);rw[i_,i_,fP m hm,<-ih hn.2 h];omega
theorem nb{c6:cG aL}{i:au}(h:i<c6.size)(d:aL):(c6.setIfInBounds i ae).getD i d=true:=by simp[h]
section
variable {P:b9} {E:eh}
theorem GO(hE:dv P E)(hF:∀g,jf P E g (E.call g)){N:au}{σ0:St}{c0:dJ}{w0:bf}{all:cG dU}{lx:au}{Q:Exit->Act->bf->Prop}{σ σ':St}{tr:Tr}(Mm:rD E all lx 0 all.toList σ tr σ')(PY:calm 0 (z7 [] all.toList) [] (tr.map (·.2))=ae)(J9:Cv 0 all.toList=ae)
  (wM:∀o∈all.toList,∀d,o.dst=ab d->d<N) (hQ:∀a w c,At P E N σ0 c0 w0 σ' a w c->Q .normal a w):
  ∀(fuel:au) (c6:cG aL) (a:Act) (w:bf) (c:dJ),c6.size=all.size->(∀(j:au) (o:dU),c6.getD j ah=ae->all.toList[j]? =ab o->∀e∈o.after,jT .any e=ae->c6.getD e.on ah=ae)->
   (cy all.size).countP (λj=> !c6.getD j ah)<=fuel->At P E N σ0 c0 w0 (xX tr 0 (λj=>c6.getD j ah) σ) a w c->wpAny P .any all Q fuel c6 a w:=by
 obtain⟨t1,t2,t3⟩:=JB Mm;have hlen:all.toList.length=all.size:=c8;have done:∀(c6:cG aL) (a:Act) (w:bf) (c:dJ),(∀j,j<all.size->c6.getD j ah=ae)->At P E N σ0 c0 w0 (xX tr 0 (λj=>c6.getD j ah) σ) a w c->Q .normal a w:=by
  intro c6 a w c lK eI;refine hQ a w c ?_;have:xX tr 0 (λj=>c6.getD j ah) σ=σ':=by
   rw[<-t2];funext k;refine qh rfl (λj ws lg hj fP=> ?_);have jc:j<all.size:=by rw[<-hlen,<-t1];exact(aG.1 hj).1
   rw[bu]at fP;exact bS (lK j jc) fP
  rw[<-this];exact eI
 have Sq:∀(c6:cG aL) (j:au),c6.size=all.size->j<all.size->c6.getD j ae=c6.getD j false:=by
  intro c6 j hs hj;rw[dD,dD];have:j<c6.size:=by omega
  simp[this]
 have full:∀c6:cG aL,c6.size=all.size->rH .any all c6=[]->∀j,j<all.size->c6.getD j ah=true:=by
  intro c6 hs hr j;induction j using Nat.strongRecOn with
  |_ j ih=>
   intro hj;cases h:c6.getD j ah with
   |true=>rfl
   |false=>
    have ho:all[j]? =ab all[j]:=by simp[hj]
    have:j∈rH .any all c6:=by
     rw[mem_ready];refine⟨by rw[Sq c6 j hs hj];exact h,all[j],ho,λe he hb=> ?_⟩
     have:=F7 J9 j all[j] (by rw[bY];exact ho) e he hb;rw[bu]at this;exact ih e.on this (by omega)
    rw[hr]at this;cases this
 intro fuel;induction fuel with
 |zero=>
  intro c6 a w c hs _ VZ eI;have lK:∀j,j<all.size->c6.getD j ah=true:=by intro j hj;have h0:=List.countP_eq_zero.1 (Nat.le_zero.1 VZ) j (by simpa using hj);simpa using h0
  refine⟨?_,done c6 a w c lK eI⟩
  cases hr:rH .any all c6 with
  |nil=>rfl
  |cons i r=>
   have:i∈rH .any all c6:=by rw[hr];exact cR ..
   obtain⟨h0,o,ho,_⟩:=mem_ready.1 this;have hi:i<all.size:=(c_.1 ho).1;rw[Sq c6 i hs hi,lK i hi]at h0;cases h0
 |succ fuel ih=>
  intro c6 a w c hs mI VZ eI;refine⟨λhr=>done c6 a w c (full c6 hs hr) eI,λi hi=> ?_⟩
  obtain⟨h0,o,ho,abY⟩:=mem_ready.1 hi;have Ze:i<all.size:=(c_.1 ho).1;rw[Sq c6 i hs Ze]at h0;have za:all.toList[i]? =ab o:=by rw[bY];exact ho
  obtain⟨ws,lg,q1,q2⟩:=t3 i o za;rw[bu]at q2;have Kw:∀{j:au} {yw:ak (au×dF)} {xV:Lg},tr[j]? =ab (yw,xV)->(tr.map (·.2))[j]? =ab xV/\xV.ws=yw.map (·.1):=by
   intro j yw xV hj;have jc:j<all.toList.length:=by rw[<-t1];exact(aG.1 hj).1
   obtain⟨ws2,lg2,r1,r2⟩:=t3 j all.toList[j] (by simp[jc]);rw[hj]at r1;cases r1;exact⟨by rw[bc,hj];rfl,r2.keys⟩
  obtain⟨lgi,kwi⟩:=Kw q1;have SR:∀(j:au) (o':dU),(c6.setIfInBounds i ae).getD j ah=ae->all.toList[j]? =ab o'->∀e∈o'.after,jT .any e=ae->(c6.setIfInBounds i ae).getD e.on ah=true:=by
   intro j o' hj qC e he hb;by_cases B4:i=j
   ·subst B4;rw[za]at qC;cases qC;exact getD_set_true (abY e he hb)
   ·rw[getD_set_ne ah B4]at hj;exact getD_set_true (mI j o' hj qC e he hb)
  have before:∀j,j<i->c6.getD j ah=ah->∀{yw:ak (au×dF)} {xV:Lg},tr[j]? =ab (yw,xV)->wx lg xV=false:=by
   intro j hj hn yw xV hjt;rcases Fj (done:=[]) rfl PY j i lg xV hj (bT _) (Kw hjt).1 lgi with h|h
   ·have:=we SR J9 i (nb (by omega) ah) j h;rw[getD_set_ne ah (by omega:i≠j)]at this;rw[hn]at this;cases this
   ·exact h
  have after:∀j,i<j->c6.getD j ah=ae->∀{yw:ak (au×dF)} {xV:Lg},tr[j]? =ab (yw,xV)->wx xV lg=false:=by
   intro j hj hn yw xV hjt;rcases Fj (done:=[]) rfl PY i j xV lg hj (bT _) lgi (Kw hjt).1 with h|h
   ·have:=we mI J9 j hn i h;rw[h0]at this;cases this
   ·exact h
  have WD:qz E all (D8 lx i) o (xX tr 0 (λj=>c6.getD j ah) σ) ws lg:=by
   refine q2.congr (λk hk=>qh rfl (λj yw xV hj fP P6=> ?_));rw[bu]at fP;rw[<-(Kw hj).2]at P6;by_cases B4:j<i
   ·rw[aE B4]at fP;have hn:c6.getD j ah=false:=by simpa using fP
    exact(pd (before j B4 hn hj)).2.2 k P6 hk
   ·rw[aK B4]at fP;have hn:c6.getD j ah=true:=by simpa using fP
    have abK:i<j:=by
     rcases rA i j with h|h
     ·exact h
     ·have:j=i:=by omega
      subst this;rw[h0]at hn;cases hn
    exact(pd (after j abK hn hj)).2.1 k P6 hk
  have tN:wr (xX tr 0 (λj=>c6.getD j ah) σ) ws=xX tr 0 (λj=>(c6.setIfInBounds i ae).getD j ah) σ:=by
   funext k;by_cases hk:k∈ws.map (·.1)
   ·have e1:xX tr 0 (λj=>(c6.setIfInBounds i ae).getD j ah) σ k=xX tr 0 (λj=>(c6.setIfInBounds i ae).getD j ah&&decide (j<=i)) σ k:=by
     refine qh rfl (λj yw xV hj fP P6=> ?_);rw[bu]at fP;rw[<-(Kw hj).2]at P6;have B4:i<j:=by
      rcases rA i j with h|h
      ·exact h
      ·rw[aE h,j9]at fP;exact bS rfl fP
     rw[aK (by omega:¬j<=i),My,getD_set_ne ah (by omega:i≠j)]at fP;have hn:c6.getD j ah=true:=by simpa using fP
     rw[<-kwi]at hk;exact(pd (after j B4 hn hj)).1 k P6 hk
    obtain⟨τ,hτ⟩:=LL (i:=0) (S:=λj=>(c6.setIfInBounds i ae).getD j ah&&decide (j<=i)) (σ:=σ) q1 (by rw[bu,nb (by omega) ah];simp) (λq hq=>by rw[aK (by omega:¬q<=i),My]);rw[e1,hτ];exact LX hk
   ·rw[mw hk];refine qh rfl (λj yw xV hj fP P6=> ?_);rw[bu]at fP;by_cases B4:i=j
    ·subst B4;rw[q1]at hj;cases hj;exact hk P6
    ·rw[getD_set_ne ah B4]at fP;exact bS rfl fP
  refine Gh hE hF eI.ok eI.sl (λd P0=>by rw[eI.sz];exact wM o (aD za) d P0) ho WD (λv w' c' h1 h2 h3 h4=> ?_);have uX:=eI.step h1 h2 h3 h4;rw[tN]at uX;refine ih (c6.setIfInBounds i ae) _ _ c' (by simp[hs]) SR ?_ uX;have:=BJ (p:=λj=> !c6.getD j ah) (p':=λj=> !(c6.setIfInBounds i ae).getD j ah) (i:=i) (by rw[h0];rfl) (by rw[nb (by omega) ah];rfl) (λj hj=>by rw[getD_set_ne ah (λe=>hj e.symm)]) (l:=cy all.size) List.nodup_range (by simpa using Ze);omega
theorem At.drawn{N:au}{σ0 σ:St}{c0 c:dJ}{w0 w:bf}{a:Act}(h:At P E N σ0 c0 w0 σ a w c)(n:au):At P E N σ0 c0 w0 σ a {w with drawn:=n} c:=by have hh:=h.ok.change (σ':=σ) (w':={w with drawn:=n}) (c':=c) (λ_=>False) (λ_ _=>rfl) (λ_ h=>h) (gO.refl _ _) (λ_ _ _=>rfl) (cD _) (λ_ h=>h) (λ_ h=> .inl h) h.ok.lt (λ_ _ h=>h.elim) (λ_ _ _ h=>h.elim) (λ_ _ _ _ _ h=>h.elim) (λ_ _ h=>h.elim) rfl rfl rfl;refine⟨hh.1,⟨λn'=>(h.sl.ok n').frame (λ_ _=>rfl) (λ_ h=>h) (λ_ _=>⟨rfl,rfl⟩),h.sl.kn,h.sl.df⟩,h.sz,h.gr.trans hh.2,h.ag⟩
theorem Hw(hE:dv P E)(hF:∀g,jf P E g (E.call g))(hm:P.follows .mixedOrders=ae){R:Type}{N:au}{σ0:St}{c0:dJ}{w0:bf}{os:cG dU}{lx:au}{draw:aL}{Q:Exit->Act->bf->Prop}{σ:St}{K:Ex->St->ar R}{r:R}
  (h:ops E os lx 0 os.toList σ [] (λσ lg=>bif !draw||(Cv 0 os.toList&&Fh (z7 [] os.toList) lg.reverse)then K .normal σ else af)=ab r) (wM:∀o∈os.toList,∀d,o.dst=ab d->d<N)
  (hQ:∀σ' a w c,K .normal σ'=ab r->At P E N σ0 c0 w0 σ' a w c->Q .normal a w) {a:Act} {w:bf} {c:dJ} (eI:At P E N σ0 c0 w0 σ a w c):(Code.region lx os draw).wp P Q a w:=by
 obtain⟨tr,σ',Mm,hk⟩:=Hl E os lx _ _ _ _ _ _ h;simp only[da,List.reverse_reverse,Jx]at hk;cases draw with
 |false=>simp only[bX,U2,aw]at hk;refine wp_region ?_;rw[List.range_eq_range',<-c8];exact Dz hE hF os.toList 0 σ tr σ' Mm (λj o hj=>by rw[bu,<-bY];exact hj) wM (λa w c h=>hQ σ' a w c hk h) a w c eI
 |true=>
  cases hc:(Cv 0 os.toList&&calm 0 (z7 [] os.toList) [] (tr.map (·.2)))with
  |false=>simp[hc]at hk
  |true=>
   simp only[hc,Rr,aw]at hk;simp only[az]at hc;refine wp_region_any hm ?_;refine GO hE hF Mm hc.2 hc.1 wM (λa w c h=>hQ σ' a w c hk h) os.size _ a _ c (by simp) (λj o hj=> ?_) ?_ ?_
   ·exfalso;rw[dD,yA]at hj;split at hj<;>cases hj
   ·exact c5 (List.countP_le_length) (by simp)
   ·have:xX tr 0 (λj=>(u9 os.size ah).getD j ah) σ=σ:=xJ (λj _=>by rw[dD,yA];split<;>rfl);rw[this];exact eI.drawn _
end
end Go.FG

namespace Go.FG
theorem Kf:∀{l:ak au} {n i:au},n∈l->∃k,idx n i l=ab k/\i<=k/\k<i+l.length/\l[k-i]? =ab n:=by
 intro l;induction l with
 |nil=>intro n i h;cases h
 |cons m l ih=>
  intro n i h;unfold idx;cases hb:a_ n m with
  |true=>have:=aJ hb;subst this;exact⟨i,rfl,cD _,by simp,by simp⟩
  |false=>
   rcases bP.1 h with rfl|h
   ·simp at hb
   ·obtain⟨k,h1,h2,h3,h4⟩:=ih (i:=i+1) h;refine⟨k,h1,by omega,by simp;omega, ?_⟩
    rw[show k-i=(k-(i+1))+1 by omega,cZ];exact h4
theorem NR:∀{l:ak au} {n i k:au},idx n i l=ab k->i<=k/\k<i+l.length/\l[k-i]? =ab n:=by
 intro l;induction l with
 |nil=>intro n i k h;cases h
 |cons m l ih=>
  intro n i k h;unfold idx at h;cases hb:a_ n m with
  |true=>rw[hb]at h;have:=aJ hb;subst this;cases h;exact⟨cD _,by simp,by simp⟩
  |false=>
   rw[hb]at h;obtain⟨h2,h3,h4⟩:=ih h;refine⟨by omega,by simp;omega, ?_⟩
   rw[show k-i=(k-(i+1))+1 by omega,cZ];exact h4
theorem DD{f:aL}{k:au}(h:k<900):enc f k<900000000:=by unfold enc;cases f<;>simp<;>omega
theorem NX{f:aL}{k:au}(h:k<900):tO (enc f k)=f:=by
 cases f with
 |false=>
  show(a_ (k%1000) 999&&nk k 900000000)=ah;have:a_ (k%1000) 999=false:=by
   cases hb:a_ (k%1000) 999 with
   |false=>rfl
   |true=>have:=aJ hb;omega
  rw[this];rfl
 |true=>show(a_ ((k*1000+999)%1000) 999&&nk (k*1000+999) 900000000)=ae;rw[show(k*1000+999)%1000=999 by omega,show nk (k*1000+999) 900000000=ae from Db (by omega)];rfl
theorem Nd{f f':aL}{k k':au}(h:k<900)(h':k'<900)(he:enc f k=enc f' k'):k=k':=by unfold enc at he;cases f<;>cases f'<;>simp at he<;>omega
theorem K8{l:ak au}{n:au}(h:n∈l):∃k,rq l n=ab k:=by
 unfold rq;cases dZ 900000000 n with
 |true=>exact⟨n,by simp[Cg h]⟩
 |false=>obtain⟨k,hk,_⟩:=Kf (i:=0) h;exact⟨enc (tO n) k,by simp[hk]⟩
theorem sB{l:ak au}{n k:au}(h:rq l n=ab k):n∈l/\((900000000<=n/\k=n)\/(n<900000000/\∃k0,k=enc (tO n) k0/\k0<l.length/\l[k0]? =ab n)):=by
 unfold rq at h;cases hb:dZ 900000000 n with
 |true=>
  rw[hb]at h;cases hm:jO n l with
  |true=>simp only[hm,aw]at h;cases h;exact⟨tU hm, .inl ⟨bN hb,rfl⟩⟩
  |false=>simp[hm]at h
 |false=>
  rw[hb,aC]at h;cases hi:idx n 0 l with
  |none=>rw[hi]at h;cases h
  |some k0=>
   rw[hi]at h;cases h;obtain⟨_,h3,h4⟩:=NR hi;rw[tp]at h4;refine⟨aD h4, .inr ⟨?_,k0,rfl,by simpa using h3,h4⟩⟩
   rcases rA n 900000000 with h|h
   ·exact h
   ·rw[Db h]at hb;cases hb
theorem F_{l:ak au}(hl:l.length<=900){n k:au}(h:rq l n=ab k):tO k=tO n:=by
 obtain⟨_,⟨_,rfl⟩|⟨_,k0,rfl,h3,_⟩⟩:=sB h
 ·rfl
 ·exact NX (by omega)
theorem OE{l:ak au}(hl:l.length<=900){n n' k:au}(h:rq l n=ab k)(h':rq l n'=ab k):n=n':=by
 obtain⟨_,h1⟩:=sB h;obtain⟨_,h2⟩:=sB h';rcases h1 with ⟨a,b⟩|⟨a,k0,b,d,e⟩<;>rcases h2 with ⟨a',b'⟩|⟨a',k0',b',d',e'⟩
 ·omega
 ·have:=DD (f:=tO n') (k:=k0') (by omega);omega
 ·have:=DD (f:=tO n) (k:=k0) (by omega);omega
 ·have:=Nd (f:=tO n) (f':=tO n') (k:=k0) (k':=k0') (by omega) (by omega) (b.symm.trans b');subst this;rw[e]at e';cases e';rfl
def inv(l:ak au)(m:au):ar au:=l.find? λn=>decide (rq l n=ab m)
theorem Tl{l:ak au}(hl:l.length<=900){n k:au}(h:rq l n=ab k):inv l k=ab n:=by
 unfold inv;cases hf:l.find? (λn=>decide (rq l n=ab k))with
 |none=>have:=tf.1 hf n (sB h).1;simp[h]at this
 |some n'=>have:=x9 hf;rw[OE hl h (bU this)]
theorem Ki{l:ak au}{m n:au}(h:inv l m=ab n):rq l n=ab m:=bU (x9 (p:=λn=>decide (rq l n=ab m)) h)
theorem zg{l ns:ak au}(h:tQ l ns=ae):∀n∈ns,n∈l:=λn hn=>tU (aZ.1 h n hn)
theorem oe{σ:St}{l:ak au}:∀{r:ak au} {k:au} {x:dF},(k,x)∈rk σ l r↔∃n∈r,∃m,rq l n=ab m/\k=cf m/\x=Hy l (σ (cf n)):=by
 intro r;induction r with
 |nil=>intro k x;simp[rk]
 |cons n r ih=>
  intro k x;unfold rk;cases hr:rq l n with
  |none=>
   simp only;rw[ih];constructor
   ·rintro ⟨n',h1,h2⟩;exact⟨n',b_ _ h1,h2⟩
   ·rintro ⟨n',h1,m,h2,h3⟩;rcases bP.1 h1 with rfl|h1
    ·rw[hr]at h2;cases h2
    ·exact⟨n',h1,m,h2,h3⟩
  |some m=>
   simp only[bP,ih];constructor
   ·rintro (h|⟨n',h1,h2⟩)
    ·cases h;exact⟨n, .inl rfl,m,hr,rfl,rfl⟩
    ·exact⟨n', .inr h1,h2⟩
   ·rintro ⟨n',h1|h1,m',h2,rfl,rfl⟩
    ·subst h1;rw[hr]at h2;cases h2;exact .inl rfl
    ·exact .inr ⟨n',h1,m',h2,rfl,rfl⟩
section
variable {P:b9} {E:eh} {σ:St} {a:Act} {w:bf} {c:dJ} {o:dU} {nm:au} {e:o7}
def sw(c:dJ)(l:ak au):dJ:=
 ⟨λm=>match inv l m with|some n=>c.P n|none=>c.P m,λm=>match inv l m with|some n=>c.G n|none=>c.G m,c.K⟩
theorem sA{l:ak au}(hl:l.length<=900){n m:au}(h:rq l n=ab m):(sw c l).P m=c.P n/\(sw c l).G m=c.G n:=by have:=Tl hl h;unfold sw;simp only[this];exact⟨trivial,trivial⟩
theorem pI{T:Tab}{l:ak au}(hl:l.length<=900){x:AV}{u:aR}(hx:dz T w c x u)(hk:∀n∈bh x,n∈l):dz T w (sw c l) (mV l x) u/\∀m∈bh (mV l x),∃n∈l,rq l n=ab m:=by
 have named:∀n,n∈bh x->∃k,rq l n=ab k/\(sw c l).P k=c.P n/\(sw c l).G k=c.G n:=λn hn=>by obtain⟨k,h⟩:=K8 (hk n hn);exact⟨k,h,sA hl h⟩
 have nn:∀m,m∈([]:ak au)->∃n∈l,rq l n=ab m:=λm h=>by cases h
 cases x with
 |i=>exact⟨hx,nn⟩
 |b=>exact⟨hx,nn⟩
 |s=>exact⟨hx,nn⟩
 |nl=>exact⟨hx,nn⟩
 |sh=>exact⟨hx,nn⟩
 |sp=>exact⟨hx,nn⟩
 |fn=>exact⟨hx,nn⟩
 |fp=>exact⟨hx,nn⟩
 |own n=>obtain⟨k,h,e1,e2⟩:=named n (by simp[bh]);simp only[mV,h];exact⟨by simp only[dz,e1]at hx⊢;exact hx,λm hm=>⟨n,hk n (by simp[bh]),by rw[show m=k by simpa [bh]using hm];exact h⟩⟩
 |vw n lo hi=>obtain⟨k,h,e1,e2⟩:=named n (by simp[bh]);simp only[mV,h];exact⟨by simp only[dz,e1]at hx⊢;exact hx,λm hm=>⟨n,hk n (by simp[bh]),by rw[show m=k by simpa [bh]using hm];exact h⟩⟩
 |bp n j=>obtain⟨k,h,e1,e2⟩:=named n (by simp[bh]);simp only[mV,h];exact⟨by simp only[dz,e1]at hx⊢;exact hx,λm hm=>⟨n,hk n (by simp[bh]),by rw[show m=k by simpa [bh]using hm];exact h⟩⟩
 |rp n i j=>obtain⟨k,h,e1,e2⟩:=named n (by simp[bh]);simp only[mV,h];exact⟨by simp only[dz,e1]at hx⊢;exact hx,λm hm=>⟨n,hk n (by simp[bh]),by rw[show m=k by simpa [bh]using hm];exact h⟩⟩
 |inn n i j=>obtain⟨k,h,e1,e2⟩:=named n (by simp[bh]);simp only[mV,h];exact⟨by simp only[dz,e1,e2,F_ hl h]at hx⊢;exact hx,λm hm=>⟨n,hk n (by simp[bh]),by rw[show m=k by simpa [bh]using hm];exact h⟩⟩
 |ip n i j i2 j2=>obtain⟨k,h,e1,e2⟩:=named n (by simp[bh]);simp only[mV,h];exact⟨by simp only[dz,e1,e2,F_ hl h]at hx⊢;exact hx,λm hm=>⟨n,hk n (by simp[bh]),by rw[show m=k by simpa [bh]using hm];exact h⟩⟩
theorem Ej{T:Tab}{l:ak au}(hl:l.length<=900){g:aL}{xs:ak AV}{u:aR}(hx:m9 T w c g xs u)(hk:∀n∈xs.flatMap bh,n∈l):m9 T w (sw c l) g (xs.map (mV l)) u/\∀m∈(xs.map (mV l)).flatMap bh,∃n∈l,rq l n=ab m:=by
 have kx:∀x∈xs,∀n∈bh x,n∈l:=λx hx n hn=>hk n (bg.2 ⟨x,hx,hn⟩);unfold m9 at hx;split at hx
 ·rename_i y;obtain⟨h1,h2⟩:=pI hl hx (kx y (by simp));exact⟨h1,λm hm=>h2 m (by simpa using hm)⟩
 ·obtain⟨vals,rfl,hs,hv⟩:=hx;refine⟨⟨vals,rfl,by simp[hs],λj y hj=> ?_⟩,λm hm=> ?_⟩
  ·rw[bc]at hj;cases NN:xs[j]? with
   |none=>rw[NN]at hj;cases hj
   |some x=>rw[NN]at hj;cases hj;obtain⟨u,hu,ha⟩:=hv j x NN;exact⟨u,hu,(pI hl ha (kx x (aD NN))).1⟩
  ·obtain⟨y,hy,hm⟩:=bg.1 hm;obtain⟨x,Qb,rfl⟩:=b7.1 hy;obtain⟨j,hj⟩:=bB Qb;obtain⟨u,hu,ha⟩:=hv j x hj;exact(pI hl ha (kx x Qb)).2 m hm
 ·exact hx.elim
theorem Cz{T:Tab}{l:ak au}(hl:l.length<=900){s:SV}{u:aR}(hx:gu T w c s u):gu T w (sw c l) (zo l s) u/\∀m∈bO (zo l s),∃n∈l,rq l n=ab m:=by
 unfold zo;cases hk:tQ l (bO s)with
 |false=>exact⟨trivial,λm hm=>by simp[bO]at hm⟩
 |true=>
  have hk:=zg hk;simp only[aw];cases s with
  |un=>exact⟨trivial,λm hm=>by simp[bO]at hm⟩
  |v g xs=>exact Ej hl hx hk
  |gM r=>
   obtain⟨vs,rfl,hs,hv⟩:=hx;have kr:∀x∈r,∀n∈x.2.flatMap bh,n∈l:=λx hx n hn=>hk n (bg.2 ⟨x,hx,hn⟩);refine⟨⟨vs,rfl,by simp[hs],λj g xs hj=> ?_⟩,λm hm=> ?_⟩
   ·rw[bc]at hj;cases NN:r[j]? with
    |none=>rw[NN]at hj;cases hj
    |some x=>rw[NN]at hj;cases hj;obtain⟨u,hu,ha⟩:=hv j x.1 x.2 NN;exact⟨u,hu,(Ej hl ha (kr x (aD NN))).1⟩
   ·obtain⟨y,hy,hm⟩:=bg.1 hm;obtain⟨x,Qb,rfl⟩:=b7.1 hy;obtain⟨j,hj⟩:=bB Qb;obtain⟨u,hu,ha⟩:=hv j x.1 x.2 hj;exact(Ej hl ha (kr x Qb)).2 m hm
theorem K7{l:ak au}{x:dF}:Hy l x≠ .ie:=by
 unfold Hy;split
 ·intro h;revert h;cases tQ l _<;>simp
 ·simp
 ·simp
theorem GN{N:au}{σ0:St}{c0:dJ}{w0:bf}{keep:ak au}(h:At P E N σ0 c0 w0 σ a w c):∃c',At P E N σ0 c0 w0 (gk (jZ (Dx keep σ) λl=>Dw keep σ l)) a w c':=by
 rw[lT];generalize Dx keep σ=l;unfold Dw;cases hle:dZ l.length 900 with
 |false=>
  simp only[aC];have hn:∀k,gk [] k= .ie:=λk=>rfl;have no:∀{k:au} {x:Obj},gk [] k≠ .o x:=λh=>by rw[hn]at h;cases h
  refine⟨c,⟨λnm o ho=>bS ho no,λnm o sq o' b ho=>bS ho no,λnm o b ho=>bS ho no,h.ok.lt,λnm xs ho=>bS ho no⟩,⟨λn=>trivial,λn m hm=>(by simp[slot,gk,bO]at hm),h.sl.df⟩,h.sz,h.gr.trans ⟨rfl,rfl,rfl,cD _,λ_ h=>h,λ_ _ _=>rfl,λb hb=> ?_,λ_ h=> .inl h⟩,h.ag⟩
  obtain⟨nm,o,ho,_⟩:=hb;exact bS ho no
 |true=>
  have hl:=bN hle;simp only[aw];generalize hT:keep.map (λn=>(nh n,dF.v (zo l (slot σ n))))++rk σ l l=T;have adH:∀d∈T,d.2≠ .ie:=by
   rintro ⟨k,x⟩ hd;rw[<-hT]at hd;rcases aQ.1 hd with hd|hd
   ·obtain⟨n,_,hd⟩:=b7.1 hd;cases hd;simp
   ·obtain⟨n,_,m,_,_,rfl⟩:=oe.1 hd;exact K7
  have adI:∀{m:au} {ob:Obj},gk T (cf m)= .o ob->∃n∈l,rq l n=ab m/\Hy l (σ (cf n))= .o ob:=by
   intro m ob ho;have:=kY ho (by simp);rw[<-hT]at this;rcases aQ.1 this with hd|hd
   ·obtain⟨n,_,hd⟩:=b7.1 hd;injection hd with h1 h2;exact bS h1 (oz n m)
   ·obtain⟨n,hn,m',hr,h1,h2⟩:=oe.1 hd;have:=ic h1;subst this;exact⟨n,hn,hr,h2.symm⟩
  have Ku:∀{m n:au},n∈l->rq l n=ab m->gk T (cf m)≠ .ie:=λhn hr=>oC (l:=T) (by rw[<-hT];exact bm _ (oe.2 ⟨_,hn,_,hr,rfl,rfl⟩)) adH;have QJ:∀n,slot (gk T) n=zo l (slot σ n)\/slot (gk T) n= .un:=by
   intro n;unfold slot;cases hs:gk T (nh n)with
   |v x=>
    have:=kY hs (by simp);rw[<-hT]at this;rcases aQ.1 this with hd|hd
    ·obtain⟨n',_,hd⟩:=b7.1 hd;injection hd with h1 h2;have:=A0 h1;subst this;cases h2;exact .inl rfl
    ·obtain⟨n',hn,m',hr,h1,h2⟩:=oe.1 hd;exact bS h1 (oz _ _)
   |o=>exact .inr rfl
   |ie=>exact .inr rfl
  have was:∀{m:au} {ob:Obj},gk T (cf m)= .o ob->ob= .dead\/∃n∈l,rq l n=ab m/\((σ (cf n)= .o ob/\∀xs,ob≠ .box xs)\/∃xs,σ (cf n)= .o (.box xs)/\ob= .box (xs.map (mV l))/\∀k∈xs.flatMap bh,k∈l):=by
   intro m ob ho;obtain⟨n,hn,hr,he⟩:=adI ho;unfold Hy at he;split at he
   ·rename_i xs hx;cases hk:tQ l (xs.flatMap bh)with
    |true=>rw[hk]at he;cases he;exact .inr ⟨n,hn,hr, .inr ⟨xs,hx,rfl,zg hk⟩⟩
    |false=>rw[hk]at he;cases he;exact .inl rfl
   ·rename_i x fP hx;cases he;exact .inr ⟨n,hn,hr, .inl ⟨hx,λxs e=>fP xs e⟩⟩
   ·cases he;exact .inl rfl
  have Fx:∀{m:au} {ob:Obj} {b:au},gk T (cf m)= .o ob->ea (sw c l) m ob b->∃n o,rq l n=ab m/\σ (cf n)= .o o/\ea c n o b:=by
   intro m ob b ho hf;rcases was ho with rfl|⟨n,hn,hr,⟨h1,_⟩|⟨xs,h1,rfl,_⟩⟩
   ·exact hf.elim
   ·obtain⟨e1,e2⟩:=sA (c:=c) hl hr;refine⟨n,ob,hr,h1, ?_⟩
    cases ob<;>simp only[ea,e1,e2]at hf⊢ <;>exact hf
   ·obtain⟨e1,e2⟩:=sA (c:=c) hl hr;refine⟨n,_,hr,h1, ?_⟩
    simp only[ea,e1]at hf⊢;exact hf
  refine⟨sw c l,⟨?_, ?_, ?_,h.ok.lt, ?_⟩,⟨?_, ?_,h.sl.df⟩,h.sz,h.gr.trans ⟨rfl,rfl,rfl,cD _,λ_ h=>h,λ_ _ _=>rfl, ?_,λ_ h=> .inl h⟩,h.ag.trans ?_⟩
  ·intro m ob ho;rcases was ho with rfl|⟨n,hn,hr,⟨h1,h2⟩|⟨xs,h1,rfl,hk⟩⟩
   ·trivial
   ·obtain⟨e1,e2⟩:=sA (c:=c) hl hr;have j4:=h.ok.obj n ob h1;cases ob with
    |box xs=>exact bS rfl (h2 xs)
    |dead=>trivial
    |lk cs=>show FB E w c.K ((sw c l).P m).blk cs;rw[e1];exact j4
    |ej e' xs=>show ch E w c.K (jj ((sw c l).P m)) _/\((sw c l).P m).n=_/\_;rw[e1];exact j4
    |row e' ex xs=>obtain⟨q1,q2,q3⟩:=j4;exact⟨by rw[e1];exact q1,by rw[e1,e2];exact q2,by rw[e1,e2];exact q3⟩
   ·obtain⟨e1,e2⟩:=sA (c:=c) hl hr;obtain⟨vals,hb,hs,hv⟩:=h.ok.obj n _ h1;refine⟨vals,by rw[e1];exact hb,by simp[hs],λj y hj=> ?_⟩
    rw[bc]at hj;cases hx:xs[j]? with
    |none=>rw[hx]at hj;cases hj
    |some x=>rw[hx]at hj;cases hj;obtain⟨u,hu,ha⟩:=hv j x hx;exact⟨u,hu,(pI hl ha (λk qB=>hk k (bg.2 ⟨x,aD hx,qB⟩))).1⟩
  ·intro m ob m' ob' b ho qC hf sZ;obtain⟨n,o1,r1,s1,f1⟩:=Fx ho hf;obtain⟨n',o2,r2,s2,f2⟩:=Fx qC sZ;have:=h.ok.sep n o1 n' o2 b s1 s2 f1 f2;subst this;rw[r1]at r2;cases r2;rfl
  ·intro m ob b ho hf;obtain⟨n,o1,r1,s1,f1⟩:=Fx ho hf;exact h.ok.kk n o1 b s1 f1
  ·intro m xs ho y hy k hk;rcases was ho with h'|⟨n,hn,hr,⟨h1,h2⟩|⟨zs,h1,he,B5⟩⟩
   ·cases h'
   ·exact bS rfl (h2 xs)
   ·cases he;obtain⟨x,Qb,rfl⟩:=b7.1 hy;obtain⟨vals,hb,hs,hv⟩:=h.ok.obj n _ h1;obtain⟨j,hj⟩:=bB Qb;obtain⟨u,hu,ha⟩:=hv j x hj;obtain⟨n',iC,yk⟩:=(pI hl ha (λk qB=>B5 k (bg.2 ⟨x,Qb,qB⟩))).2 k hk;exact Ku iC yk
  ·intro n;rcases QJ n with hs|hs
   ·rw[hs];exact(Cz hl (h.sl.ok n)).1
   ·rw[hs];trivial
  ·intro n m hm;rcases QJ n with hs|hs
   ·rw[hs]at hm;obtain⟨n',iC,yk⟩:=(Cz hl (h.sl.ok n)).2 m hm;exact Ku iC yk
   ·rw[hs]at hm;simp[bO]at hm
  ·rintro b ⟨m,ob,ho,hf⟩;obtain⟨n,o1,r1,s1,f1⟩:=Fx ho hf;exact .inl ⟨n,o1,s1,f1⟩
  ·intro m hm;unfold sw;cases hi:inv l m with
   |none=>simp only[hi];exact⟨trivial,trivial⟩
   |some n=>
    have:=(sB (Ki hi)).2;have:n=m:=by
     rcases this with ⟨_,h⟩|⟨_,k0,h,hk0,_⟩
     ·exact h.symm
     ·have:=DD (f:=tO n) (k:=k0) (by omega);omega
    subst this;simp only[hi];exact⟨trivial,trivial⟩
theorem W7{N:au}{σ0:St}{c0:dJ}{w0:bf}{nm F j e:au}{xs:ak AV}{ti:TI}(hx:E.ty e=ab ti)(ix:F<900000000)(j4:σ (cf nm)= .o (.box xs))(hF:σ (cf F)= .ie)(hc:xs[j]? =ab .nl)(h:At P E N σ0 c0 w0 σ a w c):
  ∃c',At P E N σ0 c0 w0 (mK (mK σ (cf nm) (.o (.box (xs.set j (.own F))))) (cf F) (.o (.row e ae []))) a w c':=by
 let c':dJ:=⟨λn=>if n=F then⟨ae,0,0,0,0,ti.ks.length⟩else c.P n,λn=>if n=F then(λ_ _=>⟨ae,0,0,0,0,0⟩)else c.G n,c.K⟩
 have hP:c'.P F=⟨ae,0,0,0,0,ti.ks.length⟩:=br rfl;have hA:gO σ c c':=λm hm=>by
  have:m≠F:=by rintro rfl;rcases hm with h|h;exact h hF;omega
  exact⟨bF this,bF this⟩
 have hnF:nm≠F:=by rintro rfl;rw[j4]at hF;cases hF
 have hPn:c'.P nm=c.P nm:=bF hnF;let σ':=mK (mK σ (cf nm) (.o (.box (xs.set j (.own F))))) (cf F) (.o (.row e ae []));have key:∀m,σ' (cf m)=if m=F then .o (.row e ae [])else if m=nm then .o (.box (xs.set j (.own F)))else σ (cf m):=λm=>by show mK _ _ _ _=_;rw[mX,mX]
 have fP:∀m,σ (cf m)≠ .ie->σ' (cf m)≠ .ie:=λm hm=>by
  rw[key];by_cases h1:m=F
  ·rw[br h1];simp
  ·rw[bF h1];by_cases h2:m=nm
   ·rw[br h2];simp
   ·rw[bF h2];exact hm
 have noI:∀i j,¬eK [] i j:=λi j ⟨y,x,hy,_⟩=>by simp at hy
 have foF:∀b,¬ea c' F (.row e ae []) b:=by
  rintro b (⟨h1,_⟩|⟨_,i,j,h1,_⟩)
  ·rw[hP]at h1;cases h1
  ·exact noI i j h1
 obtain⟨vals,hb,eM,hv⟩:=h.ok.obj nm _ j4
 have hh:=h.ok.change (σ':=σ') (w':=w) (c':=c') (λm=>m=F\/m=nm)
  (λm hm=>by rw[key,bF (λe=>hm (.inl e)),bF (λe=>hm (.inr e))]) fP hA (λ_ _ _=>rfl) (cD _) (λ_ h=>h) (λ_ h=> .inl h) h.ok.lt
  (λm o hm ho=>by
   rw[key]at ho;by_cases B6:m=F
   ·rw[br B6]at ho;cases ho;subst B6;refine⟨⟨ti,hx,by rw[hP],λy hy=>by cases hy⟩,⟨by rw[hP];rfl,λ_=>⟨rfl,by rw[hP]⟩,λhn=>by rw[hP]at hn;cases hn⟩,λ_=>⟨λi j hi=>bS hi (noI i j),λi j _ _ hi=>bS hi (noI i j)⟩⟩
   ·have S7:=hm.resolve_left B6;subst S7;rw[bF B6,br rfl]at ho;cases ho;refine⟨vals,by rw[hPn];exact hb,by rw[cF];exact eM,λk y hk=> ?_⟩
    by_cases hkj:j=k
    ·subst hkj;have hl:j<xs.length:=(aG.1 hc).1;rw[List.getElem?_set_self hl]at hk;cases hk;obtain⟨u,hu,Ml⟩:=hv j _ hc;exact⟨u,hu,by show u=jj (c'.P F);rw[hP];exact Ml⟩
    ·rw[List.getElem?_set_ne hkj]at hk;obtain⟨u,hu,Ml⟩:=hv k y hk;exact⟨u,hu,Ml.frame (λ_ _=>rfl) (λ_ h=>h) (λn hn=>hA n (.inl (h.ok.kn m xs j4 y (aD hk) n hn)))⟩)
  (λm o b hm ho hf=>by
   rw[key]at ho;by_cases B6:m=F
   ·rw[br B6]at ho;cases ho;subst B6;exact bS hf (foF b)
   ·have S7:=hm.resolve_left B6;subst S7;rw[bF B6,br rfl]at ho;cases ho;have hf:b=(c'.P m).blk:=hf;rw[hPn]at hf;exact⟨.inl ⟨m,_, .inr rfl,j4,hf⟩,λhk=>h.ok.kk m _ b j4 hf hk⟩)
  (λm o m' o' b hm sc ho qC hf sZ=>by
   rw[key]at ho qC;by_cases B6:m=F
   ·rw[br B6]at ho;cases ho;subst B6;exact bS hf (foF b)
   ·by_cases SZ:m'=F
    ·rw[br SZ]at qC;cases qC;subst SZ;exact bS sZ (foF b)
    ·rw[hm.resolve_left B6,sc.resolve_left SZ])
  (λm ys hm ho y hy n hn=>by
   rw[key]at ho;by_cases B6:m=F
   ·rw[br B6]at ho;cases ho
   ·have S7:=hm.resolve_left B6;subst S7;rw[bF B6,br rfl]at ho;cases ho;rcases gG hy with hy|hy
    ·exact fP n (h.ok.kn m xs j4 y hy n hn)
    ·subst hy;rw[show n=F from by simpa [bh]using hn,key,br rfl];simp) rfl rfl rfl
 have sl:=h.sl.change h.ok hh.2 hA fP ({(default:dU)with dst:=none}) undef (λn _=>by show slot (mK _ _ _) n=_;rw[gv,gv]) (λd hd=>by cases hd);exact⟨c',hh.1,sl,h.sz,h.gr.trans hh.2,h.ag.trans hA.w.aga⟩
theorem KF{α:Type}{N:au}{σ0:St}{c0:dJ}{w0:bf}{x:au}(hx:∃ti,E.ty (Tn x)=ab ti)(h:At P E N σ0 c0 w0 σ a w c):∃σ' c',At P E N σ0 c0 w0 σ' a w c'/\∀f:St->α,uF x σ f=f σ':=by
 obtain⟨ti,hx⟩:=hx;have ix:UM x<900000000:=by unfold UM;have:=xS (x/1000) (show 1000000>0 by omega);omega
 have no:(∀f:St->α,uF x σ f=f σ)->∃σ' c',At P E N σ0 c0 w0 σ' a w c'/\∀f:St->α,uF x σ f=f σ':=λe=>⟨σ,c,h,e⟩
 cases hs:slot σ (Qp x)with
 |v g l=>
  by_cases hm:∃nm xs,g=ah/\l=[.bp nm 0]/\σ (cf nm)= .o (.box xs)/\σ (cf (UM x))= .ie/\xs[Kp x]? =ab .nl
  ·obtain⟨nm,xs,rfl,rfl,j4,hF,hc⟩:=hm;obtain⟨c',h'⟩:=W7 hx ix j4 hF hc h;exact⟨_,c',h',λf=>by unfold uF;rw[hs];simp only[j4,hF,hc,kU]⟩
  ·refine no λf=> ?_;unfold uF;rw[hs];split
   ·rename_i nm he;cases he;split
    ·rename_i xs h1 h2;split
     ·rename_i h3;exact bS ⟨nm,xs,rfl,rfl,h1,h2,h3⟩ hm
     ·rfl
    ·rfl
   ·rfl
 |gM l=>exact no λf=>by unfold uF;rw[hs]
 |un=>exact no λf=>by unfold uF;rw[hs]
theorem w7{α:Type}{N:au}{σ0:St}{c0:dJ}{w0:bf}:∀(keep:ak au) (σ:St) (c:dJ) (hk:∀x∈keep,NY x=ae->∃ti,E.ty (Tn x)=ab ti) (h:At P E N σ0 c0 w0 σ a w c),∃σ' c',At P E N σ0 c0 w0 σ' a w c'/\∀f:St->α,FU keep σ f=f σ'
 |[],σ,c,_,h=>⟨σ,c,h,λ_=>rfl⟩
 |x::r,σ,c,hk,h=>by
  cases hx:NY x with
  |false=>obtain⟨σ',c',h',e⟩:=w7 r σ c (λy hy=>hk y (b_ _ hy)) h;exact⟨σ',c',h',λf=>by show(bif NY x then _ else _)=_;rw[hx];exact e f⟩
  |true=>obtain⟨σ1,c1,h1,e1⟩:=KF (α:=α) (hk x (cR ..) hx) h;obtain⟨σ',c',h',e⟩:=w7 r σ1 c1 (λy hy=>hk y (b_ _ hy)) h1;exact⟨σ',c',h',λf=>by show(bif NY x then _ else _)=_;rw[hx,aw,e1,e]⟩
theorem BD{N:au}{σ0:St}{c0:dJ}{w0:bf}{keep:ak au}(hk:∀x∈keep,NY x=ae->∃ti,E.ty (Tn x)=ab ti)(h:At P E N σ0 c0 w0 σ a w c):∃c',At P E N σ0 c0 w0 (gZ keep σ) a w c':=by obtain⟨σ',c1,h1,e⟩:=w7 (α:=ak (au×dF)) keep σ c hk h;unfold gZ Dy;rw[e,lT];exact GN h1
theorem Ks{n:au}:∀x∈E.uD n,NY x=ae->∃ti,E.ty (Tn x)=ab ti:=by
 intro x hx hk;have:=(dh.1 hx).2;rw[hk,aw]at this;cases h:E.ty (Tn x)with
 |some ti=>exact⟨ti,rfl⟩
 |none=>rw[h]at this;cases this
end
end Go.FG

namespace Go.FG
def Sv:Ex->Exit| .normal=> .normal| .exit id=> .exit id| .ret=> .ret
def pe(N:au):Code->aL
 | .region _ os _=>os.toList.all λo=>match o.dst with|some d=>nk d N|none=>ae
 | .seq a b=>pe N a&&pe N b
 | .cond _ a b=>pe N a&&pe N b
 | .block _ c=>pe N c
 | .loop c=>pe N c
 |_=>ae
theorem least{p:au->Prop}(h:∃n,p n):∃n,p n/\∀k,p k->n<=k:=by
 obtain⟨n,hn⟩:=h;induction n using Nat.strongRecOn with
 |_ n ih=>
  by_cases hm:∃m,m<n/\p m
  ·obtain⟨m,h1,h2⟩:=hm;exact ih m h1 h2
  ·exact⟨n,hn,λk hk=>by
    rcases rA k n with h|h
    ·exact bS ⟨k,h,hk⟩ hm
    ·exact h⟩
section
variable {P:b9} {E:eh}
def dy(E:eh){R:Type}(it:It R)(c:Code):Prop:=∀L K r,it (eS c) (pf E it c) (gZ (E.uD (eS c))) L K=ab r->∃n,iter (pf E it c) (gZ (E.uD (eS c))) n (gk L) K=ab r
theorem Su(hE:dv P E)(hF:∀g,jf P E g (E.call g))(hm:P.follows .mixedOrders=ae){R:Type}{N:au}{σ0:St}{c0:dJ}{w0:bf}{it:It R}{r:R}:∀(code:Code),(∀c∈ib code,dy E it c)->∀(σ:St) (K:Ex->St->ar R) (Q:Exit->Act->bf->Prop),pf E it code σ K=ab r->pe N code=ae->
  (∀e σ' a w c,K e σ'=ab r->At P E N σ0 c0 w0 σ' a w c->Q (Sv e) a w)->∀a w c,At P E N σ0 c0 w0 σ a w c->code.wp P Q a w:=by
 intro code;induction code with
 |skip=>intro _ σ K Q h _ hQ a w c eI;exact wp_skip (hQ .normal σ a w c h eI)
 |region id os draw=>intro wQ σ K Q h hb hQ a w c eI;refine Hw hE hF hm h (λo ho d hd=> ?_) (λσ' a w c hk eI=>hQ .normal σ' a w c hk eI) eI;have:=aZ.1 hb o ho;rw[hd]at this;have this:nk d N=true:=this;simpa [uN]using this
 |seq x y ihx ihy=>
  intro wQ σ K Q h hb hQ a w c eI;simp only[pe,az]at hb;refine wp_seq (ihx (λc hc=>wQ c (bw _ hc)) σ _ _ h hb.1 (λe σ' a w c hk eI=> ?_) a w c eI);cases e with
  |normal=>exact ihy (λc hc=>wQ c (bm _ hc)) σ' K Q hk hb.2 hQ a w c eI
  |exit id=>exact hQ (.exit id) σ' a w c hk eI
  |ret=>exact hQ .ret σ' a w c hk eI
 |cond VI x y ihx ihy=>
  intro wQ σ K Q h hb hQ a w c eI;simp only[pe,az]at hb;cases VI with
  |tmp t=>
   unfold pf at h;dsimp only at h;split at h
   ·rename_i b hs;have h1:=eI.sl.ok t;have:slot σ t= .v ah [.b b]:=by unfold slot;rw[hs]
    rw[this]at h1;have h1:a.eval (.tmp t)= .bool b:=h1;cases b with
    |true=>have h:pf E it x (mK σ (nh t) (.v (.v ah [.b ae]))) K=ab r:=h;rw[xM hs]at h;exact wp_cond_true h1 (ihx (λc hc=>wQ c (bw _ hc)) σ K Q h hb.1 hQ a w c eI)
    |false=>have h:pf E it y (mK σ (nh t) (.v (.v ah [.b ah]))) K=ab r:=h;rw[xM hs]at h;exact wp_cond_false h1 (ihy (λc hc=>wQ c (bm _ hc)) σ K Q h hb.2 hQ a w c eI)
   ·cases h
  |_=>simp[pf]at h
 |block id x ih=>
  intro wQ σ K Q h hb hQ a w c eI;refine wp_block (ih wQ σ _ _ h hb (λe σ' a w c hk eI=> ?_) a w c eI);cases e with
  |normal=>exact hQ .normal σ' a w c hk eI
  |ret=>exact hQ .ret σ' a w c hk eI
  |exit j=>
   have hk:(bif a_ j id then K .normal σ' else K (.exit j) σ')=ab r:=hk;show Bo id Q (.exit j) a w;cases hj:a_ j id with
   |true=>rw[hj]at hk;have B4:=aJ hj;have h1:Q .normal a w:=hQ .normal σ' a w c hk eI;simp only[Bo,B4,if_true];exact h1
   |false=>
    rw[hj]at hk;have fP:j≠id:=λe=>by subst e;simp at hj
    have h1:Q (.exit j) a w:=hQ (.exit j) σ' a w c hk eI;simp only[Bo,fP,if_false];exact h1
 |loop x ih=>
  intro wQ σ K Q h hb hQ a w c eI;obtain⟨n,h⟩:∃n,iter (pf E it x) (gZ (E.uD (eS x))) n (gZ (E.uD (eS x)) σ) K=ab r:=wQ x (cR ..) _ K r h;let f:=pf (R:=R) E it x;let cn:=gZ (E.uD (eS x));let p:Act->bf->au->Prop:=λa w m=>∃σ c,iter f cn m σ K=ab r/\At P E N σ0 c0 w0 σ a w c;let mu:Act->bf->au:=λa w=>open Classical in if h:∃m,p a w m then(least h).choose else 0
  have hmu:∀a w,(∃m,p a w m)->p a w (mu a w)/\∀k,p a w k->mu a w<=k:=by
   intro a w h;have:mu a w=(least h).choose:=by simp only[mu];rw[dif_pos h]
   rw[this];exact(least h).choose_spec
  obtain⟨c1,abp⟩:=BD (keep:=E.uD (eS x)) Ks eI;refine wp_loop (λa w=>∃m,p a w m) mu ⟨n,_,c1,h,abp⟩ (λa w hI=> ?_);obtain⟨⟨σ1,c2,h1,lL⟩,hle⟩:=hmu a w hI;cases hm0:mu a w with
  |zero=>rw[hm0]at h1;cases h1
  |succ m=>
   rw[hm0]at h1;refine ih (λc hc=>wQ c (b_ _ hc)) σ1 _ _ h1 hb (λe σ' a' w' c' hk uX=> ?_) a w c2 lL;obtain⟨c3,SJ⟩:=BD (keep:=E.uD (eS x)) Ks uX;cases e with
   |normal=>
    have hp:p a' w' m:=⟨_,c3,hk,SJ⟩
    refine⟨⟨m,hp⟩, ?_⟩
    have:=(hmu a' w' ⟨m,hp⟩).2 m hp;omega
   |exit id=>exact hQ (.exit id) _ a' w' c3 hk SJ
   |ret=>exact hQ .ret _ a' w' c3 hk SJ
 |exit id=>intro _ σ K Q h _ hQ a w c eI;exact wp_exit (hQ (.exit id) σ a w c h eI)
 |ret=>intro _ σ K Q h _ hQ a w c eI;exact wp_ret (hQ .ret σ a w c h eI)
 |_=>intro _ σ K Q h;simp[pf]at h
end
end Go.FG

namespace Go.FG
structure gP where
 aa:AA
 tk:ak au
 fz:ak au
 p:Pl
 g:au->au->Pl
 u:aR
section
variable {P:b9} {E:eh} {σ:St} {a:Act} {w:bf} {c:dJ}
def g_(T:Tab)(σ:St)(w:bf)(c:dJ)(r:gP):Prop:=
 (∃e ex ys te,r.aa= .ow e ex ys/\r.fz=[]/\T.ty e=ab te/\r.u=jj r.p/\r.p.sz=te.ks.length/\(∀y∈ys,y.map CV.kd=te.ks)/\gq w r.p ys (λi j u x=>if ex=ae then XC T w r.g i j u x else ch T w c.K u x)/\(ex=ae->zL r.p r.g ys)/\
  (r.p.nil=ah->∃n ob,n∈r.tk/\σ (cf n)= .o ob/\ea c n ob r.p.blk)/\(ex=ae->∀i j,eK ys i j->(r.g i j).nil=ah->∃n ob,n∈r.tk/\σ (cf n)= .o ob/\ea c n ob (r.g i j).blk))\/
 (r.tk=[]/\(∀n∈r.fz,∃el ex xs,σ (cf n)= .o (.row el ex xs))/\(∀e ex xs,r.aa≠ .ow e ex xs)/\(∀xs,r.aa≠ .kp xs)/\∀c3:dJ,(∀b,RC σ c r.fz b->c3.K b)->∀nm,dz T w c3 (iW nm r.aa) r.u)
theorem BR(bI:Ok E σ w c){om:Om}{k:Ck}{x:AV}{u:aR}{aa:AA}{tk fz:ak au}(h:uB E om σ k x=ab (aa,tk,fz))(hx:dz E w c x u):∃p g,g_ E σ w c ⟨aa,tk,fz,p,g,u⟩:=by
 let nl:Pl:=⟨ae,0,0,0,0,0⟩
 have OW:∀e ex ys tk,(rT e x).val σ=ab (ex,ys,tk)->(∃te,E.ty e=ab te)->∃p g,g_ E σ w c ⟨.ow e ex ys,tk,[],p,g,u⟩:=by rintro e ex ys tk hb ⟨te,ht⟩;obtain⟨p,g,hB⟩:=wk bI ht hx hb;exact⟨p,g, .inl ⟨e,ex,ys,te,rfl,rfl,ht,hB.v,hB.sz,hB.sh,hB.at_,hB.inn,hB.own,hB.owni⟩⟩
 have SH:∀aa fz,(∀n∈fz,∃el ex xs,σ (cf n)= .o (.row el ex xs))->(∀e ex xs,aa≠ .ow e ex xs)->(∀xs,aa≠ .kp xs)->(∀c3:dJ,(∀b,RC σ c fz b->c3.K b)->∀nm,dz E w c3 (iW nm aa) u)->∃p g,g_ E σ w c ⟨aa,[],fz,p,g,u⟩:=
  λaa fz h1 h2 h3 h4=>⟨nl,λ_ _=>nl, .inr ⟨rfl,h1,h2,h3,h4⟩⟩
 have KG:∀n∈([]:ak au),∃el ex xs,σ (cf n)= .o (.row el ex xs):=λn hn=>by cases hn
 have HT:∀e,uC E e=ae->∃te,E.ty e=ab te:=λe he=>by
  unfold uC at he;cases ht:E.ty e with
  |none=>rw[ht]at he;cases he
  |some te=>exact⟨te,rfl⟩
 have frz:∀{n el:au} {ex:aL} {xs:aY},σ (cf n)= .o (.row el ex xs)->∀c3:dJ,(∀b,RC σ c [n] b->c3.K b)->(∀b,c.K b->c3.K b)/\∀b,ea c n (.row el ex xs) b->c3.K b:=λhg c3 h=>⟨λb hb=>h b (.inl hb),λb hb=>h b (.inr ⟨_,aP.2 rfl,_,hg,hb⟩)⟩
 have fst:∀{n el:au} {ex:aL} {xs:aY},σ (cf n)= .o (.row el ex xs)->∀m∈[n],∃el ex xs,σ (cf m)= .o (.row el ex xs):=λhg m hm=>by rw[aP]at hm;subst hm;exact⟨_,_,_,hg⟩
 cases x with
 |i k n=>cases h;exact SH _ _ KG (λ_ _ _ h=>by cases h) (λ_ h=>by cases h) (λc3 _ _=>hx)
 |b y=>cases h;exact SH _ _ KG (λ_ _ _ h=>by cases h) (λ_ h=>by cases h) (λc3 _ _=>hx)
 |s y=>cases h;exact SH _ _ KG (λ_ _ _ h=>by cases h) (λ_ h=>by cases h) (λc3 _ _=>hx)
 |sh e xs=>
  cases om with
  |own=>cases h
  |nat=>cases h;exact SH _ _ KG (λ_ _ _ h=>by cases h) (λ_ h=>by cases h) (λc3 h3 _=>ch.frame hx (λ_ _=>rfl) (λb hb=>h3 b (.inl hb)))
  |sh=>cases h;exact SH _ _ KG (λ_ _ _ h=>by cases h) (λ_ h=>by cases h) (λc3 h3 _=>ch.frame hx (λ_ _=>rfl) (λb hb=>h3 b (.inl hb)))
 |nl=>
  have hx:u= .slice af 0 0:=hx;cases om with
  |own e=>
   have h:(bif uC E e then ab (AA.ow e ae [],([]:ak au),([]:ak au))else af)=ab (aa,tk,fz):=h;cases ht:uC E e with
   |false=>rw[ht]at h;cases h
   |true=>rw[ht]at h;cases h;exact OW e ae [] [] rfl (HT e ht)
  |sh e=>cases h;exact SH _ _ KG (λ_ _ _ h=>by cases h) (λ_ h=>by cases h) (λc3 _ _=>by rw[hx];exact ch.nl _ _ _)
  |nat=>
   cases k with
   |l e=>
    have h:(bif uC E e then ab (AA.ow e ae [],([]:ak au),([]:ak au))else af)=ab (aa,tk,fz):=h;cases ht:uC E e with
    |false=>rw[ht]at h;cases h
    |true=>rw[ht]at h;cases h;exact OW e ae [] [] rfl (HT e ht)
   |_=>cases h;exact SH _ _ KG (λ_ _ _ h=>by cases h) (λ_ h=>by cases h) (λc3 _ _=>hx)
 |own n=>
  unfold uB at h;dsimp only at h;cases ho:σ (cf n)with
  |v=>rw[ho]at h;cases h
  |ie=>rw[ho]at h;cases h
  |o ob=>
   rw[ho]at h;have hu:u=jj (c.P n):=hx;cases ob with
   |row e ex xs=>
    obtain⟨_,_,ti,ht,_⟩:=iS bI ho;have hb:(rT e (.own n)).val σ=ab (ex,xs,[n]):=by simp[rT,gV,ho]
    cases om with
    |sh e'=>cases h;refine SH _ _ (fst ho) (λ_ _ _ h=>by cases h) (λ_ h=>by cases h) (λc3 h3 _=> ?_);obtain⟨r1,r2⟩:=frz ho c3 h3;rw[hu];exact oy bI ho r1 r2
    |nat=>cases h;exact OW e ex xs [n] hb ⟨ti,ht⟩
    |own=>cases h;exact OW e ex xs [n] hb ⟨ti,ht⟩
   |ej e xs=>
    have hh:ch E w c.K u (.l e xs):=by rw[hu];exact(bI.obj n _ ho).1
    cases om with
    |own=>cases h
    |nat=>cases h;exact SH _ _ KG (λ_ _ _ h=>by cases h) (λ_ h=>by cases h) (λc3 h3 _=>ch.frame hh (λ_ _=>rfl) (λb hb=>h3 b (.inl hb)))
    |sh=>cases h;exact SH _ _ KG (λ_ _ _ h=>by cases h) (λ_ h=>by cases h) (λc3 h3 _=>ch.frame hh (λ_ _=>rfl) (λb hb=>h3 b (.inl hb)))
   |_=>cases h
 |vw n lo hi=>
  unfold uB at h;dsimp only at h;cases ho:σ (cf n)with
  |v=>rw[ho]at h;cases h
  |ie=>rw[ho]at h;cases h
  |o ob=>
   rw[ho]at h;cases ob with
   |row e ex xs=>
    obtain⟨_,_,ti,ht,_⟩:=iS bI ho;have hb:(rT e (.vw n lo hi)).val σ=ab (ex,dM xs lo hi,[n]):=by simp[rT,gV,ho]
    cases om with
    |sh e'=>cases h;refine SH _ _ (fst ho) (λ_ _ _ h=>by cases h) (λ_ h=>by cases h) (λc3 h3 _=> ?_);obtain⟨r1,r2⟩:=frz ho c3 h3;exact zv bI ho r1 r2 hx
    |nat=>cases h;exact OW e ex _ [n] hb ⟨ti,ht⟩
    |own=>cases h;exact OW e ex _ [n] hb ⟨ti,ht⟩
   |ej e xs=>
    have hh:ch E w c.K u (.l e (dM xs lo hi)):=mh bI ho hx;cases om with
    |own=>cases h
    |nat=>cases h;exact SH _ _ KG (λ_ _ _ h=>by cases h) (λ_ h=>by cases h) (λc3 h3 _=>ch.frame hh (λ_ _=>rfl) (λb hb=>h3 b (.inl hb)))
    |sh=>cases h;exact SH _ _ KG (λ_ _ _ h=>by cases h) (λ_ h=>by cases h) (λc3 h3 _=>ch.frame hh (λ_ _=>rfl) (λb hb=>h3 b (.inl hb)))
   |_=>cases h
 |_=>simp[uB]at h
theorem yT(bI:Ok E σ w c){q:au}:∀{xs:ak AV} {j0:au} {ks:ak Ck} {l:ak AA} {tk fz:ak au} {vals:cG aR},ph E q σ j0 ks xs=ab (l,tk,fz)->eE E w c vals xs->
  ∃cs:ak gP,l=cs.map (·.aa)/\tk=cs.flatMap (·.tk)/\fz=cs.flatMap (·.fz)/\cs.length=xs.length/\∀(j:au) (r:gP),cs[j]? =ab r->vals[j]? =ab r.u/\g_ E σ w c r:=by
 intro xs;induction xs with
 |nil=>intro j0 ks l tk fz vals h _;cases h;exact⟨[],rfl,rfl,rfl,rfl,λj r h=>by simp at h⟩
 |cons x xs ih=>
  intro j0 ks l tk fz vals h hv;unfold ph at h;split at h
  ·rename_i aa t f as ts fs h1 h2;cases h;obtain⟨u,hu,ha⟩:=hv.2 0 x rfl;obtain⟨p,g,hc⟩:=BR bI h1 ha;have FN:eE E w c (vals.extract 1 vals.size) xs:=by
    refine⟨by simp;have:=hv.1;simp at this;omega,λj b hj=> ?_⟩
    obtain⟨u,hu,hb⟩:=hv.2 (j+1) b hj;refine⟨u, ?_,hb⟩
    have:=(c_.1 hu).1;rw[dn,br (by omega),gf];exact hu
   obtain⟨cs,rfl,rfl,rfl,i4,i5⟩:=ih h2 FN;refine⟨⟨aa,t,f,p,g,u⟩::cs,rfl,rfl,rfl,by simp[i4],λj r hj=> ?_⟩
   cases j with
   |zero=>cases hj;exact⟨hu,hc⟩
   |succ j=>
    obtain⟨r1,r2⟩:=i5 j r hj;refine⟨?_,r2⟩
    rw[dn]at r1;split at r1
    ·rw[gf];exact r1
    ·cases r1
  ·cases h
end
end Go.FG

namespace Go.FG
structure iO where
 box:ar au
 agg:aL
 cs:ak gP
 v:aR
def iO.arg(R:iO):dO:=match R.box with|some _=> .pt (R.cs.map (·.aa))|none=> .v R.agg (R.cs.map (·.aa))
def iO.tk(R:iO):ak au:=R.box.toList++R.cs.flatMap (·.tk)
def iO.fz(R:iO):ak au:=R.cs.flatMap (·.fz)
def t_(rv:ResultVar)(tmps:cG aR):Sem aR:=match rv with| .tmp t=>pure (tmps.getD t undef)| .cell a t=>do loadVar t (<-asAddr (tmps.getD a undef))
section
variable {P:b9} {E:eh} {σ:St} {a:Act} {w:bf} {c:dJ}
def v8(T:Tab)(σ:St)(w:bf)(c:dJ)(R:iO):Prop:=
 (∃nm xs vals,R.box=ab nm/\σ (cf nm)= .o (.box xs)/\R.v= .pointer (ab (ad (c.P nm).blk 0))/\k8 w (c.P nm).blk vals/\vals.size=R.cs.length/\∀(j:au) (r:gP),R.cs[j]? =ab r->vals[j]? =ab r.u/\g_ T σ w c r)\/
 (R.box=af/\((R.agg=ah/\∃r,R.cs=[r]/\r.u=R.v/\g_ T σ w c r)\/(R.agg=ae/\∃vals:cG aR,R.v= .agg vals/\vals.size=R.cs.length/\∀(j:au) (r:gP),R.cs[j]? =ab r->vals[j]? =ab r.u/\g_ T σ w c r)))
theorem BS(bI:Ok E σ w c){q:au}{ks:ak Ck}{s:SV}{v:aR}{x:dO}{tk fz:ak au}(h:Fv E q σ ks s=ab (x,tk,fz))(hs:gu E w c s v):∃R:iO,R.arg=x/\R.tk=tk/\R.fz=fz/\R.v=v/\v8 E σ w c R:=by
 have gen:∀g xs,s= .v g xs->(match ph E q σ 0 ks xs with|some (l,ns,ms)=>ab (dO.v g l,ns,ms)|none=>af)=ab (x,tk,fz)->∃R:iO,R.arg=x/\R.tk=tk/\R.fz=fz/\R.v=v/\v8 E σ w c R:=by
  rintro g xs rfl h;cases hf:ph E q σ 0 ks xs with
  |none=>rw[hf]at h;cases h
  |some t=>
   obtain⟨l,ns,ms⟩:=t;rw[hf]at h;cases h;obtain⟨cs,rfl,rfl,rfl,h4,h5⟩:=yT bI hf (m9.cells hs);refine⟨⟨af,g,cs,v⟩,rfl,by simp[iO.tk],rfl,rfl, .inr ⟨rfl, ?_⟩⟩
   replace hs:m9 E w c g xs v:=hs;have sd:∀y,m9 E w c ah [y] v->v.cells= #[v]:=λy hy=>yP (dz.one hy);unfold m9 at hs;split at hs
   ·rename_i y;obtain⟨r,rfl⟩:=e8.1 (h4.trans rfl);obtain⟨h6,h7⟩:=h5 0 r rfl;rw[sd y hs]at h6;exact .inl ⟨rfl,r,rfl,by simpa using h6.symm,h7⟩
   ·obtain⟨vals,rfl,eM,_⟩:=hs;exact .inr ⟨rfl,vals,rfl,by rw[eM];exact h4.symm,h5⟩
   ·exact hs.elim
 unfold Fv at h;split at h
 ·rename_i nm;cases ho:σ (cf nm)with
  |v=>rw[ho]at h;cases h
  |ie=>rw[ho]at h;cases h
  |o ob=>
   rw[ho]at h;cases ob with
   |box xs=>
    dsimp only at h;cases hf:ph E q σ 0 [] xs with
    |none=>rw[hf]at h;cases h
    |some t=>obtain⟨l,ns,ms⟩:=t;rw[hf]at h;cases h;obtain⟨vals,hb,eM,hv⟩:=bI.obj nm _ ho;obtain⟨cs,rfl,rfl,rfl,h4,h5⟩:=yT bI hf ⟨eM,hv⟩;exact⟨⟨ab nm,ah,cs,v⟩,rfl,rfl,rfl,rfl, .inl ⟨nm,xs,vals,rfl,ho,hs,hb,by rw[eM];exact h4.symm,h5⟩⟩
   |_=>cases h
 ·exact gen _ _ rfl h
 ·cases h
theorem CD(hE:dv P E){t:au}{ti:TI}(ht:E.ty t=ab ti){b:au}{vals:cG aR}(hb:k8 w b vals)(hl:vals.size=ti.ks.length):(loadVar t (ad b 0)).run P w= .ok (if ti.agg=ae then .agg vals else vals.toList.headD .nilIface) w:=by
 have h:=xH (P:=P) w hE ht (b:=b) (o:=0) (cs:=vals.toList) (by simpa using hl) (λj v hj=>by rw[bu,hb.cell];simpa using hj);have e:(td t (.pointer (ab (ad b 0)))).run P w=(loadVar t (ad b 0)).run P w:=by simp only[td,qn,bJ,bV,ba]
 rw[<-e,h]
theorem K_(hE:dv P E)(bI:Ok E σ w c)(cU:dX E σ a w c){q:au}{rv:ResultVar}{t:au}{x:dO}{tk fz:ak au}(h:K9 E q σ rv t=ab (x,tk,fz)):∃R:iO,R.arg=x/\R.tk=tk/\R.fz=fz/\v8 E σ w c R/\(t_ rv a.tmps).run P w= .ok R.v w:=by
 unfold K9 at h;cases ht:E.ty t with
 |none=>rw[ht]at h;cases h
 |some ti=>
  rw[ht]at h;cases rv with
  |tmp s=>obtain⟨R,h1,h2,h3,h4,h5⟩:=BS bI h (cU.ok s);exact⟨R,h1,h2,h3,h5,by rw[h4];rfl⟩
  |cell b t'=>
   dsimp only at h;split at h
   ·rename_i LP nm ht' hs;split at h
    ·rename_i xs ho;cases hb:a_ xs.length LP.ks.length with
     |false=>rw[hb]at h;cases h
     |true=>
      rw[hb]at h;have hlen:=aJ hb;have hv:a.eval (.tmp b)= .pointer (ab (ad (c.P nm).blk 0)):=by have:=cU.ok b;rw[hs]at this;exact this
      obtain⟨vals,SM,eM,PZ⟩:=bI.obj nm _ ho;have J_:=CD (P:=P) (w:=w) hE ht' SM (by rw[eM];exact hlen);have ab8:gu E w c (.v LP.agg xs) (if LP.agg=ae then .agg vals else vals.toList.headD .nilIface):=by
       show m9 E w c LP.agg xs _;cases p8:LP.agg with
       |true=>rw[br rfl];exact⟨vals,rfl,eM,PZ⟩
       |false=>
        obtain⟨d,_,_,hn⟩:=hE.desc t' LP ht';have h1:LP.ks.length=1:=by rcases hn p8 with ⟨k,h,_⟩|⟨h,_⟩|⟨h,_⟩|⟨e',h,_⟩|⟨h,_⟩<;>simp[h]
        obtain⟨y,rfl⟩:=e8.1 (hlen.trans h1);obtain⟨u,hu,ha⟩:=PZ 0 y rfl;have oK:vals.toList[0]? =ab u:=by simpa using hu
        have:vals.toList.headD .nilIface=u:=by
         cases hl:vals.toList with
         |nil=>rw[hl]at oK;cases oK
         |cons z l=>rw[hl]at oK;cases oK;rfl
        rw[bF (by simp),this];exact ha
      obtain⟨R,h1,h2,h3,h4,h5⟩:=BS bI h ab8;refine⟨R,h1,h2,h3,h5, ?_⟩
      rw[h4,<-J_];have:a.tmps.getD b undef= .pointer (ab (ad (c.P nm).blk 0)):=hv;simp only[t_,this,asAddr,bJ,bV,ba]
    ·cases h
   ·cases h
theorem Hz(hE:dv P E)(bI:Ok E σ w c)(cU:dX E σ a w c):∀{rs:ak ResultVar} {q:au} {ts:ak au} {as:ak dO} {tk fz:ak au},xB E σ q rs ts=ab (as,tk,fz)->∃RL:ak iO,as=RL.map (·.arg)/\tk=RL.flatMap (·.tk)/\fz=RL.flatMap (·.fz)/\(∀R∈RL,v8 E σ w c R)/\RL.length=rs.length/\(rs.mapM (λrv=>t_ rv a.tmps)).run P w= .ok (RL.map (·.v)) w:=by
 intro rs;induction rs with
 |nil=>intro q ts as tk fz h;cases h;exact⟨[],rfl,rfl,rfl,λR h=>(by cases h),rfl,by simp⟩
 |cons rv rs ih=>
  intro q ts as tk fz h;unfold xB at h;split at h
  ·rename_i x l m as' ls ms h1 h2;cases h;obtain⟨R,rfl,rfl,rfl,r4,r5⟩:=K_ hE bI cU h1;obtain⟨RL,rfl,rfl,rfl,i4,i5,i6⟩:=ih h2;refine⟨R::RL,rfl,rfl,rfl,λR' hR=> ?_,by simp[i5], ?_⟩
   ·rcases bP.1 hR with rfl|hR
    ·exact r4
    ·exact i4 R' hR
   ·simp only[MQ,bJ,r5,i6,ba,bV,dW]
  ·cases h
def xC(vs:ak aR):aR:=match vs with|[v]=>v|l=> .tuple l.toArray
theorem CE{fn:Func}{vs:ak aR}(h:(fn.results.toList.mapM (λrv=>t_ rv a.tmps)).run P w= .ok vs w):(results fn a.tmps).run P w= .ok (xC vs) w:=by
 have e:(fn.results.mapM (λrv=>t_ rv a.tmps)).run P w= .ok vs.toArray w:=by rw[Array.mapM_eq_mapM_toList];simp[h]
 have:results fn a.tmps=(do let vs<-fn.results.mapM (λrv=>t_ rv a.tmps);pure (if h:vs.size=1 then vs[0]else .tuple vs)):=rfl;rw[this];simp only[bJ,e,ba,bV];match vs with
 |[]=>rfl
 |[v]=>rfl
 |_::_::_=>rfl
end
end Go.FG

namespace Go.FG
structure jV where
 box:aL
 cs:ak gP
def jV.l(O:jV):ak AA:=O.cs.map (·.aa)
def jV.ns(O:jV)(p:au):ak au:=(if O.box=ae then [c9 p 900]else [])++O.cs.flatMap (·.tk)
def jV.ms(O:jV):ak au:=O.cs.flatMap (·.fz)
section
variable {P:b9} {E:eh} {σ:St} {a:Act} {w:bf} {c:dJ}
def Kept(σ:St)(p j:au)(xs:ak AA)(r:gP):Prop:=∃e ex z ys,xs[j]? =ab (.ow e ex z)/\r.aa= .kp ys/\r.tk=[c9 p j]/\r.fz=[]/\σ (cf (c9 p j))= .o (.row e ex ys)
def Br(T:Tab)(σ:St)(w:bf)(c:dJ)(p:au)(x:dO)(O:jV):Prop:=
 (O.box=ah/\(∀xs,x≠ .pt xs)/\(O.cs=[]\/∃g xs,x= .v g xs/\∀(j:au) (r:gP),O.cs[j]? =ab r->Kept σ p j xs r\/(r.aa= .nl/\r.tk=[]/\r.fz=[])))\/
 (O.box=ae/\∃xs vs vals,x= .pt xs/\σ (cf (c9 p 900))= .o (.box vs)/\k8 w (c.P (c9 p 900)).blk vals/\vals.size=O.cs.length/\
  ∀(j:au) (r:gP),O.cs[j]? =ab r->vals[j]? =ab r.u/\((Kept σ p j xs r/\r.u=jj (c.P (c9 p j)))\/g_ T σ w c r))
theorem CJ{a b:aL}(h:CI a b=ae):a=b:=by cases a<;>cases b<;>first|rfl|cases h
theorem Oq(p j i:au):c9 p j+i=c9 p (j+i):=by unfold c9;omega
theorem D1{tk:ak au}{p:au}:∀{xs:ak AA} {j:au},∃cs:ak gP,(mS σ tk (c9 p j) xs).1=cs.map (·.aa)/\(mS σ tk (c9 p j) xs).2=cs.flatMap (·.tk)/\cs.flatMap (·.fz)=[]/\
  ∀(i:au) (r:gP),cs[i]? =ab r->((∃e ex z ys,xs[i]? =ab (.ow e ex z)/\r.aa= .kp ys/\r.tk=[c9 p (j+i)]/\r.fz=[]/\σ (cf (c9 p (j+i)))= .o (.row e ex ys))\/(r.aa= .nl/\r.tk=[]/\r.fz=[])):=by
 intro xs;induction xs with
 |nil=>intro j;exact⟨[],rfl,rfl,rfl,λi r h=>by simp at h⟩
 |cons x xs ih=>
  intro j;obtain⟨cs,h1,h2,h3,h4⟩:=ih (j:=j+1);have e1:c9 p j+1=c9 p (j+1):=Oq p j 1;let pl:Pl:=⟨ae,0,0,0,0,0⟩
  have one:∃r:gP,kD σ tk (c9 p j) x=(r.aa,r.tk)/\r.fz=[]/\((∃e ex z ys,x= .ow e ex z/\r.aa= .kp ys/\r.tk=[c9 p j]/\r.fz=[]/\σ (cf (c9 p j))= .o (.row e ex ys))\/(r.aa= .nl/\r.tk=[]/\r.fz=[])):=by
   have no:kD σ tk (c9 p j) x=(.nl,[])->∃r:gP,kD σ tk (c9 p j) x=(r.aa,r.tk)/\r.fz=[]/\((∃e ex z ys,x= .ow e ex z/\r.aa= .kp ys/\r.tk=[c9 p j]/\r.fz=[]/\σ (cf (c9 p j))= .o (.row e ex ys))\/(r.aa= .nl/\r.tk=[]/\r.fz=[])):=
    λh=>⟨⟨.nl,[],[],pl,λ_ _=>pl,undef⟩,h,rfl, .inr ⟨rfl,rfl,rfl⟩⟩
   cases x with
   |ow e ex z=>
    cases hm:jO (c9 p j) tk with
    |true=>exact no (by simp[kD,hm])
    |false=>
     obtain⟨so,ho⟩:∃so,σ (cf (c9 p j))=so:=⟨_,rfl⟩
     cases so with
     |v=>exact no (by simp[kD,hm,ho])
     |ie=>exact no (by simp[kD,hm,ho])
     |o ob=>
      cases ob with
      |row e' pY ys=>
       cases hb:(a_ e e'&&CI ex pY)with
       |false=>exact no (by simp only[kD,hm,aC,ho,hb])
       |true=>simp only[az]at hb;have he:=aJ hb.1;have hx:=CJ hb.2;subst he;subst hx;exact⟨⟨.kp ys,[c9 p j],[],pl,λ_ _=>pl,undef⟩,by simp[kD,hm,ho,hb.2],rfl, .inl ⟨e,ex,z,ys,rfl,rfl,rfl,rfl,ho⟩⟩
      |_=>exact no (by simp[kD,hm,ho])
   |_=>exact no rfl
  obtain⟨r,k1,k2,k3⟩:=one;refine⟨r::cs, ?_, ?_,by simp[k2,h3],λi r' hi=> ?_⟩
  ·show(kD σ tk (c9 p j) x).1::(mS σ tk (c9 p j+1) xs).1=_;rw[k1,e1,h1];rfl
  ·show(kD σ tk (c9 p j) x).2++(mS σ tk (c9 p j+1) xs).2=_;rw[k1,e1,h2];rfl
  ·cases i with
   |zero=>
    cases hi;rcases k3 with ⟨e,ex,z,ys,q1,q2⟩|q
    ·exact .inl ⟨e,ex,z,ys,by rw[q1];rfl,q2⟩
    ·exact .inr q
   |succ i=>have:=h4 i r' hi;rw[show j+1+i=j+(i+1)by omega]at this;exact this
theorem GM(bI:Ok E σ w c){q:au}:∀{xs:ak AV} {j:au} {bs l:ak AA} {tk fz:ak au} {vals:cG aR},Ae E q σ j bs xs=ab (l,tk,fz)->eE E w c vals xs->
  ∃cs:ak gP,l=cs.map (·.aa)/\tk=cs.flatMap (·.tk)/\fz=cs.flatMap (·.fz)/\cs.length=xs.length/\∀(i:au) (r:gP),cs[i]? =ab r->vals[i]? =ab r.u/\
   (((∃e ex z ys,bs[i]? =ab (.ow e ex z)/\r.aa= .kp ys/\r.tk=[c9 q (j+i)]/\r.fz=[]/\σ (cf (c9 q (j+i)))= .o (.row e ex ys))/\r.u=jj (c.P (c9 q (j+i))))\/g_ E σ w c r):=by
 intro xs;induction xs with
 |nil=>intro j bs l tk fz vals h _;cases h;exact⟨[],rfl,rfl,rfl,rfl,λi r h=>by simp at h⟩
 |cons x xs ih=>
  intro j bs l tk fz vals h hv;unfold Ae at h;split at h
  ·rename_i aa t f as ts fs h1 h2;cases h;obtain⟨u,hu,ha⟩:=hv.2 0 x rfl;have FN:eE E w c (vals.extract 1 vals.size) xs:=by
    refine⟨by simp;have:=hv.1;simp at this;omega,λi b hj=> ?_⟩
    obtain⟨u,hu,hb⟩:=hv.2 (i+1) b hj;refine⟨u, ?_,hb⟩
    have:=(c_.1 hu).1;rw[dn,br (by omega),gf];exact hu
   obtain⟨cs,rfl,rfl,rfl,i4,i5⟩:=ih h2 FN;have one:∃p g,((∃e ex z ys,bs[0]? =ab (.ow e ex z)/\aa= .kp ys/\t=[c9 q j]/\f=[]/\σ (cf (c9 q j))= .o (.row e ex ys))/\u=jj (c.P (c9 q j)))\/g_ E σ w c ⟨aa,t,f,p,g,u⟩:=by
    have other:∀{om k},uB E om σ k x=ab (aa,t,f)->∃p g,((∃e ex z ys,bs[0]? =ab (.ow e ex z)/\aa= .kp ys/\t=[c9 q j]/\f=[]/\σ (cf (c9 q j))= .o (.row e ex ys))/\u=jj (c.P (c9 q j)))\/g_ E σ w c ⟨aa,t,f,p,g,u⟩:=λhh=>by obtain⟨p,g,hc⟩:=BR bI hh ha;exact⟨p,g, .inr hc⟩
    unfold PR at h1;split at h1
    ·rename_i e ex z n _ hb;cases hn:a_ n (c9 q j)with
     |false=>rw[hn]at h1;exact other (k:= .o) h1
     |true=>
      rw[hn]at h1;have:=aJ hn;subst this;obtain⟨so,ho⟩:∃so,σ (cf (c9 q j))=so:=⟨_,rfl⟩
      cases so with
      |v=>simp[ho]at h1
      |ie=>simp[ho]at h1
      |o ob=>
       cases ob with
       |row e' pY ys=>
        simp only[ho,aw]at h1;cases y_:(a_ e e'&&CI ex pY)with
        |false=>rw[y_]at h1;cases h1
        |true=>
         rw[y_]at h1;cases h1;simp only[az]at y_;have he:=aJ y_.1;have hx:=CJ y_.2;subst he;subst hx;refine⟨⟨ae,0,0,0,0,0⟩,λ_ _=>⟨ae,0,0,0,0,0⟩, .inl ⟨⟨e,ex,z,ys, ?_,rfl,rfl,rfl,ho⟩,ha⟩⟩
         cases bs with
         |nil=>cases hb
         |cons b bs=>rw[show b=_ from hb];rfl
       |_=>simp[ho]at h1
    ·exact other (k:= .o) h1
   obtain⟨p,g,hc⟩:=one;refine⟨⟨aa,t,f,p,g,u⟩::cs,rfl,rfl,rfl,by simp[i4],λi r hi=> ?_⟩
   cases i with
   |zero=>cases hi;exact⟨hu,hc⟩
   |succ i=>
    obtain⟨r1,r2⟩:=i5 i r hi;refine⟨?_, ?_⟩
    ·rw[dn]at r1;split at r1
     ·rw[gf];exact r1
     ·cases r1
    ·rw[show j+1+i=j+(i+1)by omega]at r2;have e1:bs.tail[i]? =bs[i+1]? :=by cases bs<;>simp
     rw[e1]at r2;exact r2
  ·cases h
end
end Go.FG

namespace Go.FG
section
variable {P:b9} {E:eh} {σ:St} {a:Act} {w:bf} {c:dJ}
theorem Hq(bI:Ok E σ w c){tk:ak au}:∀{args:ak dO} {p:au} {l:ak (ak AA)} {ns ms:ak au},xu E σ tk p args=ab (l,ns,ms)->
  ∃OL:ak jV,l=OL.map (·.l)/\OL.length=args.length/\ns=(OL.zipIdx p).flatMap (λt=>t.1.ns t.2)/\ms=OL.flatMap (·.ms)/\∀(i:au) (O:jV) (x:dO),OL[i]? =ab O->args[i]? =ab x->Br E σ w c (p+i) x O:=by
 intro args;induction args with
 |nil=>intro p l ns ms h;cases h;exact⟨[],rfl,rfl,rfl,rfl,λi O x h=>by simp at h⟩
 |cons x args ih=>
  intro p l ns ms h;unfold xu at h;split at h
  ·cases h
  ·rename_i l' ns' ms' h1;obtain⟨OL,rfl,i2,rfl,rfl,i5⟩:=ih h1;have put:∀O:jV,Br E σ w c p x O->l=O.l::OL.map (·.l)->ns=O.ns p++(OL.zipIdx (p+1)).flatMap (λt=>t.1.ns t.2)->ms=O.ms++OL.flatMap (·.ms)->∃OL:ak jV,l=OL.map (·.l)/\OL.length=(x::args).length/\ns=(OL.zipIdx p).flatMap (λt=>t.1.ns t.2)/\ms=OL.flatMap (·.ms)/\∀(i:au) (O:jV) (y:dO),OL[i]? =ab O->(x::args)[i]? =ab y->Br E σ w c (p+i) y O:=by
    intro O hO h1 h2 h3;refine⟨O::OL,h1,by simp[i2],by rw[h2,List.zipIdx_cons,th],h3,λi O' y hi hy=> ?_⟩
    cases i with
    |zero=>cases hi;cases hy;exact hO
    |succ i=>have:=i5 i O' y hi hy;rwa[show p+1+i=p+(i+1)by omega]at this
   cases x with
   |v g xs=>
    dsimp only at h;cases hh:JV xs with
    |false=>rw[hh]at h;cases h;exact put ⟨ah,[]⟩ (.inl ⟨rfl,(λ_ h=>by cases h), .inl rfl⟩) rfl rfl rfl
    |true=>rw[hh]at h;cases h;obtain⟨cs,k1,k2,k3,k4⟩:=D1 (σ:=σ) (tk:=tk) (p:=p) (xs:=xs) (j:=0);refine put ⟨ah,cs⟩ (.inl ⟨rfl,(λ_ h=>by cases h), .inr ⟨g,xs,rfl,λj r hj=> ?_⟩⟩) (by rw[k1];rfl) (by rw[k2];rfl) (by simp[jV.ms,k3]);have:=k4 j r hj;rw[bu]at this;exact this
   |pt xs=>
    dsimp only at h;split at h
    ·rename_i vs ho;split at h
     ·rename_i as ns2 ms2 hb;cases h;obtain⟨vals,SM,eM,hv⟩:=bI.obj _ _ ho;obtain⟨cs,rfl,rfl,rfl,k4,k5⟩:=GM bI hb ⟨eM,hv⟩;refine put ⟨ae,cs⟩ (.inr ⟨rfl,xs,vs,vals,rfl,ho,SM,by rw[eM];exact k4.symm,λj r hj=> ?_⟩) rfl (by simp[jV.ns]) rfl;obtain⟨r1,r2⟩:=k5 j r hj;rw[bu]at r2;exact⟨r1,r2⟩
     ·cases h
    ·cases h
   |fb xs=>cases h;exact put ⟨ah,[]⟩ (.inl ⟨rfl,(λ_ h=>by cases h), .inl rfl⟩) rfl rfl rfl
theorem uw:∀{l:ak (ak AA)} {p:au},(pX l).getD p []=l.getD p []:=by
 intro l;induction l with
 |nil=>intro p;rfl
 |cons x l ih=>
  intro p;unfold pX;split
  ·rename_i h;cases p with
   |zero=>rfl
   |succ p=>rw[qN,<-ih,h];rfl
  ·rename_i x' r' _;cases p with
   |zero=>rfl
   |succ p=>rw[qN,qN,ih]
end
end Go.FG

namespace Go.FG
structure Sp where
 res:aL
 i:au
 j:ar au
def mn(RL:ak iO)(OL:ak jV)(s:Sp):ak au:=
 match s.res,s.j with
 |true,af=>match RL[s.i]? with|some R=>R.box.toList|none=>[]
 |true,ab j=>match RL[s.i]? with|some R=>(match R.cs[j]? with|some r=>r.tk|none=>[])|none=>[]
 |false,af=>match OL[s.i]? with|some O=>(if O.box=ae then [c9 s.i 900]else [])|none=>[]
 |false,ab j=>match OL[s.i]? with|some O=>(match O.cs[j]? with|some r=>r.tk|none=>[])|none=>[]
theorem kE{α:Type}{l:ak α}{i:au}{x:α}{p:au}(h:l[i]? =ab x):(l.zipIdx p)[i]? =ab (x,p+i):=by rw[List.getElem?_zipIdx,h];rfl
theorem OS{RL:ak iO}{OL:ak jV}(hn:(RL.flatMap (·.tk)++(OL.zipIdx 0).flatMap (λt=>t.1.ns t.2)).Nodup){s s':Sp}{n:au}(h:n∈mn RL OL s)(h':n∈mn RL OL s'):s=s':=by
 obtain⟨n1,n2,n3⟩:=dr.1 hn;obtain⟨a1,a2⟩:=jo n1;obtain⟨b1,b2⟩:=jo n2;have R1:∀{i:au} {j:ar au},n∈mn RL OL ⟨ae,i,j⟩->∃R,RL[i]? =ab R/\n∈R.tk/\((j=af/\n∈R.box.toList)\/∃q r,j=ab q/\R.cs[q]? =ab r/\n∈r.tk):=by
  intro i j h;cases j with
  |none=>
   unfold mn at h;dsimp only at h;cases hR:RL[i]? with
   |none=>rw[hR]at h;cases h
   |some R=>rw[hR]at h;exact⟨R,rfl,bw _ h, .inl ⟨rfl,h⟩⟩
  |some q=>
   unfold mn at h;dsimp only at h;cases hR:RL[i]? with
   |none=>rw[hR]at h;cases h
   |some R=>
    rw[hR]at h;dsimp only at h;cases hr:R.cs[q]? with
    |none=>rw[hr]at h;cases h
    |some r=>rw[hr]at h;exact⟨R,rfl,bm _ (bg.2 ⟨r,aD hr,h⟩), .inr ⟨q,r,rfl,hr,h⟩⟩
 have O1:∀{i:au} {j:ar au},n∈mn RL OL ⟨ah,i,j⟩->∃O,OL[i]? =ab O/\n∈O.ns i/\((j=af/\n∈(if O.box=ae then [c9 i 900]else []))\/∃q r,j=ab q/\O.cs[q]? =ab r/\n∈r.tk):=by
  intro i j h;cases j with
  |none=>
   unfold mn at h;dsimp only at h;cases hR:OL[i]? with
   |none=>rw[hR]at h;cases h
   |some R=>rw[hR]at h;exact⟨R,rfl,bw _ h, .inl ⟨rfl,h⟩⟩
  |some q=>
   unfold mn at h;dsimp only at h;cases hR:OL[i]? with
   |none=>rw[hR]at h;cases h
   |some R=>
    rw[hR]at h;dsimp only at h;cases hr:R.cs[q]? with
    |none=>rw[hr]at h;cases h
    |some r=>rw[hr]at h;exact⟨R,rfl,bm _ (bg.2 ⟨r,aD hr,h⟩), .inr ⟨q,r,rfl,hr,h⟩⟩
 have inn:∀{A:ak au} {cs:ak gP} {j j':ar au},(A++cs.flatMap (·.tk)).Nodup->((j=af/\n∈A)\/∃q r,j=ab q/\cs[q]? =ab r/\n∈r.tk)->((j'=af/\n∈A)\/∃q r,j'=ab q/\cs[q]? =ab r/\n∈r.tk)->j=j':=by
  intro A cs j j' hnd k k';obtain⟨m1,m2,m3⟩:=dr.1 hnd;have inC:∀{q:au} {r:gP},cs[q]? =ab r->n∈r.tk->n∈cs.flatMap (·.tk):=λhq hr=>bg.2 ⟨_,aD hq,hr⟩;rcases k with ⟨rfl,k⟩|⟨q,r,rfl,k1,k2⟩<;>rcases k' with ⟨rfl,k'⟩|⟨q',r',rfl,Zs,k2'⟩
  ·rfl
  ·exact bS rfl (m3 n k n (inC Zs k2'))
  ·exact bS rfl (m3 n k' n (inC k1 k2))
  ·rw[(jo m2).1 q q' r r' n k1 Zs k2 k2']
 obtain⟨b,i,j⟩:=s;obtain⟨b',i',j'⟩:=s';cases b<;>cases b'
 ·obtain⟨O,h1,h2,h3⟩:=O1 h;obtain⟨O',DP,G1,FF⟩:=O1 h';have:=b1 i i' _ _ n (kE (p:=0) h1) (kE (p:=0) DP) (by rw[bu];exact h2) (by rw[bu];exact G1);subst this;rw[h1]at DP;cases DP;have:=b2 _ (aD (kE (p:=0) h1));rw[bu]at this;rw[inn this h3 FF]
 ·obtain⟨O,h1,h2,h3⟩:=O1 h;obtain⟨R,DP,G1,_⟩:=R1 h';exact bS rfl (n3 n (bg.2 ⟨R,aD DP,G1⟩) n (bg.2 ⟨_,aD (kE (p:=0) h1),by rw[bu];exact h2⟩))
 ·obtain⟨R,h1,h2,_⟩:=R1 h;obtain⟨O,DP,G1,_⟩:=O1 h';exact bS rfl (n3 n (bg.2 ⟨R,aD h1,h2⟩) n (bg.2 ⟨_,aD (kE (p:=0) DP),by rw[bu];exact G1⟩))
 ·obtain⟨R,h1,h2,h3⟩:=R1 h;obtain⟨R',DP,G1,FF⟩:=R1 h';have:=a1 i i' _ _ n h1 DP h2 G1;subst this;rw[h1]at DP;cases DP;have:=a2 _ (aD h1);rw[inn this h3 FF]
end Go.FG

namespace Go.FG
def Fc(c:dJ)(RL:ak iO)(OL:ak jV)(m:au):ar (Pl×(au->au->Pl)):=
 if m<900000000 then af
 else if 500<=(m-900000000)/1000 then(match RL[(m-900000000)/1000-500]? with
  |none=>af
  |some R=>if(m-900000000)%1000=900 then R.box.map (λn=>(c.P n,c.G n))else(R.cs[(m-900000000)%1000]?).map λr=>(r.p,r.g))
 else if 100<=(m-900000000)%1000/\(m-900000000)%1000≠900 then(match OL[(m-900000000)/1000]? with
  |none=>af
  |some O=>(O.cs[(m-900000000)%1000-100]?).map λr=>(r.p,r.g))
 else af
def kC(σ:St)(c:dJ)(RL:ak iO)(OL:ak jV):dJ:=
 ⟨λm=>match Fc c RL OL m with|some pg=>pg.1|none=>c.P m,λm=>match Fc c RL OL m with|some pg=>pg.2|none=>c.G m,RC σ c (RL.flatMap (·.fz)++OL.flatMap (·.ms))⟩
theorem vl{σ:St}{c:dJ}{RL:ak iO}{OL:ak jV}{m:au}{p:Pl}{g:au->au->Pl}(h:Fc c RL OL m=ab (p,g)):(kC σ c RL OL).P m=p/\(kC σ c RL OL).G m=g:=by unfold kC;simp only[h];exact⟨trivial,trivial⟩
theorem vk{σ:St}{c:dJ}{RL:ak iO}{OL:ak jV}{m:au}(h:Fc c RL OL m=af):(kC σ c RL OL).P m=c.P m/\(kC σ c RL OL).G m=c.G m:=by unfold kC;simp only[h];exact⟨trivial,trivial⟩
section
variable {c:dJ} {RL:ak iO} {OL:ak jV}
theorem Jt{q n:au}{R:iO}(h:RL[q]? =ab R)(hb:R.box=ab n):Fc c RL OL (c9 (500+q) 900)=ab (c.P n,c.G n):=by obtain⟨h1,h2⟩:=qc (p:=500+q) (j:=900) (by omega);have h0:=w9 (500+q) 900;unfold Fc;rw[bF (by omega),h1,h2,br (by omega),show 500+q-500=q by omega,h];simp[hb]
theorem Aa{q j:au}{R:iO}{r:gP}(h:RL[q]? =ab R)(hj:R.cs[j]? =ab r)(hl:j<900):Fc c RL OL (c9 (500+q) j)=ab (r.p,r.g):=by obtain⟨h1,h2⟩:=qc (p:=500+q) (j:=j) (by omega);have h0:=w9 (500+q) j;unfold Fc;rw[bF (by omega),h1,h2,br (by omega),show 500+q-500=q by omega,h];dsimp only;rw[bF (by omega),hj];rfl
theorem vi{p j:au}(hp:p<500)(hl:j<100\/j=900):Fc c RL OL (c9 p j)=none:=by obtain⟨h1,h2⟩:=qc (p:=p) (j:=j) (by omega);have h0:=w9 p j;unfold Fc;rw[bF (by omega),h1,h2,bF (by omega),bF (by omega)]
theorem Ff{p j:au}{O:jV}{r:gP}(hp:p<500)(h:OL[p]? =ab O)(hj:O.cs[j]? =ab r)(hl:j<=100):Fc c RL OL (c9 p (100+j))=ab (r.p,r.g):=by obtain⟨h1,h2⟩:=qc (p:=p) (j:=100+j) (by omega);have h0:=w9 p (100+j);unfold Fc;rw[bF (by omega),h1,h2,bF (by omega),br (by omega),h];dsimp only;rw[show 100+j-100=j by omega,hj];rfl
end
end Go.FG

namespace Go.FG
def W3(OL:ak jV)(s:Sp):au:=
 match s.res,s.j with
 |true,af=>c9 (500+s.i) 900
 |true,ab j=>c9 (500+s.i) j
 |false,af=>c9 s.i 900
 |false,ab j=>match OL[s.i]? with|some O=>(match O.cs[j]? with|some r=>(match r.aa with| .kp _=>c9 s.i j|_=>c9 s.i (100+j))|none=>0)|none=>0
section
variable {P:b9} {E:eh} {σ:St} {a:Act} {w:bf} {c:dJ} {RL:ak iO} {OL:ak jV}
theorem vn{r:gP}(h:g_ E σ w c r)(hf:∀n∈r.fz,n∈RL.flatMap (·.fz)++OL.flatMap (·.ms)){x:au}(hx:Fc c RL OL x=ab (r.p,r.g)):dz E w (kC σ c RL OL) (iW x r.aa) r.u:=by
 rcases h with ⟨e,ex,ys,te,h1,h2,h3,h4,_⟩|⟨h1,h2,h3,h4,h5⟩
 ·rw[h1];show r.u=jj ((kC σ c RL OL).P x);rw[(vl hx).1];exact h4
 ·exact h5 _ (λb hb=>hb.imp id (λ⟨n,hn,hh⟩=>⟨n,hf n hn,hh⟩)) x
theorem BF{r:gP}(h:g_ E σ w c r){e:au}{ex:aL}{ys:aY}(ha:r.aa= .ow e ex ys){x:au}(hx:Fc c RL OL x=ab (r.p,r.g)):
  mM E w (kC σ c RL OL) x (.row e ex ys)/\∀b,ea (kC σ c RL OL) x (.row e ex ys) b->∃n ob,n∈r.tk/\σ (cf n)= .o ob/\ea c n ob b:=by
 obtain⟨e1,e2⟩:=vl (σ:=σ) hx;rcases h with ⟨e',pY,xY,te,h1,h2,h3,h4,h5,h6,h7,h8,h9,SE⟩|⟨_,_,h3,_⟩
 ·rw[ha]at h1;cases h1;refine⟨⟨⟨te,h3,by rw[e1];exact h5,h6⟩, ?_,λmB=>by rw[e1,e2];exact h8 mB⟩,λb hb=> ?_⟩
  ·rw[e1,e2];refine h7.frame (λ_=>rfl) (λi j y xx u hy Mq hr=> ?_);split at hr
   ·rename_i mB;rw[br mB];exact hr
   ·rename_i mB;rw[bF mB];exact hr.frame (λ_ _=>rfl) (λb hb=> .inl hb)
  ·rcases hb with ⟨hn,rfl⟩|⟨mB,i,j,hh,hn,rfl⟩
   ·rw[e1]at hn⊢;exact h9 hn
   ·rw[e2]at hn⊢;exact SE mB i j hh hn
 ·exact bS ha (h3 _ _ _)
structure yB (T:Tab) (σ:St) (w:bf) (c:dJ) (RL:ak iO) (OL:ak jV) (args:ak dO) (r:dp):Prop where
 rl:∀R∈RL,v8 T σ w c R
 ol:∀(i:au) (O:jV) (x:dO),OL[i]? =ab O->args[i]? =ab x->Br T σ w c i x O
 len:OL.length=args.length
 nd:(RL.flatMap (·.tk)++(OL.zipIdx 0).flatMap (λt=>t.1.ns t.2)).Nodup
 ap:∀n∈RL.flatMap (·.tk)++(OL.zipIdx 0).flatMap (λt=>t.1.ns t.2),n∉RL.flatMap (·.fz)++OL.flatMap (·.ms)
 sm:Small args r
 rs:r.rs=RL.map (·.arg)
 outs:∀p,r.outs.getD p []=(OL.map (·.l)).getD p []
theorem Jp{R:iO}{xs:ak AA}(h:EN R.arg xs):xs=R.cs.map (·.aa):=by
 unfold iO.arg at h;split at h
 ·rcases h with ⟨g,h⟩|h<;>cases h;rfl
 ·rcases h with ⟨g,h⟩|h<;>cases h;rfl
theorem rX(bI:Ok E σ w c){args:ak dO}{r:dp}(hE:yB E σ w c RL OL args r){x:au}{ob:Obj}(h:vQ args r x (.o ob)):
  mM E w (kC σ c RL OL) x ob/\∃s,x=W3 OL s/\∀b,ea (kC σ c RL OL) x ob b->∃n o,n∈mn RL OL s/\σ (cf n)= .o o/\ea c n o b:=by
 have XL:∀{q:au} {y:dO},r.rs[q]? =ab y->∃R,RL[q]? =ab R/\y=R.arg:=by
  intro q y hq;rw[hE.rs,bc]at hq;cases hR:RL[q]? with
  |none=>rw[hR]at hq;cases hq
  |some R=>rw[hR]at hq;cases hq;exact⟨R,rfl,rfl⟩
 have fzR:∀{q:au} {R:iO} {j:au} {t:gP},RL[q]? =ab R->R.cs[j]? =ab t->∀n∈t.fz,n∈RL.flatMap (·.fz)++OL.flatMap (·.ms):=λhR hj n hn=>bw _ (bg.2 ⟨_,aD hR,bg.2 ⟨_,aD hj,hn⟩⟩);have fzO:∀{q:au} {O:jV} {j:au} {t:gP},OL[q]? =ab O->O.cs[j]? =ab t->∀n∈t.fz,n∈RL.flatMap (·.fz)++OL.flatMap (·.ms):=λhR hj n hn=>bm _ (bg.2 ⟨_,aD hR,bg.2 ⟨_,aD hj,hn⟩⟩);have TS:∀{p:au} {y:dO},args[p]? =ab y->∃O,OL[p]? =ab O/\Br E σ w c p y O/\r.outs.getD p []=O.cs.map (·.aa):=by
  intro p y hp;have oW:p<OL.length:=by rw[hE.len];exact(aG.1 hp).1
  have hO:OL[p]? =ab OL[p]:=by simp[oW]
  refine⟨OL[p],hO,hE.ol p _ y hO hp, ?_⟩
  rw[hE.outs,cT,bc,hO];rfl
 have VK:∀{cs:ak gP} {j:au} {y:AA},(cs.map (·.aa))[j]? =ab y->∃t,cs[j]? =ab t/\t.aa=y:=by
  intro cs j y hj;rw[bc]at hj;cases ht:cs[j]? with
  |none=>rw[ht]at hj;cases hj
  |some t=>rw[ht]at hj;cases hj;exact⟨t,rfl,rfl⟩
 have P8:∀p j,c9 p 0+j=c9 p j:=λp j=>by unfold c9;omega
 cases h with
 |rb q xs h0=>
  obtain⟨R,hR,hy⟩:=XL h0;rcases hE.rl R (aD hR)with ⟨nm,zs,vals,h1,h2,h3,h4,h5,h6⟩|⟨h1,_⟩
  ·have Qc:=Jp (R:=R) (xs:=xs) (.inr hy.symm);obtain⟨e1,e2⟩:=vl (σ:=σ) (Jt (c:=c) (OL:=OL) hR h1);refine⟨⟨vals,by rw[e1];exact h4,by rw[fS,Qc,bC];exact h5,λj y hj=> ?_⟩,⟨ae,q,af⟩,rfl,λb hb=>⟨nm,_, ?_,h2, ?_⟩⟩
   ·rw[fH,Qc]at hj;cases hx:(R.cs.map (·.aa))[j]? with
    |none=>rw[hx]at hj;cases hj
    |some z=>
     rw[hx]at hj;cases hj;obtain⟨t,ht,rfl⟩:=VK hx;obtain⟨k1,k2⟩:=h6 j t ht;have jc:j<900:=by have:=hE.sm.rl q _ xs h0 (.inr rfl);have h7:=(aG.1 ht).1;rw[Qc,bC]at this;omega
     rw[P8];exact⟨t.u,k1,vn k2 (fzR hR ht) (Aa hR ht jc)⟩
   ·show nm∈(match RL[q]? with|some R=>R.box.toList|none=>[]);rw[hR];dsimp only;rw[h1];exact aP.2 rfl
   ·rw[show b=_ from hb,e1];rfl
  ·unfold iO.arg at hy;rw[h1]at hy;cases hy
 |rr q y xs j e ex ys h0 hx hj=>
  obtain⟨R,hR,rfl⟩:=XL h0;have Qc:=Jp hx;rw[Qc]at hj;obtain⟨t,ht,B9⟩:=VK hj;have jc:j<900:=by have:=hE.sm.rl q _ xs h0 hx;have h7:=(aG.1 ht).1;rw[Qc,bC]at this;omega
  have hc:g_ E σ w c t:=by
   rcases hE.rl R (aD hR)with ⟨nm,zs,vals,_,_,_,_,_,h6⟩|⟨_,⟨_,t',h1,_,h2⟩|⟨_,vals,_,_,h6⟩⟩
   ·exact(h6 j t ht).2
   ·rw[h1]at ht;cases j with
    |zero=>cases ht;exact h2
    |succ j=>simp at ht
   ·exact(h6 j t ht).2
  obtain⟨k1,k2⟩:=BF (RL:=RL) (OL:=OL) hc B9 (Aa hR ht jc);refine⟨k1,⟨ae,q,ab j⟩,rfl,λb hb=> ?_⟩
  obtain⟨n,o,h1,h2⟩:=k2 b hb;refine⟨n,o, ?_,h2⟩
  show n∈(match RL[q]? with|some R=>(match R.cs[j]? with|some r=>r.tk|none=>[])|none=>[]);rw[hR];dsimp only;rw[ht];exact h1
 |ob p xs h0=>
  obtain⟨O,hO,Wu,hl⟩:=TS h0;have hp:=hE.sm.a p _ xs h0 (.inr rfl);rcases Wu with ⟨_,h1,_⟩|⟨h1,EF,vs,vals,NM,h2,h3,h4,h5⟩
  ·exact bS rfl (h1 xs)
  ·cases NM;obtain⟨e1,e2⟩:=vk (σ:=σ) (vi (c:=c) (RL:=RL) (OL:=OL) hp (.inr rfl));have VT:O.cs.length<=100:=by have:=hE.sm.o p;rw[hl,bC]at this;exact this
   rw[hl];refine⟨⟨vals,by rw[e1];exact h3,by rw[qE,bC];exact h4,λj y hj=> ?_⟩,⟨ah,p,af⟩,rfl,λb hb=>⟨c9 p 900,_, ?_,h2, ?_⟩⟩
   ·rw[rm,bu]at hj;cases hx:(O.cs.map (·.aa))[j]? with
    |none=>rw[hx]at hj;cases hj
    |some z=>
     rw[hx]at hj;cases hj;obtain⟨t,ht,rfl⟩:=VK hx;obtain⟨k1,k2⟩:=h5 j t ht;have jc:=(aG.1 ht).1;refine⟨t.u,k1, ?_⟩
     rcases k2 with ⟨⟨e,ex,z,ys,_,q2,_⟩,q6⟩|k2
     ·rw[q2];show t.u=jj ((kC σ c RL OL).P (c9 p j));rw[(vk (vi hp (.inl (by omega)))).1];exact q6
     ·have hk:∀ys,t.aa≠ .kp ys:=by
       rcases k2 with ⟨_,_,_,_,q,_⟩|⟨_,_,_,q,_⟩
       ·intro ys hh;rw[q]at hh;cases hh
       ·exact q
      have:pC p j t.aa=iW (c9 p (100+j)) t.aa:=by cases hq:t.aa<;>first|rfl|exact bS hq (hk _)
      rw[this];exact vn k2 (fzO hO ht) (Ff hp hO ht (by omega))
   ·show c9 p 900∈(match OL[p]? with|some O=>(if O.box=ae then [c9 p 900]else [])|none=>[]);rw[hO];dsimp only;rw[br h1];exact aP.2 rfl
   ·rw[show b=_ from hb,e1];rfl
 |kp p y xs j e ex z ys h0 hx h2 h3=>
  obtain⟨O,hO,Wu,hl⟩:=TS h0;have hp:=hE.sm.a p _ xs h0 hx;rw[hl]at h3;obtain⟨t,ht,B9⟩:=VK h3;have VT:O.cs.length<=100:=by have:=hE.sm.o p;rw[hl,bC]at this;exact this
  have jc:=(aG.1 ht).1;have Wm:Kept σ p j xs t:=by
   rcases Wu with ⟨_,_,h1|⟨g,EF,NM,h1⟩⟩|⟨_,EF,vs,vals,NM,_,_,_,h5⟩
   ·rw[h1]at ht;simp at ht
   ·have:EF=xs:=by rw[NM]at hx;rcases hx with ⟨g',hx⟩|hx<;>cases hx;rfl
    subst this;rcases h1 j t ht with h|⟨h,_⟩
    ·exact h
    ·rw[B9]at h;cases h
   ·have:EF=xs:=by rw[NM]at hx;rcases hx with ⟨g',hx⟩|hx<;>cases hx;rfl
    subst this;rcases(h5 j t ht).2 with ⟨h,_⟩|h
    ·exact h
    ·rcases h with ⟨_,_,_,_,q,_⟩|⟨_,_,_,q,_⟩
     ·rw[B9]at q;cases q
     ·exact bS B9 (q _)
  obtain⟨e',pY,z',xY,q1,q2,q3,q4,q5⟩:=Wm;rw[h2]at q1;cases q1;rw[B9]at q2;cases q2;obtain⟨e1,e2⟩:=vk (σ:=σ) (vi (c:=c) (RL:=RL) (OL:=OL) (p:=p) (j:=j) hp (.inl (by omega)));obtain⟨⟨te,r1,r2,r3⟩,r4,r5⟩:=bI.obj _ _ q5;refine⟨⟨⟨te,r1,by rw[e1];exact r2,r3⟩, ?_,λmB=>by rw[e1,e2];exact r5 mB⟩,⟨ah,p,ab j⟩, ?_,λb hb=>⟨c9 p j,_, ?_,q5, ?_⟩⟩
  ·rw[e1,e2];refine r4.frame (λ_=>rfl) (λi j y xx u hy Mq hr=> ?_);split at hr
   ·rename_i mB;rw[br mB];exact hr
   ·rename_i mB;rw[bF mB];exact hr.frame (λ_ _=>rfl) (λb hb=> .inl hb)
  ·show c9 p j=(match OL[p]? with|some O=>(match O.cs[j]? with|some r=>(match r.aa with| .kp _=>c9 p j|_=>c9 p (100+j))|none=>0)|none=>0)
   rw[hO];dsimp only;rw[ht];dsimp only;rw[B9]
  ·show c9 p j∈(match OL[p]? with|some O=>(match O.cs[j]? with|some r=>r.tk|none=>[])|none=>[]);rw[hO];dsimp only;rw[ht];dsimp only;rw[q3];exact aP.2 rfl
  ·rw[jF (c:=c) (c':=kC σ c RL OL) ⟨e1,e2⟩]at hb;exact hb
 |nw p y xs j e ex ys h0 hx h3=>
  obtain⟨O,hO,Wu,hl⟩:=TS h0;have hp:=hE.sm.a p _ xs h0 hx;rw[hl]at h3;obtain⟨t,ht,B9⟩:=VK h3;have VT:O.cs.length<=100:=by have:=hE.sm.o p;rw[hl,bC]at this;exact this
  have jc:=(aG.1 ht).1;have hc:g_ E σ w c t:=by
   rcases Wu with ⟨_,_,h1|⟨g,EF,NM,h1⟩⟩|⟨_,EF,vs,vals,NM,_,_,_,h5⟩
   ·rw[h1]at ht;simp at ht
   ·rcases h1 j t ht with ⟨_,_,_,_,_,h,_⟩|⟨h,_⟩<;>(rw[B9]at h;cases h)
   ·rcases(h5 j t ht).2 with ⟨⟨_,_,_,_,_,h,_⟩,_⟩|h
    ·rw[B9]at h;cases h
    ·exact h
  obtain⟨k1,k2⟩:=BF (RL:=RL) (OL:=OL) hc B9 (Ff hp hO ht (by omega));refine⟨k1,⟨ah,p,ab j⟩, ?_,λb hb=> ?_⟩
  ·show c9 p (100+j)=(match OL[p]? with|some O=>(match O.cs[j]? with|some r=>(match r.aa with| .kp _=>c9 p j|_=>c9 p (100+j))|none=>0)|none=>0)
   rw[hO];dsimp only;rw[ht];dsimp only;rw[B9]
  ·obtain⟨n,o,h1,h2⟩:=k2 b hb;refine⟨n,o, ?_,h2⟩
   show n∈(match OL[p]? with|some O=>(match O.cs[j]? with|some r=>r.tk|none=>[])|none=>[]);rw[hO];dsimp only;rw[ht];exact h1
end
end Go.FG

namespace Go.FG
theorem qX{args:ak dO}{r:dp}{m:au}{o:Obj}(h:vQ args r m (.o o)):lC args r (cf m)≠ .ie:=by
 refine oC (rZ.2 h) ?_;rintro ⟨k,d⟩ hd;rcases aQ.1 hd with hd|hd
 ·obtain⟨i,a,_,hd⟩:=Cm.1 hd;rcases fD.1 hd with ⟨_,_,_,h⟩|⟨_,_,_,_,_,_,_,_,h⟩<;>rw[h]<;>simp
 ·obtain⟨i,a,_,hd⟩:=Cj.1 hd;rcases nC.1 hd with ⟨_,_,_,h⟩|⟨_,_,⟨_,_,_,_,_,_,_,_,h⟩|⟨_,_,_,_,_,_,h⟩⟩<;>rw[h]<;>simp
section
variable {P:b9} {E:eh} {σ:St} {a:Act} {w:bf} {c c0:dJ} {RL:ak iO} {OL:ak jV}
theorem KX{s:Sp}{n:au}(h:n∈mn RL OL s):n∈RL.flatMap (·.tk)++(OL.zipIdx 0).flatMap (λt=>t.1.ns t.2):=by
 obtain⟨b,i,j⟩:=s;have inO:∀{O:jV},OL[i]? =ab O->n∈O.ns i->n∈(OL.zipIdx 0).flatMap (λt=>t.1.ns t.2):=λhO hn=>bg.2 ⟨_,aD (kE (p:=0) hO),by rw[bu];exact hn⟩;have inR:∀{R:iO},RL[i]? =ab R->n∈R.tk->n∈RL.flatMap (·.tk):=λhR hn=>bg.2 ⟨_,aD hR,hn⟩;cases b<;>cases j<;>unfold mn at h<;>dsimp only at h
 ·cases hO:OL[i]? with
  |none=>rw[hO]at h;cases h
  |some O=>rw[hO]at h;exact bm _ (inO hO (bw _ h))
 ·rename_i j;cases hO:OL[i]? with
  |none=>rw[hO]at h;cases h
  |some O=>
   rw[hO]at h;dsimp only at h;cases hr:O.cs[j]? with
   |none=>rw[hr]at h;cases h
   |some r=>rw[hr]at h;exact bm _ (inO hO (bm _ (bg.2 ⟨r,aD hr,h⟩)))
 ·cases hO:RL[i]? with
  |none=>rw[hO]at h;cases h
  |some O=>rw[hO]at h;exact bw _ (inR hO (bw _ h))
 ·rename_i j;cases hO:RL[i]? with
  |none=>rw[hO]at h;cases h
  |some O=>
   rw[hO]at h;dsimp only at h;cases hr:O.cs[j]? with
   |none=>rw[hr]at h;cases h
   |some r=>rw[hr]at h;exact bw _ (inR hO (bm _ (bg.2 ⟨r,aD hr,h⟩)))
theorem La{args:ak dO}{r:dp}(hE:yB E σ w c RL OL args r){q:au}{R:iO}(hR:RL[q]? =ab R):m9 E w (kC σ c RL OL) (z_ (500+q) R.arg).1 (z_ (500+q) R.arg).2 R.v:=by
 have hlen:∀{j:au} {t:gP},R.cs[j]? =ab t->j<900:=by
  intro j t ht;have h0:r.rs[q]? =ab R.arg:=by rw[hE.rs,bc,hR];rfl
  have hx:EN R.arg (R.cs.map (·.aa)):=by
   unfold iO.arg;split
   ·exact .inr rfl
   ·exact .inl ⟨_,rfl⟩
  have:=hE.sm.rl q _ _ h0 hx;have h7:=(aG.1 ht).1;rw[bC]at this;omega
 have hf:∀{j:au} {t:gP},R.cs[j]? =ab t->∀n∈t.fz,n∈RL.flatMap (·.fz)++OL.flatMap (·.ms):=λhj n hn=>bw _ (bg.2 ⟨_,aD hR,bg.2 ⟨_,aD hj,hn⟩⟩);have P8:∀p j,c9 p 0+j=c9 p j:=λp j=>by unfold c9;omega
 rcases hE.rl R (aD hR)with ⟨nm,zs,vals,h1,h2,h3,h4,h5,h6⟩|⟨h1,⟨h2,t,h3,h4,h5⟩|⟨h2,vals,h3,h4,h5⟩⟩
 ·have:R.arg= .pt (R.cs.map (·.aa)):=by unfold iO.arg;rw[h1]
  rw[this];show R.v= .pointer (ab (ad ((kC σ c RL OL).P (c9 (500+q) 900)).blk 0));rw[(vl (Jt hR h1)).1];exact h3
 ·have:R.arg= .v ah [t.aa]:=by unfold iO.arg;rw[h1,h2,h3];rfl
  rw[this,<-h4];have ht:R.cs[0]? =ab t:=by rw[h3];rfl
  have:=vn (OL:=OL) h5 (hf ht) (Aa hR ht (by omega));exact this
 ·have:R.arg= .v ae (R.cs.map (·.aa)):=by unfold iO.arg;rw[h1,h2]
  rw[this];refine⟨vals,h3,by show vals.size=(eN _ _).length;rw[fS,bC];exact h4,λj y hj=> ?_⟩
  replace hj:(eN (c9 (500+q) 0) (R.cs.map (·.aa)))[j]? =ab y:=hj;rw[fH,bc]at hj;cases ht:R.cs[j]? with
  |none=>rw[ht]at hj;cases hj
  |some t=>
   rw[ht]at hj;cases hj;obtain⟨k1,k2⟩:=h5 j t ht;refine⟨t.u,k1, ?_⟩
   rw[P8];exact vn k2 (hf ht) (Aa hR ht (hlen ht))
theorem wD{args:ak dO}{r:dp}{q:au}{y:dO}{xs:ak AA}(h0:r.rs[q]? =ab y)(hx:EN y xs){v:AV}(hv:v∈eN (c9 (500+q) 0) xs):gp (lC args r) v:=by
 intro m hm;obtain⟨j,hj⟩:=bB hv;rw[fH]at hj;cases hy:xs[j]? with
 |none=>rw[hy]at hj;cases hj
 |some z=>
  rw[hy]at hj;cases hj;obtain⟨rfl,e,ex,ys,rfl⟩:=py hm;have hn:c9 (500+q) 0+j=c9 (500+q) j:=by unfold c9;omega
  rw[hn];exact qX (.rr q y xs j e ex ys h0 hx hy)
theorem Nj(bI:Ok E σ w c){args:ak dO}{r:dp}(hE:yB E σ w c RL OL args r):Ok E (lC args r) w (kC σ c RL OL) where
 obj nm o h:=(rX bI hE (ny h)).1
 sep nm o sq o' b h h' hf sZ:=by
  obtain⟨s,e1,k1⟩:=(rX bI hE (ny h)).2;obtain⟨s',e1',Zs⟩:=(rX bI hE (ny h')).2;obtain⟨n,ob,h1,h2,h3⟩:=k1 b hf;obtain⟨n',ob',DP,G1,FF⟩:=Zs b sZ;have:=bI.sep n ob n' ob' b h2 G1 h3 FF;subst this;rw[e1,e1',OS hE.nd h1 DP]
 kk nm o b h hf hk:=by
  obtain⟨s,e1,k1⟩:=(rX bI hE (ny h)).2;obtain⟨n,ob,h1,h2,h3⟩:=k1 b hf;rcases hk with hk|⟨n',iC,ob',G1,FF⟩
  ·exact bI.kk n ob b h2 h3 hk
  ·have:=bI.sep n ob n' ob' b h2 G1 h3 FF;subst this;exact hE.ap n (KX h1) iC
 lt b hb:=by
  rcases hb with hb|⟨n,hn,ob,h1,h2⟩
  ·exact bI.lt b hb
  ·exact rI.lt bI ⟨n,ob,h1,h2⟩
 kn nm xs h v hv:=by
  have hx:=ny h;cases hx with
  |rb q xs h0=>exact wD h0 (.inr rfl) hv
  |ob p xs h0=>
   intro m hm;obtain⟨j,hj⟩:=bB hv;rw[rm,bu]at hj;cases hy:(r.outs.getD p [])[j]? with
   |none=>rw[hy]at hj;cases hj
   |some z=>
    rw[hy]at hj;cases hj;cases z with
    |kp ys=>
     have hm:m=c9 p j:=by simpa [pC,bh]using hm
     subst hm;have oW:p<OL.length:=by rw[hE.len];exact(aG.1 h0).1
     have hO:OL[p]? =ab OL[p]:=by simp[oW]
     have hl:r.outs.getD p []=OL[p].cs.map (·.aa):=by rw[hE.outs,cT,bc,hO];rfl
     rw[hl,bc]at hy;cases ht:OL[p].cs[j]? with
     |none=>rw[ht]at hy;cases hy
     |some t=>
      rw[ht]at hy;have B9:t.aa= .kp ys:=by injection hy
      rcases hE.ol p _ _ hO h0 with ⟨_,h1,_⟩|⟨_,EF,vs,vals,NM,_,_,_,h5⟩
      ·exact bS rfl (h1 xs)
      ·cases NM;rcases(h5 j t ht).2 with ⟨⟨e,ex,z,xY,q1,q2,_⟩,_⟩|h
       ·rw[B9]at q2;cases q2;exact qX (.kp p _ xs j e ex z ys h0 (.inr rfl) q1 (by rw[hl,bc,ht];exact o6 ab B9))
       ·rcases h with ⟨_,_,_,_,q,_⟩|⟨_,_,_,q,_⟩
        ·rw[B9]at q;cases q
        ·exact bS B9 (q _)
    |ow e ex ys=>
     have hm:m=c9 p (100+j):=by simpa [pC,iW,bh]using hm
     subst hm;exact qX (.nw p _ xs j e ex ys h0 (.inr rfl) hy)
    |_=>simp[pC,iW,bh]at hm
theorem GS(bI:Ok E σ w c){args:ak dO}{r:dp}(hE:yB E σ w c RL OL args r):lE σ c w (lC args r) (kC σ c RL OL) w where
 os:=rfl
 tape:=rfl
 output:=rfl
 size:=cD _
 K b hb:= .inl hb
 same _ _ _:=rfl
 own b hb:=by
  obtain⟨nm,o,h,hf⟩:=hb;obtain⟨s,e1,k1⟩:=(rX bI hE (ny h)).2;obtain⟨n,ob,h1,h2,h3⟩:=k1 b hf;exact .inl ⟨n,ob,h2,h3⟩
 kn b hb:=by
  rcases hb with hb|⟨n,hn,ob,h1,h2⟩
  ·exact .inl hb
  ·exact .inr (.inl ⟨n,ob,h1,h2⟩)
theorem GU{args:ak dO}{r:dp}(hs:Small args r)(ha:∀a∈args,kA a<=100)(hA:L7 c0 c):∀m,inj args (cf m)≠ .ie->(kC σ c RL OL).P m=c0.P m/\(kC σ c RL OL).G m=c0.G m:=by
 intro m hm;have:∃ob,inj args (cf m)= .o ob:=by
  cases h:inj args (cf m)with
  |o ob=>exact⟨ob,rfl⟩
  |ie=>exact bS h hm
  |v x=>
   obtain⟨p,a,h0,h⟩:=jm.1 (kY h (by simp));rcases h with ⟨h,_⟩|h
   ·exact bS h (jG _ _)
   ·rcases fD.1 h with ⟨_,_,_,h⟩|⟨_,_,_,_,_,_,_,_,h⟩<;>cases h
 obtain⟨ob,h⟩:=this;obtain⟨p,a,h0,hh⟩:=vA h;have go:∀j,j<100\/j=900->p<500->(kC σ c RL OL).P (c9 p j)=c0.P (c9 p j)/\(kC σ c RL OL).G (c9 p j)=c0.G (c9 p j):=by intro j hj hp;obtain⟨e1,e2⟩:=vk (σ:=σ) (vi (c:=c) (RL:=RL) (OL:=OL) hp hj);obtain⟨g1,g2⟩:=hA (c9 p j) (w9 p j);exact⟨e1.trans g1,e2.trans g2⟩
 rcases hh with ⟨xs,rfl,rfl,_⟩|⟨xs,j,e,ex,ys,hx,hj,rfl,_⟩
 ·exact go 900 (.inr rfl) (hs.a p _ xs h0 (.inr rfl))
 ·refine go j (.inl ?_) (hs.a p _ xs h0 hx);have h1:=ha a (aD h0);have h2:kA a=xs.length:=by rcases hx with ⟨g,rfl⟩|rfl<;>rfl
  have h3:=(aG.1 hj).1;omega
theorem JI{args:ak dO}{r:dp}(hE:yB E σ w c RL OL args r):gu E w (kC σ c RL OL) (OG r.rs) (xC (RL.map (·.v))):=by
 have gM:∀l:ak (aL×ak AV),l=iX 500 r.rs->gu E w (kC σ c RL OL) (.gM l) (.tuple (RL.map (·.v)).toArray):=by
  rintro l rfl;refine⟨_,rfl,by rw[sj,hE.rs];simp,λj g xs hj=> ?_⟩
  rw[zp,hE.rs,bc]at hj;cases hR:RL[j]? with
  |none=>rw[hR]at hj;cases hj
  |some R=>
   rw[hR]at hj;have hj:z_ (500+j) R.arg=(g,xs):=by injection hj
   have:=La hE hR;rw[hj]at this;exact⟨R.v,by simp[hR],this⟩
 have one:∀x R,iX 500 r.rs=[x]->RL=[R]->gu E w (kC σ c RL OL) (oL [x]) R.v:=by
  intro x R hx hRL;have h0:RL[0]? =ab R:=by rw[hRL];rfl
  have h1:=La hE h0;have h2:(iX 500 r.rs)[0]? =ab (z_ (500+0) R.arg):=by rw[zp,hE.rs,bc,h0];rfl
  rw[hx]at h2;have h2:x=z_ (500+0) R.arg:=by injection h2
  subst h2;exact h1
 have hlen:(iX 500 r.rs).length=RL.length:=by rw[sj,hE.rs];simp
 have hL:∀L,L=iX 500 r.rs->L.length=RL.length->gu E w (kC σ c RL OL) (oL L) (xC (RL.map (·.v))):=by
  intro L hL hlen;have gM:=gM L hL;generalize hV:RL.map (·.v)=V at gM⊢;have Zh:L.length=V.length:=by rw[hlen,<-hV];simp
  cases L with
  |nil=>
   cases V with
   |nil=>exact gM
   |cons v V=>simp at Zh
  |cons x L=>
   cases V with
   |nil=>simp at Zh
   |cons v V=>
    cases L with
    |cons y L=>
     cases V with
     |nil=>simp at Zh
     |cons v' V=>exact gM
    |nil=>
     cases V with
     |cons v' V=>simp at Zh
     |nil=>
      cases hR:RL with
      |nil=>rw[hR]at hV;cases hV
      |cons R RL'=>
       cases RL' with
       |nil=>
        have:=one x R hL.symm hR;rw[hR]at hV this;have hV:R.v=v:=by injection hV
        rw[<-hV];exact this
       |cons R' RL'=>rw[hR]at hV;simp at hV
 exact hL _ rfl hlen
end
end Go.FG

namespace Go.FG
theorem yN{α:Type}{b:aL}{x r:α}(h:(bif b then ab x else af)=ab r):b=ae/\x=r:=by
 cases b with
 |true=>exact⟨rfl,by injection h⟩
 |false=>cases h
section
variable {P:b9} {E:eh} {σ:St} {a:Act} {w:bf} {c:dJ}
theorem SA(hE:dv P E)(bI:Ok E σ w c)(cU:dX E σ a w c){F:Func}{args:ak dO}{e:Ex}{r:dp}(h:fin E F args e σ=ab r):
  (e= .normal\/e= .ret)/\(∀x∈args,kA x<=100)/\∃RL OL,yB E σ w c RL OL args r/\(results F a.tmps).run P w= .ok (xC (RL.map (·.v))) w:=by
 have he:e= .normal\/e= .ret:=by
  cases e with
  |normal=>exact .inl rfl
  |ret=>exact .inr rfl
  |exit id=>cases h
 have h:(match xB E σ 500 F.results.toList F.resultTypes.toList with
  |some (rs,tk,fz)=>match xu E σ (tk++fz) 0 args with
   |some (outs,ns,ms)=>bif pA (tk++ns)&&nZ (tk++ns) (fz++ms)&&dZ args.length 500&&(args.all λa=>dZ (kA a) 100)&&(rs.all λa=>dZ (kA a) 100)&&(outs.all λa=>dZ a.length 100)then ab (dp.mk rs (pX outs))else af
   |none=>af
  |none=>af)=ab r:=by
  rcases he with rfl|rfl<;>exact h
 split at h
 ·rename_i rs tk fz h1;split at h
  ·rename_i outs ns ms h2;obtain⟨RL,rfl,rfl,rfl,r4,r5,r6⟩:=Hz hE bI cU h1;obtain⟨OL,rfl,o2,rfl,rfl,o5⟩:=Hq bI h2;obtain⟨hb,rfl⟩:=yN h;simp only[az,aZ]at hb;obtain⟨⟨⟨⟨⟨b1,b2⟩,b3⟩,b4⟩,b5⟩,b6⟩:=hb;refine⟨he,λx hx=>bN (b4 x hx),RL,OL,⟨r4,λi O x hi hx=>by have:=o5 i O x hi hx;rwa[bu]at this,o2,nD b1,lR b2,⟨?_, ?_, ?_⟩,rfl,λp=>uw⟩,CE r6⟩
   ·intro p x xs hp _;have:=(aG.1 hp).1;have:=bN b3;omega
   ·intro q x xs hq hx;have h1:=bN (b5 x (aD hq));have h2:kA x=xs.length:=by rcases hx with ⟨g,rfl⟩|rfl<;>rfl
    omega
   ·intro p;show((pX (OL.map (·.l))).getD p []).length<=100;rw[uw,cT];cases hp:(OL.map (·.l))[p]? with
    |none=>simp
    |some l=>exact bN (b6 l (aD hp))
  ·cases h
 ·cases h
end
inductive Fit:CV->Prop
 |i (k n):Fit (.i k n)
 |b (x):Fit (.b x)
 |s (x) (h:Ox x):Fit (.s x)
 |l (e xs) (h:xs.length<=9223372036854775807) (hc:∀y∈xs,∀x∈y,Fit x):Fit (.l e xs)
def vW(xs:aY):Prop:=xs.length<=9223372036854775807/\∀y∈xs,∀x∈y,Fit x
def VQ:AA->Prop
 | .s x=>Ox x| .sh _ xs=>vW xs| .ow _ _ xs=>vW xs|_=>True
def Aj:ak AA->Prop
 |[]=>True|a::r=>VQ a/\Aj r
def VR:CV->Prop
 | .s x=>Ox x| .l _ xs=>vW xs|_=>True
def JN:ak CV->Prop
 |[]=>True|a::r=>VR a/\JN r
def JM:dO->Prop
 | .v _ xs=>Aj xs| .pt xs=>Aj xs| .fb xs=>JN xs
def sb:ak dO->Prop
 |[]=>True|a::r=>JM a/\sb r
theorem Fit.Xb{u:aR}{x:CV}(hl:p_ x=ah)(h:Sc u x):Fit x:=by
 cases x with
 |i k n=>exact .i k n
 |b x=>exact .b x
 |s x=>exact .s x h.2
 |l=>simp[p_]at hl
theorem ch.fit{E:Tab}{w:bf}{K:au->Prop}{v:aR}{x:CV}(h:ch E w K v x):Fit x:=by
 induction h with
 |i k n=>exact .i k n
 |b x=>exact .b x
 |s x h=>exact .s x h
 |nl e A c=>exact .l e [] (bT _) (λy hy=>by cases hy)
 |l e xs b o c ti U ht hc hm hK hs hcell fO ih=>refine .l e xs (c5 hc hm) (λy hy x hx=> ?_);obtain⟨i,hi⟩:=bB hy;obtain⟨j,hj⟩:=bB hx;exact ih i j y x hi hj
theorem Fit.row{e:au}{xs:aY}(h:Fit (.l e xs)):vW xs:=by cases h with|l _ _ h hc=>exact⟨h,hc⟩
theorem Fit.toC{x:CV}(h:Fit x):VR x:=by
 cases x with
 |s x=>cases h with|s _ h=>exact h
 |l e xs=>exact h.row
 |_=>trivial
theorem uH{w:bf}{p:Pl}{xs:aY}{R:au->au->aR->CV->Prop}(h:gq w p xs R){i j:au}{y:ak CV}{x:CV}(hi:xs[i]? =ab y)(hj:y[j]? =ab x):∃u:aR,R i j u x:=by
 cases hn:p.nil with
 |true=>rw[(h.nil hn).1]at hi;simp at hi
 |false=>obtain⟨vals,_,_,_,_,hc⟩:=h.mem hn;obtain⟨u,_,hr⟩:=hc i y j x hi hj;exact⟨u,hr⟩
theorem EW.fit{E:Tab}{w:bf}{c:dJ}{nm e:au}{ex:aL}{xs:aY}(h:EW E w c nm e ex xs):vW xs:=by
 refine⟨qe h.at_,λy hy x hx=> ?_⟩
 obtain⟨i,hi⟩:=bB hy;obtain⟨j,hj⟩:=bB hx;obtain⟨u,hr⟩:=uH h.at_ hi hj;split at hr
 ·cases x with
  |i k n=>exact .i k n
  |b x=>exact .b x
  |s x=>exact .s x (show Sc u (.s x)from hr).2
  |l e2 ys=>obtain⟨_,ti,_,hp,_,jR,eI⟩:=hr;refine .l e2 ys (qe eI) (λy2 hy2 x2 Ih=> ?_);obtain⟨i2,B1⟩:=bB hy2;obtain⟨j2,NB⟩:=bB Ih;obtain⟨u2,hr2⟩:=uH eI B1 NB;exact Fit.Xb (fy hp (jR y2 hy2) NB) hr2
 ·exact ch.fit hr
theorem yU{T:Tab}{w:bf}{c:dJ}{xs:ak AA}{nm:au}(WA:∀(j e:au) (ex:aL) (ys:aY),xs[j]? =ab (AA.ow e ex ys)->vW ys)(h:∀(j:au) (x:AA),xs[j]? =ab x->∃v,dz T w c (iW (nm+j) x) v):Aj xs:=by
 induction xs generalizing nm with
 |nil=>trivial
 |cons x xs ih=>
  refine⟨?_,ih (nm:=nm+1) (λj e ex ys hj=>WA (j+1) e ex ys hj) (λj y hj=> ?_)⟩
  ·obtain⟨v,hv⟩:=h 0 x rfl;cases x with
   |s x=>exact hv.2
   |sh e ys=>exact(ch.fit hv).row
   |ow e ex ys=>exact WA 0 e ex ys rfl
   |_=>trivial
  ·have:=h (j+1) y hj;rw[show nm+1+j=nm+(j+1)by omega];exact this
def uc(args:ak dO):aL:=dZ args.length 500&&args.all λa=>dZ (kA a) 100
theorem NS{args:ak dO}(hs:uc args=ae){p j e:au}{x:dO}{xs:ak AA}{ex:aL}{ys:aY}(h0:args[p]? =ab x)(hx:(∃g,x= .v g xs)\/x= .pt xs)(hj:xs[j]? =ab (AA.ow e ex ys)):inj args (cf (c9 p j))= .o (.row e ex ys):=by
 simp only[uc,az,aZ]at hs;have len:∀(x:dO) (xs:ak AA) (j:au) (y:AA),x∈args->((∃g,x= .v g xs)\/x= .pt xs)->xs[j]? =ab y->j<100:=by
  intro x xs j y hm hx hj;have h1:=bN (hs.2 x hm);have h2:kA x=xs.length:=by rcases hx with ⟨g,rfl⟩|rfl<;>rfl
  have h3:=(aG.1 hj).1;omega
 have jc:=len x xs j _ (aD h0) hx hj;refine ue (jm.2 ⟨p,x,h0, .inr (fD.2 (.inr ⟨xs,j,e,ex,ys,hx,hj,by rw[bu],rfl⟩))⟩) (λc' BX=> ?_);obtain⟨p',a',Mj,hh⟩:=jm.1 BX;rw[bu]at hh;rcases hh with ⟨h,_⟩|hh
 ·exact bS h (jG _ _)
 ·rcases fD.1 hh with ⟨zs,_,h,_⟩|⟨zs,j',e',pY,xY,mB,Ia,h,rfl⟩
  ·have:=qd (by omega) (by omega) (ic h);omega
  ·have aiW:=len a' zs j' _ (aD Mj) mB Ia;obtain⟨rfl,rfl⟩:=qd (by omega) (by omega) (ic h);rw[h0]at Mj;cases Mj;have:xs=zs:=by rcases hx with ⟨g,rfl⟩|rfl<;>rcases mB with ⟨g',mB⟩|mB<;>cases mB<;>rfl
   subst this;rw[hj]at Ia;cases Ia;rfl
theorem DI{T:Tab}{w:bf}{c:dJ}:∀{cs:ak CV},(∀(q:au) (x:CV),cs[q]? =ab x->Fit x)->JN cs:=by
 intro cs;induction cs with
 |nil=>intro _;trivial
 |cons x cs ih=>intro h;exact⟨(h 0 x rfl).toC,ih (λq y hq=>h (q+1) y hq)⟩
theorem JO{T:Tab}{w:bf}{c:dJ}{args:ak dO}(hs:uc args=ae)(bI:Ok T (inj args) w c)(h:∀(p:au) (x:dO),args[p]? =ab x->∃v,gu T w c (pq p x) v):sb args:=by
 have one:∀(p:au) (x:dO),args[p]? =ab x->JM x:=by
  intro p x h0;have rows:∀xs,((∃g,x= .v g xs)\/x= .pt xs)->∀(j e:au) (ex:aL) (ys:aY),xs[j]? =ab (AA.ow e ex ys)->vW ys:=λxs hx j e ex ys hj=>EW.fit (bI.obj _ _ (NS hs h0 hx hj));obtain⟨v,hv⟩:=h p x h0;cases x with
  |v g xs=>
   refine yU (T:=T) (w:=w) (c:=c) (nm:=c9 p 0) (rows xs (.inl ⟨g,rfl⟩)) (λj y hj=> ?_);replace hv:m9 T w c g (eN (c9 p 0) xs) v:=hv;have Ia:(eN (c9 p 0) xs)[j]? =ab (iW (c9 p 0+j) y):=by rw[fH,hj];rfl
   unfold m9 at hv;split at hv
   ·rename_i a he;rw[he]at Ia;cases j with
    |zero=>cases Ia;exact⟨v,hv⟩
    |succ j=>simp at Ia
   ·obtain⟨vals,_,_,hv⟩:=hv;obtain⟨u,_,hu⟩:=hv j _ Ia;exact⟨u,hu⟩
   ·exact hv.elim
  |pt xs=>
   have abr:inj args (cf (c9 p 900))= .o (.box (eN (c9 p 0) xs)):=by
    refine ue (jm.2 ⟨p,_,h0, .inr (fD.2 (.inl ⟨xs,rfl,by rw[bu],by rw[bu]⟩))⟩) (λc' BX=> ?_);obtain⟨p',a',Mj,hh⟩:=jm.1 BX;rw[bu]at hh;rcases hh with ⟨h,_⟩|hh
    ·exact bS h (jG _ _)
    ·rcases fD.1 hh with ⟨zs,hx,h,rfl⟩|⟨zs,j',e',pY,xY,mB,Ia,h,rfl⟩
     ·obtain⟨rfl,_⟩:=qd (by omega) (by omega) (ic h);rw[h0]at Mj;cases Mj;cases hx;rfl
     ·exfalso;simp only[uc,az,aZ]at hs;have h1:=bN (hs.2 a' (aD Mj));have h2:kA a'=zs.length:=by rcases mB with ⟨g,rfl⟩|rfl<;>rfl
      have h3:=(aG.1 Ia).1;have:=qd (by omega) (by omega) (ic h);omega
   obtain⟨vals,_,_,hc⟩:=bI.obj _ _ abr;refine yU (T:=T) (w:=w) (c:=c) (nm:=c9 p 0) (rows xs (.inr rfl)) (λj y hj=> ?_);obtain⟨u,_,hu⟩:=hc j (iW (c9 p 0+j) y) (by rw[fH,hj];rfl);exact⟨u,hu⟩
  |fb xs=>
   obtain⟨b,_,_,hf⟩:∃b,v= .pointer (ab (ad b 0))/\c.K b/\∀(q:au) (x:CV),xs[q]? =ab x->∃u:aR,w.cell? (ad b q)=ab u/\ch T w c.K u x:=by obtain⟨b,h1,h2,h3⟩:=hv;exact⟨b,h1,h2,h3⟩
   exact DI (T:=T) (w:=w) (c:=c) (λq x hq=>by obtain⟨u,_,hu⟩:=hf q x hq;exact hu.fit)
 clear h bI hs;induction args with
 |nil=>trivial
 |cons x args ih=>exact⟨one 0 x rfl,ih (λp y hp=>one (p+1) y hp)⟩
theorem SB{P:b9}{E:eh}(hE:dv P E)(hF:∀g,jf P E g (E.call g))(hm:P.follows .mixedOrders=ae){g:au}{F:Func}{code:Code}(hf:P.funcs[g]? =ab F)(hb:F.body=ab code)
  (hc:((F.name== "runtime.NumGoroutine")|| !pe F.ntmps code)=ah) {spec:ak dO->ar (aL×dp)} (hs:∀args r,spec args=ab (ae,r)->uc args=ae/\(sb args->args.length<=F.ntmps/\∃(R:Type) (it:It R) (K:Ex->St->ar R) (q:R),(∀c∈ib code,dy E it c)/\pf E it code (inj args) K=ab q/\∀e σ,K e σ=ab q->fin E F args e σ=ab r)):jf P E g spec:=by
 intro args r hr w c1 vs bI eM Kd;obtain⟨P_,hs⟩:=hs args r hr;obtain⟨hlen,R,it,K,q,wQ,VU,abA⟩:=hs (JO P_ bI (λp x hp=>(Kd p x hp).imp λ_ h=>h.2));simp only[je,s6]at hc;refine⟨⟨F,hf,by rw[hb];rfl,hc.1⟩, ?_⟩
 refine calls_of_wp hf hb ?_;refine Su (N:=F.ntmps) (σ0:=inj args) (c0:=c1) (w0:=w) hE hF hm code wQ (inj args) K _ VU hc.2 (λe σ' a' w' c' hk eI=> ?_) _ w c1 ⟨bI,⟨λn=> ?_,Cc,rfl⟩, ?_,lE.refl _ _ _,L7.refl _⟩
 ·obtain⟨he,ha,RL,OL,Nt,J_⟩:=SA hE eI.ok eI.sl (abA _ _ hk)
  have ab3:IQ E args r c1 w (xC (RL.map (·.v))) w':=
   ⟨kC σ' c' RL OL,Nj eI.ok Nt,eI.gr.trans (GS eI.ok Nt),GU Nt.sm ha eI.ag,JI Nt⟩
  rcases he with rfl|rfl<;>exact⟨eI.sl.df,_,J_,ab3⟩
 ·rcases Cd (args:=args) (n:=n)with ⟨x,h0,h⟩|h
  ·rw[h];obtain⟨v,hv,uZ⟩:=Kd n x h0;have:(Act.mk (vs++u9 (F.ntmps-vs.size) undef) []).eval (.tmp n)=v:=by show(vs++u9 (F.ntmps-vs.size) undef).getD n undef=v;have hn:=(c_.1 hv).1;rw[dD,Array.getElem?_append,br hn,hv];rfl
   rw[this];exact uZ
  ·rw[h];trivial
 ·simp;omega
theorem GX{P:b9}{T:Tab}{g:au}{spec:ak dO->ar (aL×dp)}(h:∀args,spec args=af):jf P T g spec:=λargs r hr=>by rw[h]at hr;cases hr
end Go.FG

namespace Go.FG
structure mN where
 t:au
 ti:TI
 fs:ak (au×au)
def u6:ak mN->au->ar TI
 |[],_=>af
 |r::rs,t=>bif a_ t r.t then ab r.ti else u6 rs t
def yg:ak mN->au->au->ar (au×au)
 |[],_,_=>af
 |r::rs,t,f=>bif a_ t r.t then(bif r.ti.agg then r.fs[f]? else af)else yg rs t f
def LO(rows:ak mN)(eqs:ak au):Tab:={ty:=u6 rows,fo:=yg rows,eqs:=eqs}
def zB:Ck->aR->aL
 | .i k, .int k' n=>decide (k'=k)&&decide (n=0)
 | .b, .bool x=> !x
 | .s, .string x=>decide (x.size=0)
 | .l _, .slice af 0 0=>ae
 | .o, .nilIface=>ae
 |_,_=>ah
def ZE:ak Ck->ak aR->aL
 |[],[]=>ae
 |k::ks,v::vs=>zB k v&&ZE ks vs
 |_,_=>ah
def isAgg:aR->aL| .agg _=>ae|_=>ah
def sa(P:b9)(n:au):ak Field->ak (au×au)->aL
 |[],[]=>ae
 |f::r,(o,m)::l=>a_ f.offset o&&(match P.info? f.type with|some i=>a_ i.size m|none=>ah)&&nk 0 m&&dZ (o+m) n&&sa P n r l
 |_,_=>ah
def oj:TypeDesc->aL| .struct _=>ah| .array _ _=>ah|_=>ae
def OH(P:b9)(r:mN):aL:=
 match P.info? r.t,P.underlying r.t with
 |some inf,ab d=>a_ inf.size r.ti.ks.length&&a_ inf.bytes r.ti.bytes&&nk 0 r.ti.ks.length&&
  (bif D9 r.ti.ks then(match inf.zero with|some z=>ZE r.ti.ks z.cells.toList&&(!r.ti.agg||isAgg z)|none=>ah)else ae)&&
  (match d with
  | .struct fs=>r.ti.agg&&sa P r.ti.ks.length fs.toList r.fs
  | .int k=> !r.ti.agg&&na r.ti.ks [.i k]
  | .bool=> !r.ti.agg&&na r.ti.ks [.b]
  | .string=> !r.ti.agg&&na r.ti.ks [.s]
  | .slice e=> !r.ti.agg&&na r.ti.ks [.l e]
  |d=> !r.ti.agg&&na r.ti.ks [.o]&&oj d)
 |_,_=>ah
theorem YQ{k:Ck}{v:aR}(h:zB k v=ae):v=fL k:=by
 cases k<;>cases v<;>simp_all [zB,fL]
 ·rfl
 ·rename_i a n c;cases a<;>cases n<;>cases c<;>simp_all
theorem L6:∀{ks:ak Ck} {vs:ak aR},ZE ks vs=ae->vs=ks.map fL
 |[],[],_=>rfl
 |k::ks,v::vs,h=>by
  simp only[ZE,az]at h;rw[YQ h.1,L6 h.2];rfl
 |[],_::_,h=>by cases h
 |_::_,[],h=>by cases h
theorem Sk:∀{x y:Ck},VF x y=ae->x=y:=by intro x y h;cases x<;>cases y<;>simp_all [VF]
theorem kT:∀{a b:ak Ck},na a b=ae->a=b
 |[],[],_=>rfl
 |x::a,y::b,h=>by
  simp only[na,az]at h;rw[Sk h.1,kT h.2]
 |[],_::_,h=>by cases h
 |_::_,[],h=>by cases h
theorem qY{P:b9}{n:au}:∀{fs:ak Field} {l:ak (au×au)},sa P n fs l=ae->
  fs.mapM (λf=>(P.info? f.type).map λi=>(f.offset,i.size))=ab l/\∀(f o m:au),l[f]? =ab (o,m)->∃fd,fs[f]? =ab fd/\fd.offset=o/\(P.info? fd.type).map (·.size)=ab m/\m≠0/\o+m<=n
 |[],[],_=>⟨rfl,λf o m h=>by simp at h⟩
 |f::r,(o,m)::l,h=>by
  simp only[sa,az]at h;obtain⟨⟨⟨⟨h1,h2⟩,h3⟩,h4⟩,h5⟩:=h;obtain⟨i1,i2⟩:=qY h5;have e1:=aJ h1;cases hi:P.info? f.type with
  |none=>rw[hi]at h2;cases h2
  |some i=>
   rw[hi]at h2;have e2:i.size=m:=aJ h2;have e3:0<m:=by simpa [uN]using h3
   have e4:=bN h4;refine⟨by simp[MQ,hi,i1,e1,e2],λg o' m' hg=> ?_⟩
   cases g with
   |zero=>cases hg;exact⟨f,rfl,e1,by rw[hi];exact o6 ab e2,by omega,e4⟩
   |succ g=>exact i2 g o' m' hg
 |[],_::_,h=>by cases h
 |_::_,[],h=>by cases h
theorem CS:∀{rows:ak mN} {t:au} {ti:TI},u6 rows t=ab ti->∃r∈rows,r.t=t/\r.ti=ti/\∀f,yg rows t f=(bif r.ti.agg then r.fs[f]? else af)
 |[],_,_,h=>by cases h
 |r::rs,t,ti,h=>by
  unfold u6 at h;cases hb:a_ t r.t with
  |true=>rw[hb]at h;cases h;exact⟨r,cR ..,(aJ hb).symm,rfl,λf=>by simp[yg,hb]⟩
  |false=>rw[hb]at h;obtain⟨r',h1,h2,h3,h4⟩:=CS (rows:=rs) h;exact⟨r',b_ _ h1,h2,h3,λf=>by unfold yg;rw[hb];exact h4 f⟩
theorem Fw:∀{rows:ak mN} {t f:au} {o n:au},yg rows t f=ab (o,n)->∃ti,u6 rows t=ab ti/\ti.agg=ae
 |[],_,_,_,_,h=>by cases h
 |r::rs,t,f,o,n,h=>by
  unfold yg at h;unfold u6;cases hb:a_ t r.t with
  |true=>
   rw[hb]at h;refine⟨r.ti,rfl, ?_⟩
   cases ha:r.ti.agg with
   |true=>rfl
   |false=>rw[ha]at h;cases h
  |false=>rw[hb]at h;exact Fw (rows:=rs) h
def AQ(P:b9):au->ak Ck->ak Field->aL
 |_,[],[]=>ae
 |j,k::ks,f::fs=>f.name != "_" &&a_ f.offset j&&(match P.underlying f.type,k with|some (.int q), .i q'=>decide (q=q')|some .bool, .b=>ae|some .string, .s=>ae|_,_=>ah)&&AQ P (j+1) ks fs
 |_,_,_=>ah
def PV(P:b9)(rows:ak mN)(t:au):aL:=
 !P.eqGuardType P.depth t&& !P.stoodInHeld t&&(match u6 rows t,P.underlying t with|some ti,ab (.struct fs)=>AQ P 0 ti.ks fs.toList|_,_=>ah)
theorem sG{P:b9}{t:au}{d:TypeDesc}(hd:P.underlying t=ab d)(hp:oj d=ae){cs:cG aR}{j:au}{v:aR}(hj:cs[j]? =ab v)(w:bf):(part t cs j).run P w= .ok v w:=by cases d<;>simp_all [part,Go.isAgg,run_underlying hd,oj]
theorem uz{P:b9}(w:bf):∀(fs:ak Field) (ks:ak Ck) (pre Ei xs ys:ak AV) (r:aL),AQ P pre.length ks fs=ae->Ei.length=pre.length->xs.map Ay=ks->ys.map Ay=ks->Nh xs ys=ab r->
  (Gy 9999 ((pre++xs).map jq).toArray ((Ei++ys).map jq).toArray fs).run P w= .ok r w
 |[],[],pre,Ei,xs,ys,r,_,_,hx,hy,he=>by
  have:xs=[]:=by simpa using hx
  subst this;have:ys=[]:=by simpa using hy
  subst this;cases he;rfl
 |f::fs,k::ks,pre,Ei,x::xs,y::ys,r,h,hl,hx,hy,he=>by
  simp only[AQ,az]at h;obtain⟨⟨⟨h1,h2⟩,h3⟩,h4⟩:=h;have h2:=aJ h2;have h1:f.name≠ "_" :=by simpa using h1
  simp only[dW,Pz]at hx hy;have gx:((pre++x::xs).map jq).toArray[f.offset]? =ab (jq x):=by rw[h2];simp
  have gy:((Ei++y::ys).map jq).toArray[f.offset]? =ab (jq y):=by rw[h2,<-hl];simp
  have ih:=λr' he'=>uz w fs ks (pre++[x]) (Ei++[y]) xs ys r' (by simpa using h4) (by simp[hl]) hx.2 hy.2 he';simp only[bR,qq]at ih
  have fin:∀{d:TypeDesc} {a b:aR} {q t:aL},P.underlying f.type=ab d->oj d=ae->jq x=a->jq y=b->(Op.equalIn 9999 f.type a b).run P w= .ok q w->Nh xs ys=ab t->r=(q&&t)->
    (Gy 9999 ((pre++x::xs).map jq).toArray ((Ei++y::ys).map jq).toArray (f::fs)).run P w= .ok r w:=by
   intro d a b q t hd hp ha hb hq ht hr
   subst ha;subst hb;subst hr
   simp only[Gy,br h1,bJ,sG hd hp gx w,sG hd hp gy w,ba,hq,kc]
   cases q with
   |false=>rfl
   |true=>simpa using ih t ht
  cases hu:P.underlying f.type with
  |none=>rw[hu]at h3;cases h3
  |some d=>
   rw[hu]at h3;cases x<;>cases y<;>simp only[Nh]at he<;>try (cases he;done)
   ·rename_i k1 n1 k2 n2;split at he
    ·rename_i J3;subst J3;split at he
     ·rename_i t ht;cases he;have hk:k= .i k1:=hx.1.symm;subst hk;cases d<;>simp at h3;subst h3;exact fin hu rfl rfl rfl (run_equalIn_int w 9998 f.type _ _ _ _ hu) ht rfl
     ·cases he
    ·cases he
   ·split at he
    ·rename_i t ht;cases he;have hk:k= .b:=hx.1.symm;subst hk;cases d<;>simp at h3;exact fin hu rfl rfl rfl (run_equalIn_bool' w 9998 f.type _ _ hu) ht rfl
    ·cases he
   ·split at he
    ·rename_i t ht;cases he;have hk:k= .s:=hx.1.symm;subst hk;cases d<;>simp at h3;exact fin hu rfl rfl rfl (run_equalIn_string w 9998 f.type _ _ hu) ht rfl
    ·cases he
 |[],_::_,_,_,_,_,_,h,_,_,_,_=>by cases h
 |_::_,[],_,_,_,_,_,h,_,_,_,_=>by cases h
 |_::_,_::_,_,_,[],_,_,_,_,hx,_,_=>by cases hx
 |_::_,_::_,_,_,_::_,[],_,_,_,_,hy,_=>by cases hy
theorem Sr{P:b9}{rows:ak mN}{eqs:ak au}(h:rows.all (OH P)=ae)(h2:eqs.all (PV P rows)=ae):dv P (LO rows eqs):=by
 have key:∀t ti,u6 rows t=ab ti->∃r,r.t=t/\r.ti=ti/\OH P r=ae/\∀f,yg rows t f=(bif r.ti.agg then r.fs[f]? else af):=λt ti ht=>by obtain⟨r,h1,h2,h3,h4⟩:=CS ht;exact⟨r,h2,h3,aZ.1 h r h1,h4⟩
 have open_:∀r,OH P r=ae->∃inf d,P.info? r.t=ab inf/\P.underlying r.t=ab d/\inf.size=r.ti.ks.length/\inf.bytes=r.ti.bytes/\0<r.ti.ks.length/\
   (D9 r.ti.ks=ae->∃z,inf.zero=ab z/\z.cells.toList=r.ti.ks.map fL/\(r.ti.agg=ae->isAgg z=ae))/\
   ((∃fs,d= .struct fs/\r.ti.agg=ae/\sa P r.ti.ks.length fs.toList r.fs=ae)\/(r.ti.agg=ah/\((∃k,r.ti.ks=[.i k]/\d= .int k)\/(r.ti.ks=[.b]/\d= .bool)\/(r.ti.ks=[.s]/\d= .string)\/(∃e,r.ti.ks=[.l e]/\d= .slice e)\/(r.ti.ks=[.o]/\oj d=ae)))):=by
  intro r hr
  unfold OH at hr
  split at hr
  ·rename_i inf d h1 h2;simp only[az]at hr;obtain⟨⟨⟨⟨k1,k2⟩,k3⟩,k4⟩,k5⟩:=hr;refine⟨inf,d,h1,h2,aJ k1,aJ k2,by simpa [uN]using k3,λhn=> ?_, ?_⟩
   ·rw[hn,aw]at k4;split at k4
    ·rename_i z hz;simp only[az,dg,dt]at k4;exact⟨z,hz,L6 k4.1,λha=>by rcases k4.2 with h|h;(·rw[ha]at h;cases h);exact h⟩
    ·cases k4
   ·cases d<;>simp only[az,dt]at k5;case struct fs=>exact .inl ⟨fs,rfl,k5⟩
    case int k=>exact .inr ⟨k5.1, .inl ⟨k,kT k5.2,rfl⟩⟩
    case bool=>exact .inr ⟨k5.1, .inr (.inl ⟨kT k5.2,rfl⟩)⟩
    case string=>exact .inr ⟨k5.1, .inr (.inr (.inl ⟨kT k5.2,rfl⟩))⟩
    case slice e=>exact .inr ⟨k5.1, .inr (.inr (.inr (.inl ⟨e,kT k5.2,rfl⟩)))⟩
    all_goals exact .inr ⟨k5.1.1, .inr (.inr (.inr (.inr ⟨kT k5.1.2,k5.2⟩)))⟩
  ·cases hr
 refine⟨λt ti ht=> ?_,λt ti ht=> ?_,λt f o n hf=>Fw hf,λt ti ht ha fs hu=> ?_,λt ti he ht w x y xs ys r hr hx hy=> ?_,λ_ _ h=>by cases h⟩
 ·obtain⟨r,rfl,rfl,hr,_⟩:=key t ti ht;obtain⟨inf,d,h1,h2,h3,h4,h5,h6,h7⟩:=open_ r hr;refine⟨inf,h1,h3,h4,h5,λhn=> ?_⟩
  obtain⟨z,z1,z2,z3⟩:=h6 hn;have hc:z.cells=(r.ti.ks.map fL).toArray:=by rw[<-z2]
  refine⟨z,z1,hc,λha=> ?_⟩
  have:=z3 ha;cases z<;>simp[isAgg]at this;rw[show _=_ from hc.symm];rfl
 ·obtain⟨r,rfl,rfl,hr,Bf⟩:=key t ti ht;obtain⟨inf,d,h1,h2,h3,h4,h5,h6,h7⟩:=open_ r hr;refine⟨d,h2,λha=> ?_,λha=> ?_⟩
  ·rcases h7 with ⟨fs,rfl,_,hb⟩|⟨hn,_⟩
   ·refine⟨fs,rfl,λf o n hf=> ?_⟩
    have hf:yg rows r.t f=ab (o,n):=hf;rw[Bf,ha]at hf;obtain⟨fd,k1,k2⟩:=(qY hb).2 f o n hf;exact⟨fd,by simpa using k1,k2⟩
   ·rw[ha]at hn;cases hn
  ·rcases h7 with ⟨fs,_,hn,_⟩|⟨_,h|h|h|h|⟨h,hb⟩⟩
   ·rw[ha]at hn;cases hn
   ·exact .inl h
   ·exact .inr (.inl h)
   ·exact .inr (.inr (.inl h))
   ·exact .inr (.inr (.inr (.inl h)))
   ·refine .inr (.inr (.inr (.inr ⟨h, ?_⟩)));cases d<;>first|rfl|cases hb
 ·obtain⟨r,rfl,rfl,hr,Bf⟩:=key t ti ht;obtain⟨inf,d,h1,h2,h3,h4,h5,h6,h7⟩:=open_ r hr;rw[h2]at hu;cases hu;rcases h7 with ⟨fs',he,_,hb⟩|⟨hn,_⟩
  ·cases he;refine⟨r.fs,(qY hb).1,λf o n hf=> ?_⟩
   have hf:yg rows r.t f=ab (o,n):=hf;rw[Bf,ha]at hf;exact hf
  ·rw[ha]at hn;cases hn
 ·have hm:t∈eqs:=by
   have:∀l:ak au,jO t l=ae->t∈l:=by
    intro l;induction l with
    |nil=>intro h;cases h
    |cons a l ih=>
     intro h;simp only[jO,dg]at h;rcases h with h|h
     ·rw[aJ h];exact cR
     ·exact b_ _ (ih h)
   exact this _ he
  have hb:=aZ.1 h2 t hm;simp only[PV,az,dt]at hb;obtain⟨⟨b1,b2⟩,b3⟩:=hb;rw[show u6 rows t=ab ti from ht]at b3;cases hu:P.underlying t with
  |none=>rw[hu]at b3;cases b3
  |some d=>
   rw[hu]at b3;cases d<;>try (cases b3;done)
   rename_i fs;have Bf:P.fieldsOf t=fs:=by unfold Program.fieldsOf;rw[hu]
   have oK:P.underlying t=ab (.struct (P.fieldsOf t)):=by rw[Bf];exact hu
   have key:(Op.equalIn 10000 t (.agg (xs.map jq).toArray) (.agg (ys.map jq).toArray)).run P w= .ok r w:=by rw[run_equalIn_agg w 9999 t _ _ oK b2,Bf];exact uz w fs.toList ti.ks [] [] xs ys r b3 rfl hx hy hr
   refine⟨?_, ?_⟩
   ·simp only[bJ,run_eqGuard_agg w .eql t x y _ _ b1,ba,run_eql_struct,key]
   ·simp only[bJ,run_eqGuard_agg w .neq t x y _ _ b1,ba,run_neq_struct,key]
def YH(rows:ak mN)(eqs:ak au)(JP:ak (au×au)):Tab:={LO rows eqs with JP:=λt f=>JP.any λp=>a_ t p.1&&a_ f p.2}
def flB(P:b9)(p:au×au):aL:=
 match P.underlying p.1 with
 |some (.struct fs)=>(match fs[p.2]? with|some fd=>(match P.underlying fd.type with|some d=>oj d|none=>ah)|none=>ah)
 |_=>ah
theorem R6{P:b9}{t:au}{d:TypeDesc}(h:P.underlying t=ab d)(hb:oj d=ae)(w:bf):(Go.isAgg t).run P w= .ok ah w:=by unfold Go.isAgg;rw[bJ,run_underlying h,ba];cases d<;>first|rfl|cases hb
theorem Nf{P:b9}{rows:ak mN}{eqs:ak au}{JP:ak (au×au)}(h:dv P (LO rows eqs))(hf:JP.all (flB P)=ae):dv P (YH rows eqs JP):=by
 refine⟨h.info,h.desc,h.fo,h.pl,h.eq,λt f hq fs fd hu hd w=> ?_⟩
 obtain⟨p,hp,he⟩:=List.any_eq_true.1 (show(JP.any λp=>a_ t p.1&&a_ f p.2)=ae from hq);rw[az]at he;have hb:=aZ.1 hf p hp;unfold flB at hb;rw[<-aJ he.1,<-aJ he.2,hu]at hb;dsimp only at hb;rw[hd]at hb;dsimp only at hb;split at hb
 ·rename_i d h2;exact R6 h2 hb w
 ·cases hb
end Go.FG

