/- An evaluator for the part of the language that this program uses, proved sound over the model: states told as values and lists; what an evaluation tells, the call does. No condition. -/
import Derived.Calls
import Derived.Orders
import Derived.Below
import Derived.Laws.AppendOwn
import Derived.Laws.Slices
import Derived.Laws.StructEq
import Derived.Laws.Tables
import Derived.Laws.MakeOwn
import Derived.Laws.IdiomStrings
import Derived.Laws.BytesArg
import Derived.Laws.NewFold
import Derived.SizedLaws
import Derived.Carry
import Derived.ProofKit
import Derived.KernelRfl
import Derived.Laws.Strings
import Derived.Test.YtjejmgffiilmlaaGreatCorea
set_option linter.unusedVariables false
set_option linter.unusedSimpArgs false
set_option maxRecDepth 100000
open Array renaming ext'->rI,length_toList->dK,getElem?_toList->cO,getElem?_eq_some_iff->dN,getElem?_extract->dS,getElem?_map->My,getElem?_append_left->CQ,toList_map->zd,eq_empty_of_size_eq_zero->zc,getD_eq_getD_getElem?->ed,getElem?_replicate->CR,replicate->zy
open Bool renaming false->aq,true->ak,or_true->Iw,and_eq_true->aK,and_true->ph,false_eq_true->dj,not_eq_true'->dD,not_eq_false'->me,or_eq_true->dE,and_false->Gk,not_false->bX,true_or->ze,or_eq_false_iff->ie
open Go renaming World->bF,Value->bg,Program->cQ,Oper->eV,IntKind->mI,Operand->dn
open Go.Act renaming put->TA
open Go.Builtin renaming firstCells->eU,lenOf->oX,append_->gY,zeroCells->fc
open Go.Exit renaming inBlock->Gn
open Go.Instr renaming makeFunc->TB,loadAt->wR,sureAddr->tG
open Go.IntKind renaming u8->bk
open Go.Op renaming eqFields->MB
open Go.Oper renaming wp->MC,upon_enter->TC
open Go.Region renaming wanted->ua,binds->mg,ready->vm
open Go.Result renaming andThen_ok->bB
open Go.Sem renaming run_bind->cg,run_pure->cL,run->mJ,run_ite->mF
open List renaming mem_of_getElem?->aQ,map_append->dh,map_cons->eW,map_nil->Av,mem_append->a_,mem_map->cG,mem_singleton->aZ,mem_append_left->bN,mem_append_right->bH,getElem?_append_left->dg,getElem?_append_right->cZ,length_append->bO,eq_nil_of_length_eq_zero->fQ,length_map->bP,getElem?_eq_some_iff->aU,mem_cons->cz,getElem?_of_mem->bZ,getElem_mem->bD,map_toArray->Cf,mem_cons_self->du,mem_cons_of_mem->cU,not_mem_nil->jz,getElem?_cons_succ->dF,mem_flatMap->bG,length_eq_one_iff->gD,getElem?_cons_zero->rJ,flatMap_cons->wS,nodup_append->dX,getElem?_map->bE,nodup_cons->j5,getD_eq_getElem?_getD->cK,nil_append->gg,all_eq_true->bn,map_map->jU,append_nil->di,cons_append->Ar,length_singleton->bw,range'->lJ,length_cons->c5,getElem?_eq_none->kB,append_assoc->cj,take_append_of_le_length->nT,take_length->fD,singleton_append->tK,length_nil->jr,getElem?_take->dR,countP_cons->kW,range->cM,range_eq_range'->PK,find?_eq_none->qa,length_set->cw,mem_or_eq_of_mem_set->gT,mem_filter->dq,mapM_cons->Ui,getD_cons_succ->uC
open List.cons renaming injEq->XO
open Nat renaming lt_of_lt_of_le->jb,mul_le_mul_right->b7,add_mul->da,add_assoc->lC,eq_of_beq_eq_true->aW,le_refl->cu,zero_le->bK,div_lt_iff_lt_mul->wF,mod_lt->B3,div_add_mod->Ig,mul_comm->CY,zero_add->bT,add_comm->iK,beq->bA,le_of_ble_eq_true->cC,add_zero->wT,blt->pZ,blt_eq->zh,sub_self->wU,lt_or_ge->qw,le_trans->c_,ble_eq_true_of_le->IE,ble->e9,sub_zero->uF
open Option renaming some->aj,getD_some->wV,none->ao
open Option.some renaming inj->aF,injEq->jf
open Prod.mk renaming inj->bU,injEq->iR
open _root_ renaming Nat->aG,Bool->aY,List->az,if_pos->bC,if_neg->bL,absurd->cq,Array->de,Int->aA,decide_eq_true_eq->bf,Option->aD,cond_true->ay,cond_false->aC,decide_eq_true->aJ,decide_eq_false->aM,of_decide_eq_true->b9,congrArg->ml
namespace Go.FG
theorem pD{E:fB}{w:bF}{K:aG->Prop}{p:Pl}{xs:aX}{el:aG}{te:TI}(ht:E.ty el=aj te)(hs:p.sz=te.ks.length)(mc:∀y∈xs,y.map CV.kd=te.ks)
  (h:iT w p xs (λ_ _ u x=>cY E w K u x)) (hK:p.nil=aq->K p.blk):cY E w K (lj p) (.l el xs):=by
 cases hq:p.nil with
 |true=>rw[mV hq,(h.nil hq).1];exact .nl _ _ _
 |false=>
  rw[eL hq,h.n];obtain⟨vals,hb,QF,hmx,_,hc⟩:=h.mem hq;have Hc:=λi y j x (h1:xs[i]? =aj y) (h2:y[j]? =aj x)=>hc i y j x h1 h2;refine .l el xs p.blk p.off p.cap te (λi j=>(vals[p.off+i*p.sz+j]?).getD undef) ht (by rw[<-h.n];exact QF) hmx (hK hq) mc (λi j y x h1 h2=> ?_) (λi j y x h1 h2=> ?_)
  ·obtain⟨u,hu,_⟩:=Hc i y j x h1 h2;rw[hb.cell,<-hs,hu];rfl
  ·obtain⟨u,hu,hr⟩:=Hc i y j x h1 h2;simp only[hu,wV];exact hr
theorem wC{E:fB}{w:bF}{K:aG->Prop}{G:aG->aG->Pl}{i j:aG}{u:bg}{x:CV}(h:XC E w G i j u x)(hK:tc x=ak->(G i j).nil=aq->K (G i j).blk):cY E w K u x:=by
 cases x with
 |l e ys=>obtain⟨rfl,t,ht,hp,hs,mc,fS⟩:=h;exact pD ht hs mc (fS.frame (λ_=>rfl) (λi j y x u hi hj hr=>kj (gV hp (mc y (aQ hi)) hj) hr)) (hK rfl)
 |i=>exact kj rfl h
 |b=>exact kj rfl h
 |s=>exact kj rfl h
section
variable {P:cQ} {E:fB} {σ:St} {a:Act} {w:bF} {c:eK} {o:eV} {nm:aG} {e:rX}
structure Iv (E:fB) (σ:St) (w:bF) (c:eK) (te:TI) (v:bg) (B7:aY) (xs:aX) (b:az aG) (p:Pl) (g:aG->aG->Pl):Prop where
 v:v=lj p
 sz:p.sz=te.ks.length
 sh:∀y∈xs,y.map CV.kd=te.ks
 at_:iT w p xs (λi j u x=>if B7=ak then XC E w g i j u x else cY E w c.K u x)
 inn:B7=ak->D3 p g xs
 own:p.nil=aq->∃nm ob,nm∈b/\σ (cW nm)= .o ob/\fa c nm ob p.blk
 owni:B7=ak->∀i j,fV xs i j->(g i j).nil=aq->∃nm ob,nm∈b/\σ (cW nm)= .o ob/\fa c nm ob (g i j).blk
 kn:∀nm∈b,∃ob,σ (cW nm)= .o ob
def K1(σ:St)(c:eK)(D:az (aG×Obj))(q:aG):Prop:=c.K q\/∃n e xs ob,(n,Obj.fE e xs)∈D/\σ (cW n)= .o ob/\fa c n ob q
structure qH (E:fB) (σ:St) (w:bF) (c:eK) (te:TI) (b:az aG) (zr:aY) (ys:aX) (D:az (aG×Obj)) (news:az bg) (gx:aG->aG->Pl):Prop where
 sh:∀y∈ys,y.map CV.kd=te.ks
 cellX:zr=ak->∀(i:aG) (y:az CV) (j:aG) (x:CV),ys[i]? =aj y->y[j]? =aj x->∃u:bg,news[i*te.ks.length+j]? =aj u/\XC E w gx i j u x
 cellH:zr=aq->∀(i:aG) (y:az CV) (j:aG) (x:CV),ys[i]? =aj y->y[j]? =aj x->∃u:bg,news[i*te.ks.length+j]? =aj u/\cY E w (K1 σ c D) u x
 own:zr=ak->∀i j,fV ys i j->(gx i j).nil=aq->∃n ob,(n,Obj.dead)∈D/\σ (cW n)= .o ob/\fa c n ob (gx i j).blk
 one:zr=ak->∀i j i' j',fV ys i j->fV ys i' j'->(gx i j).nil=aq->(gx i' j').nil=aq->(gx i j).blk=(gx i' j').blk->i=i'/\j=j'
 D:∀n x,(n,x)∈D->n∉b/\(∃ob,σ (cW n)= .o ob)/\(x= .dead\/(zr=aq/\∃e xs,x= .fE e xs/\cY E w (K1 σ c D) (lj (c.P n)) (.l e xs)/\(c.P n).n=xs.length/\∃ti,E.ty e=aj ti/\(c.P n).sz=ti.ks.length))
theorem Ds(b8:Ok E σ w c)(dA:eZ E σ a w c)(hd:∀d,o.dst=aj d->d<a.tmps.size){sF el:aG}{te:TI}(ht:E.ty el=aj te)(hf:σ (cW sF)= .jE)(jD:sF<900000000)
  {v:bg} {B7 zr:aY} {xs ys:aX} {b:az aG} {p p':Pl} {g gx:aG->aG->Pl} {D2:az (aG×Obj)} {news:az bg} {w':bF}
  (hB:Iv E σ w c te v B7 xs b p g) (hM:qH E σ w c te b zr ys D2 news gx) (hA:aan w w' p p' ys.length news) (hr:(execOp a.eval o).run P w= .ok (.value (lj p')) w'):
  gA P E σ a w c o (nN b++(jO D2++[(cW sF,eu.o (.row el (B7&&zr) (xs++ys)))])++dw o (.v aq [.own sF])):=by
 have abt:(B7&&zr)=ak->B7=ak/\zr=true:=λh=>by simpa using h
 generalize abr:(B7&&zr)=MT at abt;let D:az (aG×Obj):=Dg b++(D2++[(sF, .row el MT (xs++ys))])
 have hD:nN b++(jO D2++[(cW sF,eu.o (.row el MT (xs++ys)))])=jO D:=by rw[AR];simp only[D,jO,dh,eW,Av]
 rw[hD];have mem:∀m x,(m,x)∈D->(m∈b/\x= .dead)\/(m,x)∈D2\/(m=sF/\x= .row el MT (xs++ys)):=by
  intro m x hm;rcases a_.1 hm with hm|hm
  ·obtain⟨q,hq,h⟩:=cG.1 hm;cases h;exact .inl ⟨hq,rfl⟩
  ·rcases a_.1 hm with hm|hm
   ·exact .inr (.inl hm)
   ·rw[aZ]at hm;cases hm;exact .inr (.inr ⟨rfl,rfl⟩)
 have Lu:∀m,m∈b->tF D m:=λm hm=>⟨.dead,bN _ (cG.2 ⟨m,hm,rfl⟩)⟩
 have Qu:∀m x,(m,x)∈D2->tF D m:=λm x hm=>⟨x,bH _ (bN _ hm)⟩
 have aeP:tF D sF:=⟨_,bH _ (bH _ (aZ.2 rfl))⟩
 have F1:p'.nil=aq->p'.blk=w.heap.size\/∃m ob,m∈b/\σ (cW m)= .o ob/\fa c m ob p'.blk:=by
  intro hn;rcases hA.blk hn with ⟨h1,h2⟩|h
  ·rw[h2];exact .inr (hB.own h1)
  ·exact .inl h
 have Dne:∀n x ob q,(n,x)∈D2->σ (cW n)= .o ob->fa c n ob q->¬(p'.nil=aq/\q=p'.blk):=by
  rintro n x ob q hx mq py ⟨hn,rfl⟩;have U1:=vp.lt b8 ⟨n,ob,mq,py⟩;rcases F1 hn with h|⟨m,ob',h1,h2,h3⟩
  ·omega
  ·have:=b8.sep n ob m ob' _ mq h2 py h3;subst this;exact(hM.D n x hx).1 h1
 have Kne:∀q,c.K q->¬(p'.nil=aq/\q=p'.blk):=by
  rintro q hq ⟨hn,rfl⟩;have U1:=b8.lt _ hq;rcases F1 hn with h|⟨m,ob',h1,h2,h3⟩
  ·omega
  ·exact b8.kk m ob' _ h2 h3 hq
 have Gne:B7=ak->∀i j,fV xs i j->(g i j).nil=aq->¬(p'.nil=aq/\(g i j).blk=p'.blk):=by
  rintro hx i j hh hn ⟨j9,he⟩;obtain⟨m,ob,q1,q2,q3⟩:=hB.owni hx i j hh hn;have U1:=vp.lt b8 ⟨m,ob,q2,q3⟩;rcases hA.blk j9 with ⟨h1,h2⟩|h
  ·exact(hB.inn hx).out i j hh hn h1 (he.trans h2)
  ·omega
 let K':aG->Prop:=λq=>c.K q\/(MT=aq/\jH (tF D) σ c q/\¬(p'.nil=aq/\q=p'.blk))
 have aer:∀q,K' q->q<w.heap.size:=by
  rintro q (h|⟨_,h,_⟩)
  ·exact b8.lt q h
  ·exact vp.lt b8 h.own
 have aes:∀q,K' q->¬(p'.nil=aq/\q=p'.blk):=by
  rintro q (h|⟨_,_,h⟩)
  ·exact Kne q h
  ·exact h
 have F3:∀q,K' q->w'.heap[q]? =w.heap[q]? :=λq hq=>hA.old q (aer q hq) (λhn he=>aes q hq ⟨hn,he⟩);have F4:MT=aq->∀q,K1 σ c D2 q->K' q:=by
  rintro hR q (h|⟨n,e',zs,ob,h1,h2,h3⟩)
  ·exact .inl h
  ·exact .inr ⟨hR,⟨n,ob,Qu n _ h1,h2,h3⟩,Dne n _ ob q h1 h2 h3⟩
 have F5:MT=aq->B7=ak->∀i j,fV xs i j->(g i j).nil=aq->K' (g i j).blk:=by intro hR hx i j hh hn;obtain⟨m,ob,q1,q2,q3⟩:=hB.owni hx i j hh hn;exact .inr ⟨hR,⟨m,ob,Lu m q1,q2,q3⟩,Gne hx i j hh hn⟩
 have F6:MT=aq->zr=ak->∀i j,fV ys i j->(gx i j).nil=aq->K' (gx i j).blk:=by intro hR hx i j hh hn;obtain⟨n,ob,q1,q2,q3⟩:=hM.own hx i j hh hn;exact .inr ⟨hR,⟨n,ob,Qu n _ q1,q2,q3⟩,Dne n _ ob _ q1 q2 q3⟩
 let G':aG->aG->Pl:=λi j=>if i<xs.length then g i j else gx (i-xs.length) j
 have G'l:∀i j,i<xs.length->G' i j=g i j:=λi j h=>bC h;have G'r:∀i j,¬i<xs.length->G' i j=gx (i-xs.length) j:=λi j h=>bL h;have QR:∀i j,i<xs.length->fV (xs++ys) i j->fV xs i j:=by rintro i j hi ⟨y,x,h1,h2,h3⟩;rw[dg hi]at h1;exact⟨y,x,h1,h2,h3⟩
 have Vf:∀i j,¬i<xs.length->fV (xs++ys) i j->fV ys (i-xs.length) j:=by rintro i j hi ⟨y,x,h1,h2,h3⟩;rw[cZ (by omega)]at h1;exact⟨y,x,h1,h2,h3⟩
 let c':eK:=⟨λm=>if m=sF then p' else c.P m,λm=>if m=sF then G' else c.G m,K'⟩
 have hP:c'.P sF=p':=bC rfl;have hG:c'.G sF=G':=bC rfl;have hAg:jh σ c c':=λm hm=>by
  have:m≠sF:=by rintro rfl;rcases hm with h|h;exact h hf;omega
  exact⟨bL this,bL this⟩
 have afu:MT=ak->∀i j,fV (xs++ys) i j->(G' i j).nil=aq->¬(p'.nil=aq/\(G' i j).blk=p'.blk)/\jH (tF D) σ c (G' i j).blk:=by
  intro hR i j hh hn;obtain⟨r1,r2⟩:=abt hR;by_cases hi:i<xs.length
  ·rw[G'l i j hi]at hn⊢;obtain⟨m,ob,q1,q2,q3⟩:=hB.owni r1 i j (QR i j hi hh) hn;exact⟨Gne r1 i j (QR i j hi hh) hn,m,ob,Lu m q1,q2,q3⟩
  ·rw[G'r i j hi]at hn⊢;obtain⟨n,ob,q1,q2,q3⟩:=hM.own r2 _ j (Vf i j hi hh) hn;exact⟨Dne n _ ob _ q1 q2 q3,n,ob,Qu n _ q1,q2,q3⟩
 have hlen:∀y∈xs++ys,y.map CV.kd=te.ks:=λy hy=>(a_.1 hy).elim (hB.sh y) (hM.sh y);refine Jr b8 dA hd (D:=D) (c':=c') (w':=w') hAg ?_ ?_ ?_ ?_ (λq h=> .inl h) ?_ (λq hq=>jb (aer q hq) hA.size) ?_ hA.size hA.os hA.tape hA.output ?_ ?_ hr
 ·intro m x hm;rcases mem m x hm with ⟨_,rfl⟩|UW|⟨rfl,rfl⟩
  ·trivial
  ·obtain⟨_,⟨ob,mq⟩,hx⟩:=hM.D m x UW;rcases hx with rfl|⟨TU,e',zs,rfl,q1,q2,q3⟩
   ·trivial
   ·have hR:MT=false:=by rw[<-abr,TU];simp
    obtain⟨a1,a2⟩:=hAg m (.inl (by rw[mq];simp));show cY E w' K' (lj (c'.P m)) _/\(c'.P m).n=_/\_;rw[a1];exact⟨q1.frame (λq hq=>F3 q (F4 hR q hq)) (F4 hR),q2,q3⟩
  ·refine⟨⟨te,ht,by rw[hP,hA.sz];exact hB.sz,hlen⟩, ?_,λhR=> ?_⟩
   ·rw[hP,hG];refine⟨by rw[hA.n,hB.at_.n,bO],λhn=> ?_,λhn=> ?_⟩
    ·obtain⟨n1,n2,n3⟩:=hA.nil hn;refine⟨?_,n1⟩
     have e1:xs.length=0:=by rw[<-hB.at_.n];exact n2
     rw[fQ e1,fQ n3];rfl
    ·obtain⟨iM,m1,m2,m3,m4,m5,m6⟩:=hA.mem hn;refine⟨iM,m1,m2,m3,m4,λi y j x hy hx=> ?_⟩
     have hj:j<te.ks.length:=by rw[<-hlen y (aQ hy),bP];exact(aU.1 hx).1
     by_cases hi:i<xs.length
     ·rw[dg hi]at hy;have hpn:p.nil=false:=by
       cases hq:p.nil with
       |false=>rfl
       |true=>have:=(hB.at_.nil hq).1;subst this;simp at hi
      obtain⟨vals,k1,k2,k3,k4,k5⟩:=hB.at_.mem hpn;obtain⟨u,hu,hR⟩:=k5 i y j x hy hx;have hk:i*p.sz+j<p.n*p.sz:=by have:(i+1)*p.sz<=p.n*p.sz:=b7 _ (by rw[hB.at_.n];exact hi);rw[da]at this;rw[hB.sz]at this⊢;omega
      refine⟨u, ?_, ?_⟩
      ·rw[hA.sz,lC];refine m5 _ u hk ?_;rw[k1.cell,<-lC];exact hu
      ·cases hxb:B7 with
       |true=>
        rw[hxb,bC rfl]at hR;cases Va:MT with
        |true=>
         rw[bC rfl];have Of:XC E w' g i j u x:=hR.frame (λhl j9=>hA.old _ (by obtain⟨m,ob,_,q2,q3⟩:=hB.owni hxb i j ⟨y,x,hy,hx,hl⟩ j9;exact vp.lt b8 ⟨m,ob,q2,q3⟩) (λabC he=>Gne hxb i j ⟨y,x,hy,hx,hl⟩ j9 ⟨abC,he⟩));cases x with
         |l e1 z1=>simpa only[XC,G'l i j hi]using Of
         |_=>exact Of
        |false=>rw[bL (by simp)];have:=wC (K:=K') hR (λhl j9=>F5 Va hxb i j ⟨y,x,hy,hx,hl⟩ j9);exact this.frame F3 (λ_ h=>h)
       |false=>
        have Va:MT=false:=by rw[<-abr,hxb];rfl
        rw[hxb,bL (by simp)]at hR;rw[Va,bL (by simp)];exact hR.frame (λq hq=>F3 q (.inl hq)) (λq hq=> .inl hq)
     ·rw[cZ (by omega)]at hy;have Hq:i-xs.length<ys.length:=(aU.1 hy).1;have hk:(i-xs.length)*p.sz+j<ys.length*p.sz:=by have:(i-xs.length+1)*p.sz<=ys.length*p.sz:=b7 _ Hq;rw[da]at this;rw[hB.sz]at this⊢;omega
      have amI:p'.off+i*p'.sz+j=p'.off+p.n*p.sz+((i-xs.length)*p.sz+j):=by
       rw[hA.sz,hB.at_.n];have:i*p.sz=xs.length*p.sz+(i-xs.length)*p.sz:=by rw[<-da];congr 1;omega
       omega
      have got:∀u,news[(i-xs.length)*te.ks.length+j]? =aj u->iM[p'.off+i*p'.sz+j]? =aj u:=λu hu=>by rw[amI,m6 _ hk,hB.sz];exact hu
      cases TU:zr with
      |true=>
       obtain⟨u,hu,hX⟩:=hM.cellX TU _ y j x hy hx;refine⟨u,got u hu, ?_⟩
       cases Va:MT with
       |true=>
        rw[bC rfl];have Of:XC E w' gx (i-xs.length) j u x:=hX.frame (λhl j9=>hA.old _ (by obtain⟨n,ob,_,q2,q3⟩:=hM.own TU _ j ⟨y,x,hy,hx,hl⟩ j9;exact vp.lt b8 ⟨n,ob,q2,q3⟩) (λabC he=>by obtain⟨n,ob,q1,q2,q3⟩:=hM.own TU _ j ⟨y,x,hy,hx,hl⟩ j9;exact Dne n _ ob _ q1 q2 q3 ⟨abC,he⟩));cases x with
        |l e1 z1=>simpa only[XC,G'r i j hi]using Of
        |_=>exact Of
       |false=>rw[bL (by simp)];have:=wC (K:=K') hX (λhl j9=>F6 Va TU _ j ⟨y,x,hy,hx,hl⟩ j9);exact this.frame F3 (λ_ h=>h)
      |false=>
       have Va:MT=false:=by rw[<-abr,TU];simp
       obtain⟨u,hu,hH⟩:=hM.cellH TU _ y j x hy hx;refine⟨u,got u hu, ?_⟩
       rw[Va,bL (by simp)];exact hH.frame (λq hq=>F3 q (F4 Va q hq)) (F4 Va)
   ·rw[hP,hG];refine⟨λi j hh hn hpn he=>(afu hR i j hh hn).1 ⟨hpn,he⟩,λi j i' j' hh zu hn j9 he=> ?_⟩
    obtain⟨r1,r2⟩:=abt hR;have XU:∀i j i' j',i<xs.length->¬i'<xs.length->fV (xs++ys) i j->fV (xs++ys) i' j'->(G' i j).nil=aq->(G' i' j').nil=aq->(G' i j).blk≠(G' i' j').blk:=by intro i j i' j' hi lE hh zu hn j9 he;rw[G'l i j hi]at hn he;rw[G'r i' j' lE]at j9 he;obtain⟨m,ob,q1,q2,q3⟩:=hB.owni r1 i j (QR i j hi hh) hn;obtain⟨n,ob',s1,s2,s3⟩:=hM.own r2 _ j' (Vf i' j' lE zu) j9;rw[he]at q3;have:=b8.sep m ob n ob' _ q2 s2 q3 s3;subst this;exact(hM.D m _ s1).1 q1
    by_cases hi:i<xs.length
    ·by_cases lE:i'<xs.length
     ·rw[G'l i j hi]at hn he;rw[G'l i' j' lE]at j9 he;exact(hB.inn r1).one i j i' j' (QR i j hi hh) (QR i' j' lE zu) hn j9 he
     ·exact cq he (XU i j i' j' hi lE hh zu hn j9)
    ·by_cases lE:i'<xs.length
     ·exact cq he.symm (XU i' j' i j lE hi zu hh j9 hn)
     ·rw[G'r i j hi]at hn he;rw[G'r i' j' lE]at j9 he;have:=hM.one r2 _ j _ j' (Vf i j hi hh) (Vf i' j' lE zu) hn j9 he;exact⟨by omega,this.2⟩
 ·intro m x q hm py;rcases mem m x hm with ⟨_,rfl⟩|UW|⟨rfl,rfl⟩
  ·exact py.elim
  ·obtain⟨_,_,hx⟩:=hM.D m x UW;rcases hx with rfl|⟨_,e',zs,rfl,_⟩
   ·exact py.elim
   ·exact py.elim
  ·rcases py with ⟨hn,rfl⟩|⟨hR,i,j,hh,hn,rfl⟩
   ·rw[hP]at hn⊢;refine⟨?_,λhk=>aes _ hk ⟨hn,rfl⟩⟩
    rcases F1 hn with h|⟨m,ob,h1,h2,h3⟩
    ·right;omega
    ·exact .inl ⟨m,ob,Lu m h1,h2,h3⟩
   ·rw[hG]at hn⊢;obtain⟨q1,q2⟩:=afu hR i j hh hn;refine⟨.inl q2, ?_⟩
    rintro (h|⟨h,_⟩)
    ·exact b8.HH q2.own h
    ·rw[hR]at h;cases h
 ·intro m x m' x' q hm vS py QB;have only:∀m x,(m,x)∈D->fa c' m x q->m=sF:=by
   intro m x hm py;rcases mem m x hm with ⟨_,rfl⟩|UW|⟨rfl,rfl⟩
   ·exact py.elim
   ·obtain⟨_,_,hx⟩:=hM.D m x UW;rcases hx with rfl|⟨_,e',zs,rfl,_⟩
    ·exact py.elim
    ·exact py.elim
   ·rfl
  rw[only m x hm py,only m' x' vS QB]
 ·intro m zs hm;rcases mem m _ hm with ⟨_,h⟩|UW|⟨_,h⟩
  ·cases h
  ·obtain⟨_,_,hx⟩:=hM.D m _ UW;rcases hx with h|⟨_,e',zs,h,_⟩<;>cases h
  ·cases h
 ·rintro q (h|⟨_,h,_⟩)
  ·exact .inl h
  ·exact .inr (.inl h)
 ·intro q hq UX;refine hA.old q hq (λhn he=>UX ?_);rcases F1 hn with h|⟨m,ob,h1,h2,h3⟩
  ·omega
  ·rw[he];exact⟨m,ob,Lu m h1,h2,h3⟩
 ·show _=lj (c'.P sF);rw[hP]
 ·intro m hm;have:m=sF:=by simpa [cD,bI]using hm
  subst this;exact .inr aeP
end
end Go.FG

namespace Go.FG
theorem Hz:∀{l:az aG} {n:aG},n∈l->l_ n l=true:=by
 intro l;induction l with
 |nil=>intro n h;cases h
 |cons m r ih=>
  intro n h;rcases cz.1 h with rfl|h
  ·simp[l_]
  ·simp only[l_,ih h,Iw]
theorem pT{l:az aG}{n:aG}(h:l_ n l=aq):n∉l:=λhm=>by rw[Hz hm]at h;cases h
theorem cY.one{E:fB}{w:bF}{K:aG->Prop}{u:bg}{x:CV}(h:cY E w K u x):u.oneCell'=true:=by cases h<;>rfl
theorem UU(p:Pl):(lj p).oneCell'=true:=by unfold lj;split<;>rfl
theorem XC.one{E:fB}{w:bF}{G:aG->aG->Pl}{i j:aG}{u:bg}{x:CV}(h:XC E w G i j u x):u.oneCell'=true:=by
 cases x with
 |l e ys=>rw[h.1];exact UU _
 |i=>rw[show u=_ from h.1];rfl
 |b=>rw[show u=_ from h.1];rfl
 |s=>rw[show u=_ from h.1];rfl
theorem H2{x:CV}:(NR x).oneCell'=true:=by cases x<;>rfl
theorem vH{α:Type}{b:aY}{x y:Rd α}(h:b=ak):(bif b then x else y)=x:=by rw[h];rfl
theorem De{α:Type}{b:aY}{x y:Rd α}(h:b=aq):(bif b then x else y)=y:=by rw[h];rfl
theorem rR{α β γ:Type}{σ:St}{a x:α}{b y:β}{c z:γ}(h:(Rd.ret (a,b,c)).val σ=aj (x,y,z)):a=x/\b=y/\c=z:=by obtain⟨h1,h2⟩:=bU (aF h);obtain⟨h2,h3⟩:=bU h2;exact⟨h1,h2,h3⟩
section
variable {P:cQ} {E:fB} {σ:St} {a:Act} {w:bF} {c:eK} {o:eV} {nm:aG} {e:rX}
theorem AL(b8:Ok E σ w c){el:aG}{te:TI}(ht:E.ty el=aj te){s:AV}{v:bg}(hs:ea E w c s v){B7:aY}{xs:aX}{b:az aG}(h:(vG el s).val σ=aj (B7,xs,b)):
  ∃p g,Iv E σ w c te v B7 xs b p g:=by
 have afU:∀b,(∀m∈b,∃ob,σ (cW m)= .o ob)->v= .slice ao 0 0->∀B7,Iv E σ w c te v B7 [] b ⟨ak,0,0,0,0,te.ks.length⟩ (JM E te.ks):=λb hb hv B7=>
  ⟨hv,rfl,λy hy=>(by cases hy),⟨rfl,λ_=>⟨rfl,rfl⟩,λh=>(by cases h)⟩,λ_=>uX (λ_ _=>rfl),λh=>(by cases h),λ_ i j ⟨y,x,h,_⟩=>(by simp at h),hb⟩
 cases s with
 |nl=>obtain⟨rfl,rfl,rfl⟩:=rR h;exact⟨_,_,afU [] (λm hm=>by cases hm) hs ak⟩
 |own n=>
  obtain⟨ob,hg,h⟩:=Rd.bind_some h;have hg:=dp hg;cases ob with
  |row e' ex ys=>obtain⟨h1,h9⟩:=cE h;have:=aW h1;subst this;have h:=h9;obtain⟨rfl,rfl,rfl⟩:=rR h;obtain⟨⟨t2,q1,q2,q3⟩,q4,q5⟩:=b8.obj n _ hg;obtain rfl:te=t2:=aF (ht.symm.trans q1);exact⟨c.P n,c.G n,hs,q2,q3,q4,q5,λhn=>⟨n,_,by simp,hg, .inl ⟨hn,rfl⟩⟩,λhx i j hh hn=>⟨n,_,by simp,hg, .inr ⟨hx,i,j,hh,hn,rfl⟩⟩,λm hm=>by rw[aZ]at hm;subst hm;exact⟨_,hg⟩⟩
  |_=>simp at h
 |vw n lo hi=>
  obtain⟨ob,hg,h⟩:=Rd.bind_some h;have hg:=dp hg;cases ob with
  |row e' ex ys=>
   obtain⟨h1,h9⟩:=cE h;have:=aW h1;subst this;have h:=h9;obtain⟨rfl,rfl,rfl⟩:=rR h;obtain⟨⟨t2,q1,q2,q3⟩,q4,q5⟩:=b8.obj n _ hg;obtain rfl:te=t2:=aF (ht.symm.trans q1);obtain⟨v1,v2,v3,v4⟩:=hs;have hle:hi<=ys.length:=by rw[<-q4.n];exact v2
   have hvl:=lS (xs:=ys) (lo:=lo) hle;have hb:∀m∈[n],∃ob,σ (cW m)= .o ob:=λm hm=>by rw[aZ]at hm;subst hm;exact⟨_,hg⟩
   cases hq:(c.P n).nil with
   |true=>
    have hy:=(q4.nil hq).1;subst hy;have Oe:eP ([]:aX) lo hi=[]:=by unfold eP;simp
    rw[Oe];exact⟨_,_,afU [n] hb (v3 hq) ex⟩
   |false=>
    obtain⟨vals,k1,k2,k3,k4,k5⟩:=q4.mem hq;rcases v4 hq with ⟨u1,hv⟩|⟨u1,oo,u2,hv⟩
    ·have Ve:∀i j,fV (eP ys lo hi) i j->fV ys (lo+i) j:=by
      rintro i j ⟨y,x,h1,h2,h3⟩;rw[sS]at h1;split at h1
      ·exact⟨y,x,h1,h2,h3⟩
      ·cases h1
     refine⟨⟨aq,(c.P n).blk,(c.P n).off+lo*(c.P n).sz,(c.P n).cap-lo,hi-lo,(c.P n).sz⟩,λi j=>c.G n (lo+i) j,hv,q2,λy hy=>q3 y (Bh hy),⟨hvl.symm,λh=>(by cases h),λ_=>⟨vals,k1,by show hi-lo<=(c.P n).cap-lo;omega,by show(c.P n).cap-lo<=maxLen;omega, ?_,λi y j x h1 h2=> ?_⟩⟩,λhx=>⟨λi j hh hn _=>(q5 hx).out _ j (Ve i j hh) hn hq,λi j i' j' hh zu hn j9 he=> ?_⟩,λ_=>⟨n,_,by simp,hg, .inl ⟨hq,rfl⟩⟩,λhx i j hh hn=>⟨n,_,by simp,hg, .inr ⟨hx,lo+i,j,Ve i j hh,hn,rfl⟩⟩,hb⟩
     ·show(c.P n).off+lo*(c.P n).sz+((c.P n).cap-lo)*(c.P n).sz<=vals.size;have:lo*(c.P n).sz+((c.P n).cap-lo)*(c.P n).sz=(c.P n).cap*(c.P n).sz:=by rw[<-da];congr 1;omega
      omega
     ·rw[sS]at h1;split at h1
      ·obtain⟨u,hu,hr⟩:=k5 (lo+i) y j x h1 h2;refine⟨u, ?_, ?_⟩
       ·show vals[(c.P n).off+lo*(c.P n).sz+i*(c.P n).sz+j]? =aj u;rw[<-hu];congr 1;rw[da];omega
       ·split at hr
        ·rename_i hx;rw[bC hx];cases x with
         |l e1 z1=>exact hr
         |_=>exact hr
        ·rename_i hx;rw[bL hx];exact hr
      ·cases h1
     ·have:=(q5 hx).one _ j _ j' (Ve i j hh) (Ve i' j' zu) hn j9 he;exact⟨by omega,this.2⟩
    ·have h0:hi-lo=0:=by omega
     have Oe:eP ys lo hi=[]:=fQ (hvl.trans h0);rw[Oe];exact⟨⟨aq,(c.P n).blk,oo,0,0,(c.P n).sz⟩,JM E te.ks,hv,q2,λy hy=>(by cases hy),⟨rfl,λh=>(by cases h),λ_=>⟨vals,k1,cu _,bK _,by show oo+0*(c.P n).sz<=vals.size;rw[Nat.zero_mul];omega,λi y j x h=>(by simp at h)⟩⟩,λ_=>uX (λ_ _=>rfl),λ_=>⟨n,_,by simp,hg, .inl ⟨hq,rfl⟩⟩,λ_ i j ⟨y,x,h,_⟩=>(by simp at h),hb⟩
  |_=>simp at h
 |_=>simp[vG]at h
theorem qQ{u:aG}(hu:(∃e',P.underlying u=aj (.slice e'))\/P.underlying u=aj .string){z:de bg}{v:bg}{ys:aX}{ks:az Ck}(kH:0<ks.length){R:aG->aG->bg->CV->Prop}(hs:nL w v ys ks.length R)(mc:∀y∈ys,y.map CV.kd=ks)(h1:∀i j u x,R i j u x->u.oneCell'=ak):
  ∃news,App P w u v z ks.length ys.length news/\∀(i:aG) (y:az CV) (j:aG) (x:CV),ys[i]? =aj y->y[j]? =aj x->∃u:bg,news[i*ks.length+j]? =aj u/\R i j u x:=by
 have hl:∀y∈ys,y.length=ks.length:=λy hy=>by rw[<-mc y hy];simp
 obtain⟨A,cp,news,rfl,n1,n2,n3⟩:=hs.list hl;have first:∀W:bF,(∀q,W.cell? q=w.cell? q)->(eU ks.length ys.length (.slice A ys.length cp)).run P W= .ok news.toArray W:=by
  intro W hW;rcases n2 with h|⟨b,oo,rfl,h⟩
  ·subst h;have hn:news=[]:=fQ (by rw[n1];simp);subst hn;cases A with
   |none=>exact run_firstCells_none _ _ _ _ _
   |some a=>exact run_firstCells_some W ks.length 0 a _ _ [] (by simp) (λj v hj=>by simp at hj)
  ·exact run_firstCells_some W ks.length ys.length _ _ _ news n1 (λj v hj=>by rw[hW,Addr.nA];exact h j v hj)
 refine⟨news,⟨.inl ⟨hu,by simp[oX],first w (λ_=>rfl),first w.drew (λ_=>rfl)⟩,n1,λv hv=> ?_⟩,n3⟩
 obtain⟨q,hq⟩:=bZ hv;have U1:q<ys.length*ks.length:=by rw[<-n1];exact(aU.1 hq).1
 have hi:q/ks.length<ys.length:=by rw[wF kH];exact U1
 have hj:q%ks.length<ys[q/ks.length].length:=by rw[hl _ (bD hi)];exact B3 _ kH
 obtain⟨u',rE,hr⟩:=n3 (q/ks.length) ys[q/ks.length] (q%ks.length) (ys[q/ks.length][q%ks.length]) (by simp[hi]) (by simp[hj]);have:q/ks.length*ks.length+q%ks.length=q:=by have:=Ig q ks.length;rw[CY]at this;exact this
 rw[this,hq]at rE;cases rE;exact h1 _ _ _ _ hr
theorem Ri(hE:dZ P E)(b8:Ok E σ w c){sF el:aG}{te:TI}(ht:E.ty el=aj te)(kH:0<te.ks.length){u:aG}(hu:(∃e',P.underlying u=aj (.slice e'))\/P.underlying u=aj .string){z:de bg}{b:az aG}{x:AV}{v:bg}(hx:ea E w c x v)
  {zr:aY} {ys:aX} {w2:az (aG×eu)} (h:(Rh E sF el te.ks b x).val σ=aj (zr,ys,w2)):
  ∃D news gx,w2=jO D/\App P w u v z te.ks.length ys.length news/\qH E σ w c te b zr ys D news gx:=by
 have inK:∀D q,c.K q->K1 σ c D q:=λD q h=> .inl h;have PL:plain te.ks=ak->∀ys,nL w v ys te.ks.length (λ_ _ u x=>Sc u x)->(∀y∈ys,y.map CV.kd=te.ks)->∃D news gx,([]:az (aG×eu))=jO D/\App P w u v z te.ks.length ys.length news/\qH E σ w c te b ak ys D news gx:=by
  intro hp ys hs mc;obtain⟨news,n1,n2⟩:=qQ (P:=P) (z:=z) hu kH hs mc (λi j u x hr=>by rw[hr.1];exact H2);refine⟨[],news,λ_ _=>⟨ak,0,0,0,0,0⟩,rfl,n1,mc,λ_ i y j x hy hx=> ?_,λh=>(by cases h),λ_ i j _ hn=>(by cases hn),λ_ i j _ _ _ _ hn=>(by cases hn),λn x hn=>(by cases hn)⟩
  obtain⟨u,hu,hr⟩:=n2 i y j x hy hx;exact⟨_,hu,tz (gV hp (mc y (aQ hy)) hx) hr⟩
 have PLr:plain te.ks=ak->∀ys,(lV E x).val σ=aj (el,ys)->∃D news gx,([]:az (aG×eu))=jO D/\App P w u v z te.ks.length ys.length news/\qH E σ w c te b ak ys D news gx:=by intro hp ys hr;obtain⟨q1,q2,_⟩:=za b8 hx hr ht hp;exact PL hp ys q1 q2
 have SH:∀ys,nL w v ys te.ks.length (λ_ _ u x=>cY E w c.K u x)->(∀y∈ys,y.map CV.kd=te.ks)->∃D news gx,([]:az (aG×eu))=jO D/\App P w u v z te.ks.length ys.length news/\qH E σ w c te b aq ys D news gx:=by
  intro ys hs mc;obtain⟨news,n1,n2⟩:=qQ (P:=P) (z:=z) hu kH hs mc (λi j u x hr=>hr.one);refine⟨[],news,λ_ _=>⟨ak,0,0,0,0,0⟩,rfl,n1,mc,λh=>(by cases h),λ_ i y j x hy hx=> ?_,λh=>(by cases h),λh=>(by cases h),λn x hn=>(by cases hn)⟩
  obtain⟨u,hu,hr⟩:=n2 i y j x hy hx;exact⟨_,hu,hr.frame (λ_ _=>rfl) (inK [])⟩
 have SHv:∀ys,cY E w c.K v (.l el ys)->∃D news gx,([]:az (aG×eu))=jO D/\App P w u v z te.ks.length ys.length news/\qH E σ w c te b aq ys D news gx:=by intro ys hh;obtain⟨q1,q2⟩:=yz ht hh;exact SH ys q1 q2
 have HP:∀ys,cY E w c.K v (.l el ys)->(lV E x).val σ=aj (el,ys)->∃D news gx,([]:az (aG×eu))=jO D/\App P w u v z te.ks.length ys.length news/\qH E σ w c te b (plain te.ks) ys D news gx:=by
  intro ys hh hr;cases hp:plain te.ks with
  |true=>exact PLr hp ys hr
  |false=>exact SHv ys hh
 have FZ:∀n xs lo hi,σ (cW n)= .o (.row el ak xs)->n∉b->vF (c.P n) lo hi v->∃D news gx,[(cW n,eu.o (.fE el xs))]=jO D/\App P w u v z te.ks.length (eP xs lo hi).length news/\qH E σ w c te b aq (eP xs lo hi) D news gx:=by
  intro n xs lo hi hg Jy hv;obtain⟨⟨t2,q1,q2,q3⟩,q4,q5⟩:=b8.obj n _ hg;obtain rfl:te=t2:=aF (ht.symm.trans q1);obtain⟨t3,r1,r2,r3⟩:=wc b8 hg hv;obtain rfl:te=t3:=aF (ht.symm.trans r1);let D:az (aG×Obj):=[(n, .fE el xs)]
  have kin:∀i j,fV xs i j->(c.G n i j).nil=aq->K1 σ c D (c.G n i j).blk:=λi j hh hn=> .inr ⟨n,el,xs,_,aZ.2 rfl,hg, .inr ⟨rfl,i,j,hh,hn,rfl⟩⟩;have fS:iT w (c.P n) xs (λ_ _ u x=>cY E w (K1 σ c D) u x):=q4.frame (λ_=>rfl) (λi j y x u hy hx hr=>by rw[bC rfl]at hr;exact wC hr (λhl hn=>kin i j ⟨y,x,hy,hx,hl⟩ hn));have CE:nL w v (eP xs lo hi) te.ks.length (λ_ _ u x=>cY E w (K1 σ c D) u x):=by have:=Kg fS hv;rwa[q2]at this
  obtain⟨news,n1,n2⟩:=qQ (P:=P) (z:=z) hu kH CE r2 (λi j u x hr=>hr.one);refine⟨D,news,λ_ _=>⟨ak,0,0,0,0,0⟩,rfl,n1,r2,λh=>(by cases h),λ_=>n2,λh=>(by cases h),λh=>(by cases h),λm y hm=> ?_⟩
  rw[aZ]at hm;cases hm;exact⟨Jy,⟨_,hg⟩, .inr ⟨rfl,el,xs,rfl,pD ht q2 q3 fS (λhn=> .inr ⟨n,el,xs,_,aZ.2 rfl,hg, .inl ⟨hn,rfl⟩⟩),q4.n,te,ht,q2⟩⟩
 cases x with
 |s s=>
  obtain⟨h1,h⟩:=cE h;obtain⟨rfl,rfl,rfl⟩:=rR h;have hk:te.ks=[.i .u8]:=by
   unfold u8s at h1;split at h1
   ·assumption
   ·cases h1
  have hv:v= .string s:=hx.1;subst hv;refine⟨[],(s.data.map λb=>Value.int .u8 b.toNat).toList,λ_ _=>⟨ak,0,0,0,0,0⟩,rfl,⟨.inl ⟨hu, ?_, ?_, ?_⟩, ?_, ?_⟩,by rw[hk];exact HR s,λ_ i y j x hy hx=> ?_,λh=>(by cases h),λ_ i j _ hn=>(by cases hn),λ_ i j _ _ _ _ hn=>(by cases hn),λn x hn=>(by cases hn)⟩
  ·simp[oX,lF]
  ·simp[eU,lF];apply rI;simp
  ·simp[eU,lF];apply rI;simp
  ·rw[hk,lF];simp
  ·intro v hv;have hv:∃b,b∈s.data/\Value.int bk (b.toNat:aA)=v:=by simpa using hv
   obtain⟨b,_,rfl⟩:=hv;rfl
  ·obtain⟨rfl,b,hb,rfl⟩:=Fx hy hx;refine⟨.int .u8 b.toNat, ?_,rfl,trivial⟩
   rw[hk];simp[hb]
 |nl=>obtain⟨rfl,rfl,rfl⟩:=rR h;have hv:v= .slice ao 0 0:=hx;subst hv;refine⟨[],[],λ_ _=>⟨ak,0,0,0,0,0⟩,rfl,⟨.inl ⟨hu,by simp[oX],run_firstCells_none _ _ _ _ _,run_firstCells_none _ _ _ _ _⟩,by simp,λv hv=>(by cases hv)⟩,λy hy=>(by cases hy),λ_ i y j x hy=>(by simp at hy),λh=>(by cases h),λ_ i j _ hn=>(by cases hn),λ_ i j _ _ _ _ hn=>(by cases hn),λn x hn=>(by cases hn)⟩
 |sh e' xs=>obtain⟨h1,h9⟩:=cE h;have:=aW h1;subst this;have h:=h9;obtain⟨rfl,rfl,rfl⟩:=rR h;exact HP xs hx rfl
 |own n=>
  obtain⟨ob,hg,h⟩:=Rd.bind_some h;have hg:=dp hg;have hv:v=lj (c.P n):=hx;cases ob with
  |row e' ex xs=>
   obtain⟨h1,h9⟩:=cE h;have:=aW h1;subst this;have h:=h9;have Hn:(lV E (.own n)).val σ=aj (el,xs):=by simp[lV,jl,hg]
   have hvw:vF (c.P n) 0 xs.length v:=by rw[hv];exact va b8 hg
   cases hp:plain te.ks with
   |true=>rw[vH (by rw[hp];rfl)]at h;obtain⟨rfl,rfl,rfl⟩:=rR h;rw[hp];exact PLr hp xs Hn
   |false=>
    cases ex with
    |false=>rw[vH (by simp)]at h;obtain⟨rfl,rfl,rfl⟩:=rR h;rw[hp];obtain⟨t3,r1,r2,r3⟩:=wc b8 hg hvw;obtain rfl:te=t3:=aF (ht.symm.trans r1);rw[qu]at r2 r3;exact SH xs (r3.imp λi y j x u _ _ hr=>by simpa using hr) r2
    |true=>
     rw[De (by rw[hp];rfl)]at h;cases hm:l_ n b with
     |true=>rw[hm]at h;simp at h
     |false=>
      have Jy:=pT hm;rw[hm]at h;cases E_:E.tk sF with
      |true=>rw[E_]at h;obtain⟨rfl,rfl,rfl⟩:=rR h;have:=FZ n xs 0 xs.length hg Jy hvw;rwa[qu]at this
      |false=>
       rw[E_]at h;obtain⟨rfl,rfl,rfl⟩:=rR h;obtain⟨t3,r1,r2,r3⟩:=wc b8 hg hvw;obtain rfl:te=t3:=aF (ht.symm.trans r1);rw[qu]at r2 r3;have r3':=r3.imp (R':=λi j u x=>XC E w (c.G n) i j u x) (λi y j x u _ _ hr=>by rw[bC rfl,bT]at hr;exact hr);obtain⟨news,n1,n2⟩:=qQ (P:=P) (z:=z) hu kH r3' r2 (λi j u x hr=>hr.one);refine⟨[(n, .dead)],news,c.G n,rfl,n1,r2,λ_=>n2,λh=>(by cases h),λ_ i j hh hn=>⟨n,_,aZ.2 rfl,hg, .inr ⟨rfl,i,j,hh,hn,rfl⟩⟩,λ_=>((b8.obj n _ hg).inn rfl).one,λm y hm=> ?_⟩
       rw[aZ]at hm;cases hm;exact⟨Jy,⟨_,hg⟩, .inl rfl⟩
  |fE e' xs=>obtain⟨h1,h9⟩:=cE h;have:=aW h1;subst this;have h:=h9;obtain⟨rfl,rfl,rfl⟩:=rR h;refine HP xs ?_ (by simp[lV,jl,hg]);rw[hv];exact(b8.obj n _ hg).1
  |_=>simp at h
 |vw n lo hi=>
  obtain⟨ob,hg,h⟩:=Rd.bind_some h;have hg:=dp hg;cases ob with
  |row e' ex xs=>
   obtain⟨h1,h9⟩:=cE h;have:=aW h1;subst this;have h:=h9;have Hn:(lV E (.vw n lo hi)).val σ=aj (el,eP xs lo hi):=by simp[lV,jl,hg]
   cases hp:plain te.ks with
   |true=>rw[vH (by rw[hp];rfl)]at h;obtain⟨rfl,rfl,rfl⟩:=rR h;rw[hp];exact PLr hp _ Hn
   |false=>
    cases ex with
    |false=>rw[vH (by simp)]at h;obtain⟨rfl,rfl,rfl⟩:=rR h;rw[hp];obtain⟨t3,r1,r2,r3⟩:=wc b8 hg hx;obtain rfl:te=t3:=aF (ht.symm.trans r1);exact SH _ (r3.imp λi y j x u _ _ hr=>by simpa using hr) r2
    |true=>
     rw[De (by rw[hp];rfl)]at h;cases hm:l_ n b with
     |true=>rw[hm]at h;simp at h
     |false=>
      have Jy:=pT hm;rw[hm]at h;cases E_:E.tk sF with
      |true=>rw[E_]at h;obtain⟨rfl,rfl,rfl⟩:=rR h;exact FZ n xs lo hi hg Jy hx
      |false=>rw[E_]at h;simp at h
  |fE e' xs=>obtain⟨h1,h9⟩:=cE h;have:=aW h1;subst this;have h:=h9;obtain⟨rfl,rfl,rfl⟩:=rR h;exact HP _ (oO b8 hg hx) (by simp[lV,jl,hg])
  |_=>simp at h
 |inn n i j=>obtain⟨h1,h⟩:=cE h;obtain⟨⟨e',xs⟩,h2,h⟩:=Rd.bind_some h;obtain⟨h3,h9⟩:=cE h;have:=aW h3;subst this;have h:=h9;obtain⟨rfl,rfl,rfl⟩:=rR h;exact PLr h1 xs h2
 |_=>simp[Rh]at h
theorem Nu(hE:dZ P E)(b8:Ok E σ w c)(dA:eZ E σ a w c)(hd:∀d,o.dst=aj d->d<a.tmps.size){cl:Call}(ho:o.op= .call cl)(hb:cl.callee= .builtin .append)(h:(lG E nm o).val σ=aj e)(hc:e.cond=ak):gA P E σ a w c o e.ws:=by
 simp only[lG,ho,hb]at h;split at h
 ·rename_i s x t u rB abI;obtain⟨ku,h1,h⟩:=Rd.bind_some h;obtain⟨sv,h2,h⟩:=Rd.bind_some h;obtain⟨xv,h3,h⟩:=Rd.bind_some h;obtain⟨es,_⟩:=iI dA h2;obtain⟨ex,_⟩:=iI dA h3;have rB:=BP rB;have abI:=BP abI;have exec:∀{r w'},(gY #[t,u] o.type #[a.eval s,a.eval x]).run P w= .ok r w'->(execOp a.eval o).run P w= .ok (.value r) w':=by intro r w' hr;obtain⟨cs,F_⟩:=mm (P:=P) (a:=a) (w:=w) ho hb;rw[F_,rB,abI];simp only[builtin,Cf,eW,Av];exact iE hr
  have APP:((∃e',P.underlying u=aj (.slice e'))\/P.underlying u=aj .string)->∀b v wl,(EI E nm t sv xv).val σ=aj (b,v,wl)->b=ak->gA P E σ a w c o (wl++dw o (.v aq [v])):=by
   intro hu b v wl h hbt;obtain⟨ti,k1,h⟩:=Rd.bind_some h;have k1:=dP k1;split at h
   ·rename_i el s_ zw;obtain⟨te,k2,h⟩:=Rd.bind_some h;have k2:=dP k2;obtain⟨uV,h⟩:=cE h;obtain⟨⟨B7,xs,bl⟩,k3,h⟩:=Rd.bind_some h;obtain⟨⟨zr,ys,w2⟩,k4,h⟩:=Rd.bind_some h;obtain⟨_,k5,h⟩:=Rd.bind_some h;obtain⟨rfl,rfl,rfl⟩:=rR h;obtain⟨hf,jD⟩:=j8 k5;have ht:=oJ hE k1 s_ zw;obtain⟨inf,hi,fT,hby,kH,hz⟩:=hE.info el te k2;obtain⟨z,Io,CG,_⟩:=hz uV;obtain⟨p,g,hB⟩:=AL b8 k2 es k3;obtain⟨D,news,gx,rfl,hA,hM⟩:=Ri (P:=P) (z:=z.cells) hE b8 k2 kH hu ex k4;simp only[cJ,aK,bf]at hbt;obtain⟨p',w',hr,hAd⟩:=sN (P:=P) (w:=w) (ty:=o.type) (p:=p) (x:=a.eval x) ht hi Io (by rw[CG,hB.sz];simp) (by rw[fT,hB.sz]) (λhn=>by rw[hB.at_.n,(hB.at_.nil hn).1];rfl) (λhn=>by obtain⟨vals,m1,m2,m3,m4,_⟩:=hB.at_.mem hn;exact⟨vals,m1,m2,m3,m4⟩) (by rw[hB.sz];exact hA) (by rw[hB.at_.n,hby];exact hbt.1) (by rw[hB.at_.n];exact hbt.2);rw[<-hB.v]at hr;exact Ds b8 dA hd k2 hf jD hB hM hAd (exec hr)
   ·simp at h
  have ZER:∀k,P.underlying u=aj (.int k)->∀(kn:mI) (n:aA),a.eval x= .int kn n->∀b v wl,(Tx E nm t sv n).val σ=aj (b,v,wl)->b=ak->gA P E σ a w c o (wl++dw o (.v aq [v])):=by
   intro k hu kn n hxn b v wl h hbt;obtain⟨ti,k1,h⟩:=Rd.bind_some h;have k1:=dP k1;split at h
   ·rename_i el s_ zw;obtain⟨te,k2,h⟩:=Rd.bind_some h;have k2:=dP k2;obtain⟨Oc,h⟩:=cE h;simp only[aK]at Oc;obtain⟨uV,Lv⟩:=Oc;obtain⟨⟨B7,xs,bl⟩,k3,h⟩:=Rd.bind_some h;obtain⟨_,k5,h⟩:=Rd.bind_some h;obtain⟨rfl,rfl,rfl⟩:=rR h;obtain⟨hf,jD⟩:=j8 k5;have ht:=oJ hE k1 s_ zw;obtain⟨inf,hi,fT,hby,kH,hz⟩:=hE.info el te k2;obtain⟨z,Io,CG,_⟩:=hz uV;obtain⟨p,g,hB⟩:=AL b8 k2 es k3;simp only[cJ,aK,bf]at hbt;obtain⟨⟨c0,c1,c2⟩,c3⟩:=hbt;have JD:(aT te.ks n.toNat).length=n.toNat:=by simp[aT]
    have hzc:fc z.cells n.toNat=madeCells (te.ks.map ik).toArray (n.toNat*te.ks.length):=by rw[CG];show madeCells _ (n.toNat*(te.ks.map ik).toArray.size)=_;simp
    have hA:App P w u (a.eval x) z.cells te.ks.length (aT te.ks n.toNat).length (fc z.cells n.toNat).toList:=by
     refine⟨.inr ⟨⟨k,hu⟩,⟨kn, ?_⟩, ?_⟩, ?_,λv hv=> ?_⟩
     ·rw[hxn,JD,Int.toNat_of_nonneg c0]
     ·rw[JD]
     ·rw[JD,dK,size_zeroCells,CG];simp
     ·rw[hzc]at hv;obtain⟨q,hq⟩:=bZ hv;have U1:q<n.toNat*te.ks.length:=by have:=(aU.1 hq).1;simpa [size_madeCells]using this
      have h1:q/te.ks.length<n.toNat:=by rw[wF kH];exact U1
      have h2:q%te.ks.length<te.ks.length:=B3 _ kH;have:=lk (n:=n.toNat) h1 (show te.ks[q%te.ks.length]? =aj te.ks[q%te.ks.length]by simp[h2]);rw[show q/te.ks.length*te.ks.length+q%te.ks.length=q by have:=Ig q te.ks.length;rw[CY]at this;exact this]at this;rw[cO,this]at hq;cases hq;cases te.ks[q%te.ks.length]<;>rfl
    have hM:qH E σ w c te bl ak (aT te.ks n.toNat) [] (fc z.cells n.toNat).toList (JM E te.ks):=by
     refine⟨wD uV _,λ_ i y j x hy hx=> ?_,λh=>(by cases h),λ_ i j _ hn=>(by cases hn),λ_ i j _ _ _ _ hn=>(by cases hn),λn x hn=>(by cases hn)⟩
     obtain⟨gO,k,hk,rfl⟩:=tE hy hx;refine⟨ik k, ?_,Mw Lv uV hk⟩
     rw[hzc,cO];exact lk gO hk
    obtain⟨p',w',hr,hAd⟩:=sN (P:=P) (w:=w) (ty:=o.type) (p:=p) (x:=a.eval x) ht hi Io (by rw[CG,hB.sz];simp) (by rw[fT,hB.sz]) (λhn=>by rw[hB.at_.n,(hB.at_.nil hn).1];rfl) (λhn=>by obtain⟨vals,m1,m2,m3,m4,_⟩:=hB.at_.mem hn;exact⟨vals,m1,m2,m3,m4⟩) (by rw[hB.sz];exact hA) (by rw[hB.at_.n,hby,JD];exact c1) (by rw[hB.at_.n,JD];exact c2);rw[<-hB.v]at hr;have:=Ds b8 dA hd k2 hf jD hB hM hAd (exec hr);rw[ph]at this;exact this
   ·simp at h
  cases ku with
  |i k=>
   cases xv with
   |i k' n=>obtain⟨⟨b,v,wl⟩,h4,h⟩:=Rd.bind_some h;obtain rfl:=aF h;exact ZER k (xY hE h1) k' n ex b v wl h4 hc
   |_=>simp at h
  |l e'=>obtain⟨⟨b,v,wl⟩,h4,h⟩:=Rd.bind_some h;obtain rfl:=aF h;exact APP (.inl ⟨e',ka hE h1⟩) b v wl h4 hc
  |s=>obtain⟨⟨b,v,wl⟩,h4,h⟩:=Rd.bind_some h;obtain rfl:=aF h;exact APP (.inr (kJ hE h1)) b v wl h4 hc
  |b=>simp at h
  |o=>simp at h
 ·simp at h
end
end Go.FG

namespace Go.FG
section
variable {P:cQ} {E:fB} {σ:St} {a:Act} {w:bF} {c:eK} {o:eV} {nm:aG} {e:rX}
theorem Uv:∀{xs:az AV} {cs:az CV},(P9.aa0 xs).val σ=aj cs->cs.length=xs.length/\∀(vals:de bg),fM E w c vals xs->∀(q:aG) (x:CV),cs[q]? =aj x->∃u:bg,vals[q]? =aj u/\cY E w c.K u x:=by
 intro xs;induction xs with
 |nil=>intro cs h;obtain rfl:=aF h;exact⟨rfl,λ_ _ q x hq=>by simp at hq⟩
 |cons a xs ih=>
  intro cs h;obtain⟨l,h1,h⟩:=Rd.bind_some h;obtain⟨i1,i2⟩:=ih h1;have main:∀cv,(∀u,ea E w c a u->cY E w c.K u cv)->cs=cv::l->cs.length=(a::xs).length/\∀(vals:de bg),fM E w c vals (a::xs)->∀(q:aG) (x:CV),cs[q]? =aj x->∃u:bg,vals[q]? =aj u/\cY E w c.K u x:=by
   rintro cv X1 rfl;refine⟨by simp[i1],λvals hv q x hq=> ?_⟩
   cases q with
   |zero=>cases hq;obtain⟨u,hu,ha⟩:=hv.2 0 a rfl;exact⟨u,hu,X1 u ha⟩
   |succ q=>
    have LC:fM E w c (vals.extract 1 vals.size) xs:=by
     refine⟨by simp;have:=hv.1;simp at this;omega,λj b hj=> ?_⟩
     obtain⟨u,hu,hb⟩:=hv.2 (j+1) b hj;refine⟨u, ?_,hb⟩
     have:=(dN.1 hu).1;rw[dS,bC (by omega),iK];exact hu
    obtain⟨u,r1,r2⟩:=i2 _ LC q x hq;refine⟨u, ?_,r2⟩
    rw[dS]at r1;split at r1
    ·rw[iK];exact r1
    ·cases r1
  cases a with
  |i k n=>exact main (.i k n) (λu hu=>by rw[show u=_ from hu];exact .i _ _) (aF h).symm
  |b x=>exact main (.b x) (λu hu=>by rw[show u=_ from hu];exact .b _) (aF h).symm
  |s x=>exact main (.s x) (λu hu=>by rw[show u=_ from hu.1];exact .s _ hu.2) (aF h).symm
  |sh e xs=>exact main (.l e xs) (λu hu=>hu) (aF h).symm
  |_=>simp at h
def adN(E:fB)(σ:St)(w:bF)(c:eK)(D:az (aG×Obj))(cs:az CV)(v:bg):Prop:=
 ∃n,v= .pointer (aj (ad (c.P n).blk 0))/\(((n,Obj.nC cs)∈D)\/σ (cW n)= .o (.nC cs))
theorem Uw(b8:Ok E σ w c)(dA:eZ E σ a w c):∀{xs:az dn} {l:az (az CV)} {ws:az (aG×eu)},(P9 xs).val σ=aj (l,ws)->l.length=xs.length/\∃D,ws=jO D/\
  (∀n x,(n,x)∈D->∃cs ys,x= .nC cs/\σ (cW n)= .o (.box ys)/\∀(q:aG) (y:CV),cs[q]? =aj y->∃u:bg,w.cell? (ad (c.P n).blk q)=aj u/\cY E w c.K u y)/\
  ∀(q:aG) (cs:az CV),l[q]? =aj cs->∃x,xs[q]? =aj x/\adN E σ w c D cs (a.eval x):=by
 intro xs;induction xs with
 |nil=>intro l ws h;obtain⟨rfl,rfl⟩:=bU (aF h);exact⟨rfl,[],rfl,λn x h=>(by cases h),λq cs h=>by simp at h⟩
 |cons x xs ih=>
  intro l ws h;obtain⟨v,h1,h⟩:=Rd.bind_some h;have hv:=(iI dA h1).1;split at h
  ·rename_i n;obtain⟨ob,hg,h⟩:=Rd.bind_some h;have hg:=dp hg;have hv:a.eval x= .pointer (aj (ad (c.P n).blk 0)):=hv;cases ob with
   |box ys=>
    obtain⟨cs,h2,h⟩:=Rd.bind_some h;obtain⟨⟨l',CP⟩,h3,h⟩:=Rd.bind_some h;obtain⟨rfl,rfl⟩:=bU (aF h);obtain⟨i1,D,rfl,i2,i3⟩:=ih h3;obtain⟨_,c2⟩:=Uv (E:=E) (w:=w) (c:=c) h2;obtain⟨vals,hb,fT,X1⟩:=b8.obj n _ hg;refine⟨by simp[i1],(n, .nC cs)::D,rfl,λm y hm=> ?_,λq cs' hq=> ?_⟩
    ·rcases cz.1 hm with hm|hm
     ·cases hm;refine⟨cs,ys,rfl,hg,λq y hq=> ?_⟩
      obtain⟨u,hu,hh⟩:=c2 vals ⟨fT,X1⟩ q y hq;exact⟨u,(hb.cell q).trans hu,hh⟩
     ·exact i2 m y hm
    ·cases q with
     |zero=>cases hq;exact⟨x,rfl,n,hv, .inl (du ..)⟩
     |succ q=>obtain⟨x',oZ,m,e1,e2⟩:=i3 q cs' hq;exact⟨x',oZ,m,e1,e2.imp (cU _) id⟩
   |nC cs=>
    obtain⟨⟨l',CP⟩,h3,h⟩:=Rd.bind_some h;obtain⟨rfl,rfl⟩:=bU (aF h);obtain⟨i1,D,rfl,i2,i3⟩:=ih h3;refine⟨by simp[i1],D,rfl,i2,λq cs' hq=> ?_⟩
    cases q with
    |zero=>cases hq;exact⟨x,rfl,n,hv, .inr hg⟩
    |succ q=>exact i3 q cs' hq
   |_=>simp at h
  ·simp at h
theorem HJ(b8:Ok E σ w c)(dA:eZ E σ a w c)(hd:∀d,o.dst=aj d->d<a.tmps.size){fn:Fn}{first iA:de dn}(ho:o.op= .makeFunc fn first iA)(h:(lG E nm o).val σ=aj e):gA P E σ a w c o e.ws:=by
 cases fn with
 |func f=>
  simp only[lG,ho]at h;obtain⟨h1,h⟩:=cE h;obtain⟨⟨l,ws⟩,h2,h⟩:=Rd.bind_some h;obtain rfl:=aF h;obtain⟨hl,D,rfl,hD,M7⟩:=Uw b8 dA h2;have Il:first= #[]:=by simpa using h1
  let K':aG->Prop:=λb=>c.K b\/∃n x,(n,x)∈D/\b=(c.P n).blk;let c':eK:=⟨c.P,c.G,K'⟩
  have kin:∀b,c.K b->K' b:=λb h=> .inl h;have own:∀n x,(n,x)∈D->jH (tF D) σ c (c.P n).blk:=λn x hm=>by obtain⟨cs,ys,_,hg,_⟩:=hD n x hm;exact⟨n,_,⟨x,hm⟩,hg,rfl⟩
  have fb:∀n cs,(n,Obj.nC cs)∈D->FB E w K' (c.P n).blk cs:=λn cs hm=>by obtain⟨cs',ys,hx,hg,hc⟩:=hD n _ hm;cases hx;exact⟨.inr ⟨n,_,hm,rfl⟩,λq x hq=>by obtain⟨u,hu,hh⟩:=hc q x hq;exact⟨u,hu,hh.frame (λ_ _=>rfl) kin⟩⟩
  refine Jr b8 dA hd (c':=c') (w':=w) (v:= .func (.func f) #[] (iA.map a.eval)) (λm _=>⟨rfl,rfl⟩) ?_ ?_ ?_ ?_ kin ?_ ?_ (λb _ _=>rfl) (cu _) rfl rfl rfl ?_ ?_ ?_
  ·intro n x hm;obtain⟨cs,ys,rfl,hg,hc⟩:=hD n x hm;exact fb n cs hm
  ·intro n x b hm hf;obtain⟨cs,ys,rfl,_⟩:=hD n x hm;exact hf.elim
  ·intro n x n' x' b hm _ hf;obtain⟨cs,ys,rfl,_⟩:=hD n x hm;exact hf.elim
  ·intro n xs hm;obtain⟨cs,ys,hx,_⟩:=hD n _ hm;cases hx
  ·rintro b (h|⟨n,x,hm,rfl⟩)
   ·exact .inl h
   ·exact .inr (.inl (own n x hm))
  ·rintro b (h|⟨n,x,hm,rfl⟩)
   ·exact b8.lt b h
   ·exact vp.lt b8 (own n x hm).own
  ·refine⟨iA.map a.eval,rfl,by simp[hl],λq cs hq=> ?_⟩
   obtain⟨x,hx,n,hv,hor⟩:=M7 q cs hq;rw[cO]at hx;refine⟨(c.P n).blk,by rw[My,hx,<-hv];rfl, ?_⟩
   rcases hor with hm|hg
   ·exact fb n cs hm
   ·exact FB.frame (b8.obj n _ hg) (λ_ _=>rfl) kin
  ·intro n hn;simp[cD,bI]at hn
  ·unfold execOp;rw[ho,Il];refine iE (s:=TB (.func f) ((#[]:de dn).map a.eval) (iA.map a.eval)) ?_;simp[TB]
 |_=>simp[lG,ho]at h
end
end Go.FG

namespace Go.FG
theorem ni:∀{l:az (aG×eu)} {k:aG} {c:eu},fK l k=c->c≠ .jE->(k,c)∈l:=by
 intro l;induction l with
 |nil=>intro k c h hc;exact cq h.symm hc
 |cons d l ih=>
  obtain⟨k',c'⟩:=d;intro k c h hc;unfold fK at h;cases hb:bA k k' with
  |true=>rw[hb]at h;have:=aW hb;subst this;have:c'=c:=h;subst this;exact du ..
  |false=>rw[hb]at h;exact cU _ (ih h hc)
theorem rm:∀{l:az (aG×eu)} {k:aG} {c:eu},(k,c)∈l->(∀d∈l,d.2≠ .jE)->fK l k≠ .jE:=by
 intro l;induction l with
 |nil=>intro k c h;cases h
 |cons d l ih=>
  obtain⟨k',c'⟩:=d;intro k c h hn;unfold fK;cases hb:bA k k' with
  |true=>exact hn _ (du ..)
  |false=>
   rcases cz.1 h with h|h
   ·cases h;simp at hb
   ·exact ih h (λd hd=>hn d (cU _ hd))
theorem Nn{nm:aG}{a:AA}{k:aG}{c:eu}:(k,c)∈Dw nm a↔∃e ex xs,a= .ow e ex xs/\k=cW nm/\c= .o (.row e ex xs):=by
 cases a with
 |ow e ex xs=>simp only[Dw,aZ,iR];exact⟨λ⟨h1,h2⟩=>⟨e,ex,xs,rfl,h1,h2⟩,λ⟨e',s9,Kq,h,h1,h2⟩=>by cases h;exact⟨h1,h2⟩⟩
 |_=>simp[Dw]
theorem Bf:∀{xs:az AA} {nm:aG} {k:aG} {c:eu},(k,c)∈sB nm xs↔∃j e ex ys,xs[j]? =aj (.ow e ex ys)/\k=cW (nm+j)/\c= .o (.row e ex ys):=by
 intro xs;induction xs with
 |nil=>intro nm k c;simp[sB]
 |cons a xs ih=>
  intro nm k c;simp only[sB,a_,Nn,ih];constructor
  ·rintro (⟨e,ex,ys,rfl,h1,h2⟩|⟨j,e,ex,ys,h0,h1,h2⟩)
   ·exact⟨0,e,ex,ys,rfl,h1,h2⟩
   ·exact⟨j+1,e,ex,ys,h0,by rw[h1];congr 1;omega,h2⟩
  ·rintro ⟨j,e,ex,ys,h0,h1,h2⟩;cases j with
   |zero=>cases h0;exact .inl ⟨e,ex,ys,rfl,h1,h2⟩
   |succ j=>exact .inr ⟨j,e,ex,ys,h0,by rw[h1];congr 1;omega,h2⟩
theorem g_{p:aG}{a:eR}{k:aG}{c:eu}:(k,c)∈uh p a↔(∃xs,a= .pt xs/\k=cW (dL p 900)/\c= .o (.box (gb (dL p 0) xs)))\/∃xs j e ex ys,((∃g,a= .v g xs)\/a= .pt xs)/\xs[j]? =aj (.ow e ex ys)/\k=cW (dL p j)/\c= .o (.row e ex ys):=by
 have hn:∀j,dL p 0+j=dL p j:=λj=>by unfold dL;omega
 cases a with
 |v g xs=>
  simp only[uh,Bf,hn];constructor
  ·rintro ⟨j,e,ex,ys,h⟩;exact .inr ⟨xs,j,e,ex,ys, .inl ⟨g,rfl⟩,h⟩
  ·rintro (⟨Kq,h,_⟩|⟨Kq,j,e,ex,ys,h,h'⟩)
   ·cases h
   ·rcases h with ⟨g',h⟩|h<;>cases h;exact⟨j,e,ex,ys,h'⟩
 |pt xs=>
  simp only[uh,cz,Bf,hn,iR];constructor
  ·rintro (⟨h1,h2⟩|⟨j,e,ex,ys,h⟩)
   ·exact .inl ⟨xs,rfl,h1,h2⟩
   ·exact .inr ⟨xs,j,e,ex,ys, .inr rfl,h⟩
  ·rintro (⟨Kq,h,h1,h2⟩|⟨Kq,j,e,ex,ys,h,h'⟩)
   ·cases h;exact .inl ⟨h1,h2⟩
   ·rcases h with ⟨g',h⟩|h<;>cases h;exact .inr ⟨j,e,ex,ys,h'⟩
 |fb xs=>
  simp only[uh,jz,false_iff];rintro (⟨Kq,h,_⟩|⟨Kq,j,e,ex,ys,h,h'⟩)
  ·cases h
  ·rcases h with ⟨g',h⟩|h<;>cases h
theorem ll:∀{l:az eR} {q:aG} {k:aG} {c:eu},(k,c)∈JE q l↔∃p a,l[p]? =aj a/\((k=pU (q+p)/\c= .v (sC (q+p) a))\/(k,c)∈uh (q+p) a):=by
 intro l;induction l with
 |nil=>intro q k c;simp[JE]
 |cons a l ih=>
  intro q k c;simp only[JE,cz,a_,ih,iR];constructor
  ·rintro ((⟨h1,h2⟩|h)|⟨p,b,h0,h⟩)
   ·exact⟨0,a,rfl, .inl ⟨h1,h2⟩⟩
   ·exact⟨0,a,rfl, .inr h⟩
   ·exact⟨p+1,b,h0,by rw[show q+(p+1)=q+1+p by omega];exact h⟩
  ·rintro ⟨p,b,h0,h⟩;cases p with
   |zero=>
    cases h0;rcases h with ⟨h1,h2⟩|h
    ·exact .inl (.inl ⟨h1,h2⟩)
    ·exact .inl (.inr h)
   |succ p=>exact .inr (⟨p,b,h0,by rw[show q+1+p=q+(p+1)by omega];exact h⟩)
theorem Hr{l:az eR}{q:aG}:∀d∈JE q l,d.2≠ .jE:=by
 rintro ⟨k,c⟩ h;obtain⟨p,a,_,h⟩:=ll.1 h;rcases h with ⟨_,h⟩|h
 ·rw[h];simp
 ·rcases g_.1 h with ⟨_,_,_,h⟩|⟨_,_,_,_,_,_,_,_,h⟩<;>rw[h]<;>simp
theorem zU{args:az eR}{m:aG}{ob:Obj}(h:inj args (cW m)= .o ob):∃p a,args[p]? =aj a/\((∃xs,a= .pt xs/\m=dL p 900/\ob= .box (gb (dL p 0) xs))\/∃xs j e ex ys,((∃g,a= .v g xs)\/a= .pt xs)/\xs[j]? =aj (.ow e ex ys)/\m=dL p j/\ob= .row e ex ys):=by
 obtain⟨p,a,h0,h⟩:=ll.1 (ni h (by simp));rw[bT]at h;refine⟨p,a,h0, ?_⟩
 rcases h with ⟨h,_⟩|h
 ·exact cq h (lM _ _)
 ·rcases g_.1 h with ⟨xs,h1,h2,h3⟩|⟨xs,j,e,ex,ys,h1,h2,h3,h4⟩
  ·cases h3;exact .inl ⟨xs,h1,jB h2,rfl⟩
  ·cases h4;exact .inr ⟨xs,j,e,ex,ys,h1,h2,jB h3,rfl⟩
theorem Ht{args:az eR}{n:aG}:(∃a,args[n]? =aj a/\slot (inj args) n=sC n a)\/slot (inj args) n= .un:=by
 unfold slot;cases h:inj args (pU n)with
 |v x=>
  obtain⟨p,a,h0,h⟩:=ll.1 (ni h (by simp));rw[bT]at h;rcases h with ⟨h1,h2⟩|h
  ·have:=FD h1;subst this;cases h2;exact .inl ⟨a,h0,rfl⟩
  ·rcases g_.1 h with ⟨_,_,h,_⟩|⟨_,_,_,_,_,_,_,h,_⟩<;>exact cq h (rj _ _)
 |o=>exact .inr rfl
 |jE=>exact .inr rfl
theorem ql{args:az eR}{p:aG}{a:eR}(h:args[p]? =aj a):(∀xs,a= .pt xs->inj args (cW (dL p 900))≠ .jE)/\∀xs j e ex ys,((∃g,a= .v g xs)\/a= .pt xs)->xs[j]? =aj (.ow e ex ys)->inj args (cW (dL p j))≠ .jE:=by
 constructor
 ·intro xs hx;exact rm (ll.2 ⟨p,a,h, .inr (g_.2 (.inl ⟨xs,hx,by rw[bT],rfl⟩))⟩) Hr
 ·intro xs j e ex ys hx hj;exact rm (ll.2 ⟨p,a,h, .inr (g_.2 (.inr ⟨xs,j,e,ex,ys,hx,hj,by rw[bT],rfl⟩))⟩) Hr
theorem ia:∀{xs:az AA} {nm j:aG},(gb nm xs)[j]? =(xs[j]?).map (kQ (nm+j)):=by
 intro xs;induction xs with
 |nil=>intro nm j;simp[gb]
 |cons a xs ih=>
  intro nm j;cases j with
  |zero=>rfl
  |succ j=>simp only[gb,dF,ih];congr 2;omega
theorem iy:∀{xs:az AA} {nm:aG},(gb nm xs).length=xs.length:=by
 intro xs;induction xs with
 |nil=>intro nm;rfl
 |cons a xs ih=>intro nm;simp[gb,ih]
theorem sE{nm:aG}{a:AA}{n:aG}(h:n∈bI (kQ nm a)):n=nm/\∃e ex ys,a= .ow e ex ys:=by cases a<;>simp[kQ,bI]at h;exact⟨h,_,_,_,rfl⟩
theorem Hs{args:az eR}(n:aG):mh (inj args) (slot (inj args) n):=by
 rcases Ht (args:=args) (n:=n)with ⟨a,h0,h⟩|h
 ·rw[h];intro m hm;have cells:∀xs,((∃g,a= .v g xs)\/a= .pt xs)->m∈(gb (dL n 0) xs).flatMap bI->inj args (cW m)≠ .jE:=by
   intro xs hx hm;obtain⟨v,hv,hm⟩:=bG.1 hm;obtain⟨j,hj⟩:=bZ hv;rw[ia]at hj;cases hy:xs[j]? with
   |none=>rw[hy]at hj;cases hj
   |some y=>
    rw[hy]at hj;cases hj;obtain⟨rfl,e,ex,ys,rfl⟩:=sE hm;have:=(ql h0).2 xs j e ex ys hx hy;have hn:dL n 0+j=dL n j:=by unfold dL;omega
    rw[hn];exact this
  cases a with
  |v g xs=>exact cells xs (.inl ⟨g,rfl⟩) hm
  |pt xs=>
   have:m=dL n 900:=by simpa [sC,cD,bI]using hm
   rw[this];exact(ql h0).1 xs rfl
  |fb xs=>simp[sC,cD,bI]at hm
 ·rw[h];intro m hm;simp[cD]at hm
theorem Fa{args:az eR}{nm:aG}{xs:az AV}(h:inj args (cW nm)= .o (.box xs)):∀a∈xs,iS (inj args) a:=by
 obtain⟨p,a,h0,hh⟩:=zU h;rcases hh with ⟨ys,rfl,_,hb⟩|⟨_,_,_,_,_,_,_,_,hb⟩
 ·cases hb;intro v hv m hm;obtain⟨j,hj⟩:=bZ hv;rw[ia]at hj;cases hy:ys[j]? with
  |none=>rw[hy]at hj;cases hj
  |some y=>
   rw[hy]at hj;cases hj;obtain⟨rfl,e,ex,zs,rfl⟩:=sE hm;have:=(ql h0).2 ys j e ex zs (.inr rfl) hy;have hn:dL p 0+j=dL p j:=by unfold dL;omega
   rw[hn];exact this
 ·cases hb
end Go.FG

namespace Go.FG
theorem tl{p j:aG}(h:j<1000):(dL p j-900000000)/1000=p/\(dL p j-900000000)%1000=j:=by unfold dL;omega
theorem Bm(p j:aG):900000000<=dL p j:=by unfold dL;omega
theorem tn{p j p' j':aG}(h:j<1000)(h':j'<1000)(e:dL p j=dL p' j'):p=p'/\j=j':=by unfold dL at e;omega
section
variable {P:cQ} {E:fB} {σ:St} {a:Act} {w:bF} {c:eK} {o:eV} {nm:aG} {e:rX}
theorem rh(b8:Ok E σ w c){n el:aG}{ex:aY}{xs:aX}(hg:σ (cW n)= .o (.row el ex xs)){K:aG->Prop}(hK:∀b,c.K b->K b)(hF:∀b,fa c n (.row el ex xs) b->K b):cY E w K (lj (c.P n)) (.l el xs):=by
 obtain⟨⟨t2,q1,q2,q3⟩,q4,q5⟩:=b8.obj n _ hg;refine pD q1 q2 q3 (q4.frame (λ_=>rfl) (λi j y x u hy hx hr=> ?_)) (λhn=>hF _ (.inl ⟨hn,rfl⟩));split at hr
 ·rename_i oZ;exact wC hr (λhl hn=>hF _ (.inr ⟨oZ,i,j,⟨y,x,hy,hx,hl⟩,hn,rfl⟩))
 ·exact hr.frame (λ_ _=>rfl) hK
theorem DO(b8:Ok E σ w c){n el:aG}{ex:aY}{xs:aX}(hg:σ (cW n)= .o (.row el ex xs)){K:aG->Prop}(hK:∀b,c.K b->K b)(hF:∀b,fa c n (.row el ex xs) b->K b){lo hi:aG}{v:bg}(hv:vF (c.P n) lo hi v):cY E w K v (.l el (eP xs lo hi)):=by obtain⟨⟨t2,q1,q2,q3⟩,q4,q5⟩:=b8.obj n _ hg;exact Hl q1 (rh b8 hg hK hF) q4.n q2 hv
def K1r(σ:St)(c:eK)(mX:az aG)(b:aG):Prop:=c.K b\/∃n∈mX,∃o,σ (cW n)= .o o/\fa c n o b
def uG(T:Tab)(σ:St)(w:bF)(c:eK)(mX:az aG)(k:Pk)(u:bg):Prop:=
 match k.src with
 | .own nm e ex=>∃xs,σ (cW nm)= .o (.row e ex xs)/\k.a= .ow e ex xs/\u=lj (c.P nm)
 | .no=>(∀c1:eK,(∀b,K1r σ c mX b->c1.K b)->∀nm,ea T w c1 (kQ nm k.a) u)/\∀e ex xs,k.a≠ .ow e ex xs
theorem uG.mono{T:Tab}{mX R8:az aG}{k:Pk}{u:bg}(h:uG T σ w c mX k u)(hs:∀n∈mX,n∈R8):uG T σ w c R8 k u:=by
 unfold uG at h⊢;split
 ·rename_i hk;rw[hk]at h;exact h
 ·rename_i hk;rw[hk]at h;exact⟨λc1 h1=>h.1 c1 (λb hb=>h1 b (hb.imp id (λ⟨n,hn,hh⟩=>⟨n,hs n hn,hh⟩))),h.2⟩
theorem Bx(b8:Ok E σ w c){mt:aY}{x:AV}{k:Pk}{u:bg}(h:(yZ E mt x).val σ=aj k)(hx:ea E w c x u):uG E σ w c k.rd k u:=by
 have rd:∀{n el:aG} {ex:aY} {xs:aX},σ (cW n)= .o (.row el ex xs)->∀c1:eK,(∀b,K1r σ c [n] b->c1.K b)->(∀b,c.K b->c1.K b)/\∀b,fa c n (.row el ex xs) b->c1.K b:=λhg c1 h=>⟨λb hb=>h b (.inl hb),λb hb=>h b (.inr ⟨_,aZ.2 rfl,_,hg,hb⟩)⟩
 cases x with
 |i=>obtain rfl:=aF h;exact⟨λc1 _ _=>hx,λ_ _ _ hh=>by cases hh⟩
 |b=>obtain rfl:=aF h;exact⟨λc1 _ _=>hx,λ_ _ _ hh=>by cases hh⟩
 |s=>obtain rfl:=aF h;exact⟨λc1 _ _=>hx,λ_ _ _ hh=>by cases hh⟩
 |nl=>obtain rfl:=aF h;exact⟨λc1 _ _=>hx,λ_ _ _ hh=>by cases hh⟩
 |sh e xs=>obtain rfl:=aF h;exact⟨λc1 h1 _=>cY.frame hx (λ_ _=>rfl) (λb hb=>h1 b (.inl hb)),λ_ _ _ hh=>by cases hh⟩
 |fn f iA=>obtain rfl:=aF h;exact⟨λc1 h1 _=>ea.frame (a:= .fn f iA) hx (λ_ _=>rfl) (λb hb=>h1 b (.inl hb)) (λn hn=>by simp[bI]at hn),λ_ _ _ hh=>by cases hh⟩
 |own n=>
  obtain⟨ob,hg,h⟩:=Rd.bind_some h;have hg:=dp hg;have hx:u=lj (c.P n):=hx;cases ob with
  |row el ex xs=>
   cases mt with
   |true=>obtain rfl:=aF h;exact⟨xs,hg,rfl,hx⟩
   |false=>
    obtain rfl:=aF h;refine⟨λc1 h1 _=> ?_,λ_ _ _ hh=>by cases hh⟩
    obtain⟨r1,r2⟩:=rd hg c1 h1;rw[hx];exact rh b8 hg r1 r2
  |fE el xs=>
   obtain rfl:=aF h;refine⟨λc1 h1 _=> ?_,λ_ _ _ hh=>by cases hh⟩
   rw[hx];exact cY.frame (b8.obj n _ hg).1 (λ_ _=>rfl) (λb hb=>h1 b (.inl hb))
  |_=>simp at h
 |vw n lo hi=>
  cases mt with
  |true=>simp[yZ]at h
  |false=>
  obtain⟨ob,hg,h⟩:=Rd.bind_some h;have hg:=dp hg;cases ob with
  |row el ex xs=>
   obtain rfl:=aF h;refine⟨λc1 h1 _=> ?_,λ_ _ _ hh=>by cases hh⟩
   obtain⟨r1,r2⟩:=rd hg c1 h1;exact DO b8 hg r1 r2 hx
  |fE el xs=>
   obtain rfl:=aF h;refine⟨λc1 h1 _=> ?_,λ_ _ _ hh=>by cases hh⟩
   exact cY.frame (oO b8 hg hx) (λ_ _=>rfl) (λb hb=>h1 b (.inl hb))
  |_=>simp at h
 |inn n i j=>
  obtain⟨ob,hg,h⟩:=Rd.bind_some h;have hg:=dp hg;cases ob with
  |row el ex xs=>
   cases ex with
   |false=>simp at h
   |true=>
   obtain⟨te,ht,h⟩:=Rd.bind_some h;have ht:=dP ht;split at h
   ·rename_i e2 zv;obtain⟨t2,E8,h⟩:=Rd.bind_some h;obtain⟨_,h⟩:=cE h;obtain rfl:=aF h;obtain⟨⟨hi,hx⟩,_⟩:=hx;obtain⟨zs,y,t3,q1,q2,q3,q4,q5,q6,q7,q8⟩:=zV b8 hg ht zv hi;refine⟨λc1 h1 _=> ?_,λ_ _ _ hh=>by cases hh⟩
    show cY E w c1.K u (.l e2 (ju (aw xs i j)));rw[e7 q1 q2,hx];obtain⟨r1,r2⟩:=rd hg c1 h1;exact pD q3 q5 q6 (q7.frame (λ_=>rfl) (λi' j' y' x' u' hy' oZ hr=>kj (gV q4 (q6 y' (aQ hy')) oZ) hr)) (λhn=>r2 _ (.inr ⟨rfl,i,j,⟨y,_,q1,q2,rfl⟩,hn,rfl⟩))
   ·simp at h
  |_=>simp at h
 |_=>simp[yZ]at h
theorem DG(b8:Ok E σ w c){mt:aY}:∀{xs:az AV} {l:az Pk},(Bz E mt xs).val σ=aj l->l.length=xs.length/\∀(j:aG) (k:Pk),l[j]? =aj k->∃x,xs[j]? =aj x/\(yZ E mt x).val σ=aj k:=by
 intro xs;induction xs with
 |nil=>intro l h;obtain rfl:=aF h;exact⟨rfl,λj k h=>by simp at h⟩
 |cons x xs ih=>
  intro l h;obtain⟨k,h1,h⟩:=Rd.bind_some h;obtain⟨l',h2,h⟩:=Rd.bind_some h;obtain rfl:=aF h;obtain⟨i1,i2⟩:=ih h2;refine⟨by simp[i1],λj k' hj=> ?_⟩
  cases j with
  |zero=>cases hj;exact⟨x,rfl,h1⟩
  |succ j=>exact i2 j k' hj
structure zi (T:Tab) (σ:St) (w:bF) (c:eK) (mX:az aG) (pa:Pa) (v:bg):Prop where
 len:pa.cs.length<=100
 val:pa.box=ao->∃agg,pa.arg= .v agg (pa.cs.map (·.a))/\((agg=aq/\∃k,pa.cs=[k]/\uG T σ w c mX k v)\/(agg=ak/\∃vals:de bg,v= .agg vals/\vals.size=pa.cs.length/\∀(j:aG) (k:Pk),pa.cs[j]? =aj k->∃u:bg,vals[j]? =aj u/\uG T σ w c mX k u))
 box:∀n xs,pa.box=aj (n,xs)->pa.arg= .pt (pa.cs.map (·.a))/\v= .pointer (aj (ad (c.P n).blk 0))/\σ (cW n)= .o (.box xs)/\pa.cs.length=xs.length/\
  (∃vals,nr w (c.P n).blk vals/\vals.size=xs.length/\∀(j:aG) (k:Pk),pa.cs[j]? =aj k->∃u:bg,vals[j]? =aj u/\uG T σ w c mX k u)/\
  ∀(j:aG) (k:Pk) (nm e:aG) (ex:aY),pa.cs[j]? =aj k->k.src= .own nm e ex->xs[j]? =aj (.own nm)
theorem Fj{pa:Pa}{j:aG}{k:Pk}(h:pa.cs[j]? =aj k):∀n∈k.rd,n∈pa.mX:=λn hn=>bG.2 ⟨k,aQ h,hn⟩
theorem NA{mt:aY}{x:AV}{k:Pk}(h:(yZ E mt x).val σ=aj k){nm e:aG}{ex:aY}(hs:k.src= .own nm e ex):x= .own nm:=by
 cases x with
 |own n=>
  obtain⟨ob,hg,h⟩:=Rd.bind_some h;cases ob with
  |row el s9 xs=>
   cases mt with
   |true=>obtain rfl:=aF h;cases hs;rfl
   |false=>obtain rfl:=aF h;cases hs
  |fE el xs=>obtain rfl:=aF h;cases hs
  |_=>simp at h
 |vw n lo hi=>
  cases mt with
  |true=>simp[yZ]at h
  |false=>
  obtain⟨ob,hg,h⟩:=Rd.bind_some h;cases ob with
  |row=>obtain rfl:=aF h;cases hs
  |fE=>obtain rfl:=aF h;cases hs
  |_=>simp at h
 |inn n i j=>
  obtain⟨ob,hg,h⟩:=Rd.bind_some h;cases ob with
  |row el ex xs=>
   cases ex with
   |false=>simp at h
   |true=>
   obtain⟨te,ht,h⟩:=Rd.bind_some h;split at h
   ·obtain⟨t2,E8,h⟩:=Rd.bind_some h;obtain⟨_,h⟩:=cE h;obtain rfl:=aF h;cases hs
   ·simp at h
  |_=>simp at h
 |i=>obtain rfl:=aF h;cases hs
 |b=>obtain rfl:=aF h;cases hs
 |s=>obtain rfl:=aF h;cases hs
 |nl=>obtain rfl:=aF h;cases hs
 |sh=>obtain rfl:=aF h;cases hs
 |fn=>obtain rfl:=aF h;cases hs
 |_=>simp[yZ]at h
theorem Us(b8:Ok E σ w c){mt:aY}{x:SV}{pa:Pa}{v:bg}(h:(aaT E mt x).val σ=aj pa)(hl:pa.cs.length<=100)(hx:iU E w c x v):zi E σ w c pa.mX pa v:=by
 have gen:∀agg xs,x= .v agg xs->((Bz E mt xs).bind λl=>Rd.ret (⟨.v agg (l.map (·.a)),ao,l⟩:Pa)).val σ=aj pa->zi E σ w c pa.mX pa v:=by
  rintro agg xs rfl h;obtain⟨l,h1,h⟩:=Rd.bind_some h;obtain rfl:=aF h;obtain⟨i1,i2⟩:=DG b8 h1;refine⟨hl,λ_=>⟨agg,rfl, ?_⟩,λn ys hb=>by cases hb⟩
  replace hx:pO E w c agg xs v:=hx;unfold pO at hx;split at hx
  ·rename_i y;left;obtain⟨k,rfl⟩:=gD.1 (i1.trans rfl);obtain⟨y',hy,hk⟩:=i2 0 k rfl;cases hy;exact⟨rfl,k,rfl,(Bx b8 hk hx).mono (Fj (j:=0) (pa:=⟨.v aq ([k].map (·.a)),ao,[k]⟩) rfl)⟩
  ·obtain⟨vals,rfl,hs,hv⟩:=hx;right;refine⟨rfl,vals,rfl,by rw[hs];exact i1.symm,λj k hj=> ?_⟩
   obtain⟨y,hy,hk⟩:=i2 j k hj;obtain⟨u,hu,ha⟩:=hv j y hy;exact⟨u,hu,(Bx b8 hk ha).mono (Fj (j:=j) (pa:=⟨.v ak (l.map (·.a)),ao,l⟩) hj)⟩
  ·exact hx.elim
 unfold aaT at h;split at h
 ·rename_i n;obtain⟨_,h⟩:=cE h;obtain⟨ob,hg,h⟩:=Rd.bind_some h;have hg:=dp hg;cases ob with
  |box xs=>
   obtain⟨l,h1,h⟩:=Rd.bind_some h;obtain rfl:=aF h;obtain⟨i1,i2⟩:=DG b8 h1;obtain⟨vals,hb,hs,hv⟩:=b8.obj n _ hg;refine⟨hl,λhb=>(by cases hb),λm ys Oa=> ?_⟩
   cases Oa;refine⟨rfl,hx,hg,i1,⟨vals,hb,hs,λj k hj=> ?_⟩,λj k nm e ex hj CE=> ?_⟩
   ·obtain⟨y,hy,hk⟩:=i2 j k hj;obtain⟨u,hu,ha⟩:=hv j y hy;exact⟨u,hu,(Bx b8 hk ha).mono (Fj (j:=j) (pa:=⟨.pt (l.map (·.a)),aj (n,xs),l⟩) hj)⟩
   ·obtain⟨y,hy,hk⟩:=i2 j k hj;rw[hy,NA hk CE]
  |_=>simp at h
 ·rename_i agg xs _;exact gen _ _ rfl h
 ·simp at h
theorem LN{T:Tab}{k:Ck}{y:AV}{u:bg}(h:ea T w c y u):ea T w c (Wr k y) u:=by
 unfold Wr;split
 ·rename_i e;have:u= .slice ao 0 0:=h;subst this;exact .nl _ _ _
 ·exact h
theorem HF:∀(ks:az Ck) (xs:az AV),(Bl ks xs).length=xs.length
 |[],[]=>rfl
 |[],_::_=>rfl
 |_::_,[]=>rfl
 |k::ks,y::r=>by simp[Bl,HF ks r]
theorem LO{T:Tab}:∀(ks:az Ck) (xs:az AV) (j:aG) (y:AV),(Bl ks xs)[j]? =aj y->∃z,xs[j]? =aj z/\∀u,ea T w c z u->ea T w c y u
 |[],xs,j,y,h=>⟨y,by simpa [Bl]using h,λ_ h=>h⟩
 |_::_,[],j,y,h=>by simp[Bl]at h
 |k::ks,x::r,0,y,h=>by
  simp only[Bl,rJ,jf]at h;subst h;exact⟨x,rfl,λu hu=>LN hu⟩
 |k::ks,x::r,j+1,y,h=>by simp only[Bl,dF]at h;exact LO ks r j y h
theorem ack{T:Tab}{t:aD aG}{s:SV}{v:bg}(h:iU T w c s v):iU T w c (nlz T t s) v:=by
 unfold nlz;split
 ·exact h
 ·split
  ·rename_i ti g xs _;have h:pO T w c g xs v:=h;show pO T w c g (Bl ti.ks xs) v;unfold pO at h;split at h
   ·rename_i y;cases hk:ti.ks with
    |nil=>exact h
    |cons k ks=>
     have e:∀z,Bl (k::ks) [z]=[Wr k z]:=λz=>by cases ks<;>rfl
     rw[e];exact LN h
   ·obtain⟨vals,h1,h2,h3⟩:=h;refine⟨vals,h1,by rw[HF];exact h2,λj y hj=> ?_⟩
    obtain⟨z,hz,hy⟩:=LO (T:=T) (w:=w) (c:=c) ti.ks _ j y hj;obtain⟨u,hu,ha⟩:=h3 j z hz;exact⟨u,hu,hy u ha⟩
   ·cases h
  ·exact h
theorem P0(b8:Ok E σ w c)(dA:eZ E σ a w c){f:aG}{Oi:aD (az aG)}:∀{xs:az dn} {p:aG} {ps:az Pa},(PZ E f Oi p xs).val σ=aj ps->ps.length=xs.length/\∀(q:aG) (pa:Pa),ps[q]? =aj pa->∃x,xs[q]? =aj x/\zi E σ w c pa.mX pa (a.eval x):=by
 intro xs;induction xs with
 |nil=>intro p ps h;obtain rfl:=aF h;exact⟨rfl,λq pa h=>by simp at h⟩
 |cons x xs ih=>
  intro p ps h;obtain⟨v,h1,h⟩:=Rd.bind_some h;obtain⟨pa,h2,h⟩:=Rd.bind_some h;obtain⟨hl,h⟩:=cE h;obtain⟨l,h3,h⟩:=Rd.bind_some h;obtain rfl:=aF h;obtain⟨i1,i2⟩:=ih h3;refine⟨by simp[i1],λq pa' hq=> ?_⟩
  cases q with
  |zero=>
   cases hq;refine⟨x,rfl,Us b8 h2 (cC hl) ?_⟩
   cases E.mode f p with
   |true=>exact(lN dA h1).1
   |false=>exact ack (lN dA h1).1
  |succ q=>exact i2 q pa' hq
theorem zi.mono{T:Tab}{mX R8:az aG}{pa:Pa}{v:bg}(h:zi T σ w c mX pa v)(hs:∀n∈mX,n∈R8):zi T σ w c R8 pa v:=by
 refine⟨h.len,λhb=> ?_,λn xs hb=> ?_⟩
 ·obtain⟨agg,h1,h2⟩:=h.val hb;refine⟨agg,h1, ?_⟩
  rcases h2 with ⟨h3,k,h4,h5⟩|⟨h3,vals,h4,h5,h6⟩
  ·exact .inl ⟨h3,k,h4,h5.mono hs⟩
  ·exact .inr ⟨h3,vals,h4,h5,λj k hj=>by obtain⟨u,hu,hk⟩:=h6 j k hj;exact⟨u,hu,hk.mono hs⟩⟩
 ·obtain⟨h1,h2,h3,h4,⟨vals,h5,h6,h7⟩,h8⟩:=h.box n xs hb;exact⟨h1,h2,h3,h4,⟨vals,h5,h6,λj k hj=>by obtain⟨u,hu,hk⟩:=h7 j k hj;exact⟨u,hu,hk.mono hs⟩⟩,h8⟩
end
end Go.FG

namespace Go.FG
theorem lr{α:Type}{f:α->az aG}:∀{l:az α},(l.flatMap f).Nodup->(∀(i j:aG) (x y:α) (z:aG),l[i]? =aj x->l[j]? =aj y->z∈f x->z∈f y->i=j)/\∀x∈l,(f x).Nodup:=by
 intro l;induction l with
 |nil=>intro _;exact⟨λi j x y z h=>by simp at h,λx h=>by cases h⟩
 |cons a l ih=>
  intro h;rw[wS]at h;obtain⟨h1,h2,h3⟩:=dX.1 h;obtain⟨i1,i2⟩:=ih h2;refine⟨λi j x y z hi hj hx hy=> ?_,λx hx=> ?_⟩
  ·cases i with
   |zero=>
    cases hi;cases j with
    |zero=>rfl
    |succ j=>exact cq rfl (h3 z hx z (bG.2 ⟨y,aQ hj,hy⟩))
   |succ i=>
    cases j with
    |zero=>cases hj;exact cq rfl (h3 z hy z (bG.2 ⟨x,aQ hi,hx⟩))
    |succ j=>rw[i1 i j x y z hi hj hx hy]
  ·rcases cz.1 hx with rfl|hx
   ·exact h1
   ·exact i2 x hx
def loc(ps:az Pa)(m:aG):aD aG:=
 match ps[(m-900000000)/1000]? with
 |none=>ao
 |some pa=>if(m-900000000)%1000=900 then pa.box.map (·.1)else(pa.cs[(m-900000000)%1000]?).bind λk=>match k.src with| .own nm _ _=>aj nm| .no=>ao
theorem Fg{ps:az Pa}{p j:aG}{pa:Pa}{k:Pk}{nm e:aG}{ex:aY}(hp:ps[p]? =aj pa)(hj:pa.cs[j]? =aj k)(hs:k.src= .own nm e ex)(hl:j<900):loc ps (dL p j)=aj nm:=by obtain⟨h1,h2⟩:=tl (p:=p) (j:=j) (by omega);unfold loc;rw[h1,h2,hp];simp only;rw[bL (by omega),hj];simp only[Option.bind_some,hs]
theorem zX{ps:az Pa}{p n:aG}{pa:Pa}{xs:az AV}(hp:ps[p]? =aj pa)(hb:pa.box=aj (n,xs)):loc ps (dL p 900)=aj n:=by obtain⟨h1,h2⟩:=tl (p:=p) (j:=900) (by omega);unfold loc;rw[h1,h2,hp];simp[hb]
def qj(σ:St)(c:eK)(ps:az Pa):eK:=
 ⟨λm=>match loc ps m with|some n=>c.P n|none=>⟨ak,0,0,0,0,0⟩,λm=>match loc ps m with|some n=>c.G n|none=>λ_ _=>⟨ak,0,0,0,0,0⟩,K1r σ c (ps.flatMap (·.mX))⟩
theorem s7{σ:St}{c:eK}{ps:az Pa}{m n:aG}(h:loc ps m=aj n):(qj σ c ps).P m=c.P n/\(qj σ c ps).G m=c.G n:=by unfold qj;simp only[h];exact⟨trivial,trivial⟩
section
variable {P:cQ} {E:fB} {σ:St} {a:Act} {w:bF} {c:eK} {o:eV} {nm:aG} {e:rX}
structure Handed (T:Tab) (σ:St) (w:bF) (c:eK) (ps:az Pa) (zP:az (az CV)) (vs:de bg):Prop where
 size:vs.size=ps.length+zP.length
 at_:∀(q:aG) (pa:Pa),ps[q]? =aj pa->∃v,vs[q]? =aj v/\zi T σ w c (ps.flatMap (·.mX)) pa v
 fb:∀(q:aG) (cs:az CV),zP[q]? =aj cs->∃b,vs[ps.length+q]? =aj (.pointer (aj (ad b 0)))/\FB T w c.K b cs
 nd:(ps.flatMap (·.th)).Nodup
 ap:∀n∈ps.flatMap (·.th),n∉ps.flatMap (·.mX)
def jk(ps:az Pa)(zP:az (az CV)):az eR:=ps.map (·.arg)++zP.map eR.fb
theorem uP{ps:az Pa}{zP:az (az CV)}{p:aG}{x:eR}(h:(jk ps zP)[p]? =aj x):(∃pa,ps[p]? =aj pa/\x=pa.arg)\/(ps.length<=p/\∃cs,zP[p-ps.length]? =aj cs/\x= .fb cs):=by
 unfold jk at h;by_cases hp:p<ps.length
 ·rw[dg (by simpa using hp),bE]at h;cases hq:ps[p]? with
  |none=>rw[hq]at h;cases h
  |some pa=>rw[hq]at h;cases h;exact .inl ⟨pa,rfl,rfl⟩
 ·rw[cZ (by simp;omega),bE,bP]at h;cases hq:zP[p-ps.length]? with
  |none=>rw[hq]at h;cases h
  |some cs=>rw[hq]at h;cases h;exact .inr ⟨by omega,cs,rfl,rfl⟩
theorem RW{T:Tab}{ps:az Pa}{p j:aG}{pa:Pa}{k:Pk}{u:bg}(hp:ps[p]? =aj pa)(hj:pa.cs[j]? =aj k)(hl:j<900)(h:uG T σ w c (ps.flatMap (·.mX)) k u):ea T w (qj σ c ps) (kQ (dL p j) k.a) u:=by
 unfold uG at h;split at h
 ·rename_i n e ex hs;obtain⟨xs,h1,h2,h3⟩:=h;rw[h2];show u=lj ((qj σ c ps).P (dL p j));rw[(s7 (Fg hp hj hs hl)).1];exact h3
 ·exact h.1 _ (λb hb=>hb) _
theorem RV{T:Tab}{mX:az aG}{pa:Pa}{v:bg}(h:zi T σ w c mX pa v){xs:az AA}(hx:(∃g,pa.arg= .v g xs)\/pa.arg= .pt xs):xs=pa.cs.map (·.a)/\∀(j:aG) (k:Pk),pa.cs[j]? =aj k->∃u,uG T σ w c mX k u:=by
 cases hb:pa.box with
 |none=>
  obtain⟨agg,h1,h2⟩:=h.val hb;rw[h1]at hx;have:xs=pa.cs.map (·.a):=by rcases hx with ⟨g,hx⟩|hx<;>cases hx;rfl
  refine⟨this,λj k hj=> ?_⟩
  rcases h2 with ⟨_,k',hk,hp⟩|⟨_,vals,_,_,hp⟩
  ·rw[hk]at hj;cases j with
   |zero=>cases hj;exact⟨_,hp⟩
   |succ j=>simp at hj
  ·obtain⟨u,_,hu⟩:=hp j k hj;exact⟨u,hu⟩
 |some nx=>
  obtain⟨n,ys⟩:=nx;obtain⟨h1,_,_,_,⟨vals,_,_,hp⟩,_⟩:=h.box n ys hb;rw[h1]at hx;have:xs=pa.cs.map (·.a):=by rcases hx with ⟨g,hx⟩|hx<;>cases hx;rfl
  exact⟨this,λj k hj=>by obtain⟨u,_,hu⟩:=hp j k hj;exact⟨u,hu⟩⟩
theorem vU(b8:Ok E σ w c){ps:az Pa}{zP:az (az CV)}{vs:de bg}(hh:Handed E σ w c ps zP vs){m:aG}{ob:Obj}(h:inj (jk ps zP) (cW m)= .o ob):
  ∃n o p pa,loc ps m=aj n/\ps[p]? =aj pa/\n∈pa.th/\σ (cW n)= .o o/\pk E w (qj σ c ps) m ob/\(∀b,fa (qj σ c ps) m ob b->fa c n o b)/\
   ((m=dL p 900/\∃xs,pa.box=aj (n,xs))\/∃j k e ex,m=dL p j/\j<900/\pa.cs[j]? =aj k/\k.src= .own n e ex):=by
 obtain⟨p,x,h0,h⟩:=zU h;have apb:∀cs xs,x= .fb cs->¬((∃g,x= .v g xs)\/x= .pt xs):=by rintro cs xs rfl (⟨g,h⟩|h)<;>cases h
 rcases uP h0 with ⟨pa,hp,rfl⟩|⟨_,cs,_,hx⟩
 ·obtain⟨v,hv,Jz⟩:=hh.at_ p pa hp;rcases h with ⟨xs,hx,rfl,rfl⟩|⟨xs,j,e,ex,ys,hx,hj,rfl,rfl⟩
  ·cases hb:pa.box with
   |none=>obtain⟨agg,h1,_⟩:=Jz.val hb;rw[h1]at hx;cases hx
   |some nx=>
    obtain⟨n,zs⟩:=nx;obtain⟨h1,h2,h3,h4,⟨vals,h5,h6,h7⟩,_⟩:=Jz.box n zs hb;rw[h1]at hx;cases hx;have QE:=zX hp hb;obtain⟨e1,e2⟩:=s7 (σ:=σ) (c:=c) QE;refine⟨n,_,p,pa,QE,hp,by simp[Pa.th,hb],h3, ?_,λb hf=>by rw[show b=_ from hf,e1];rfl, .inl ⟨rfl,zs,hb⟩⟩
    refine⟨vals,by rw[e1];exact h5,by rw[iy,bP,h6];exact h4.symm,λj y hj=> ?_⟩
    rw[ia,bE]at hj;cases hk:pa.cs[j]? with
    |none=>rw[hk]at hj;cases hj
    |some k=>
     rw[hk]at hj;cases hj;obtain⟨u,hu,UZ⟩:=h7 j k hk;have jC:j<900:=by have:=(aU.1 hk).1;have:=Jz.len;omega
     refine⟨u,hu, ?_⟩
     have hn:dL p 0+j=dL p j:=by unfold dL;omega
     rw[hn];exact RW hp hk jC UZ
  ·obtain⟨Yf,UZ⟩:=RV Jz hx;rw[Yf,bE]at hj;cases hk:pa.cs[j]? with
   |none=>rw[hk]at hj;cases hj
   |some k=>
    rw[hk]at hj;have hka:k.a= .ow e ex ys:=by simpa using hj
    obtain⟨u,hu⟩:=UZ j k hk;have jC:j<900:=by have:=(aU.1 hk).1;have:=Jz.len;omega
    unfold uG at hu;split at hu
    ·rename_i n e' s9 hs;obtain⟨zs,q1,q2,q3⟩:=hu;rw[hka]at q2;cases q2;have QE:=Fg hp hk hs jC;obtain⟨e1,e2⟩:=s7 (σ:=σ) (c:=c) QE;refine⟨n,_,p,pa,QE,hp, ?_,q1, ?_,λb hf=>by rw[lK (c:=⟨λ_=>c.P n,λ_=>c.G n,c.K⟩) (c':=qj σ c ps) ⟨e1,e2⟩]at hf;exact hf, .inr ⟨j,k,e,ex,rfl,jC,hk,hs⟩⟩
     ·refine bH _ (bG.2 ⟨k,aQ hk, ?_⟩);simp[Pk.th,hs]
     ·have mq:=b8.obj n _ q1;obtain⟨⟨t2,r1,r2,r3⟩,r4,r5⟩:=mq;refine⟨⟨t2,r1,by rw[e1];exact r2,r3⟩, ?_,λhx=>by rw[e1,e2];exact r5 hx⟩
      rw[e1,e2];refine r4.frame (λ_=>rfl) (λi j y x u hy hx hr=> ?_);split at hr
      ·rename_i oZ;rw[bC oZ];exact hr
      ·rename_i oZ;rw[bL oZ];exact hr.frame (λ_ _=>rfl) (λb hb=> .inl hb)
    ·exact cq hka (hu.2 _ _ _)
 ·rcases h with ⟨xs,h,_⟩|⟨xs,j,e,ex,ys,h,_⟩
  ·rw[hx]at h;cases h
  ·exact cq h (apb cs xs hx)
theorem enter(b8:Ok E σ w c){ps:az Pa}{zP:az (az CV)}{vs:de bg}(hh:Handed E σ w c ps zP vs):
  Ok E (inj (jk ps zP)) w (qj σ c ps)/\(∀(p:aG) (x:eR),(jk ps zP)[p]? =aj x->∃v,vs[p]? =aj v/\iU E w (qj σ c ps) (sC p x) v)/\
  ∀b,vp (inj (jk ps zP)) (qj σ c ps) b->∃n∈ps.flatMap (·.th),∃o,σ (cW n)= .o o/\fa c n o b:=by
 have HD:∀{p:aG} {pa:Pa} {n:aG},ps[p]? =aj pa->n∈pa.th->n∈ps.flatMap (·.th):=λhp hn=>bG.2 ⟨_,aQ hp,hn⟩;obtain⟨nd1,nd2⟩:=lr hh.nd;refine⟨⟨λm ob h=> ?_,λm ob m' ob' b h h' hf wH=> ?_,λm ob b h hf hk=> ?_,λb hb=> ?_,λm xs h=>Fa h⟩,λp x hx=> ?_, ?_⟩
 ·obtain⟨n,o,p,pa,_,_,_,_,h,_⟩:=vU b8 hh h;exact h
 ·obtain⟨n,o,p,pa,_,hp,hn,ho,_,py,kH⟩:=vU b8 hh h;obtain⟨n',o',p',pa',_,mD,j9,ug,_,QB,Yb⟩:=vU b8 hh h';have:=b8.sep n o n' o' b ho ug (py b hf) (QB b wH);subst this;have:=nd1 p p' pa pa' n hp mD hn j9;subst this;rw[hp]at mD;cases mD;have ndm:=nd2 pa (aQ hp);unfold Pa.th at ndm;obtain⟨_,m2,m3⟩:=dX.1 ndm;have aft:∀(j:aG) (k:Pk) (e:aG) (ex:aY),pa.cs[j]? =aj k->k.src= .own n e ex->n∈pa.cs.flatMap (·.th):=λj k e ex hk hs=>bG.2 ⟨k,aQ hk,by simp[Pk.th,hs]⟩;rcases kH with ⟨rfl,xs,hb⟩|⟨j,k,e,ex,rfl,hj,hk,hs⟩
  ·rcases Yb with ⟨rfl,_⟩|⟨j',k',e',s9,rfl,Lx,uf,hs'⟩
   ·rfl
   ·exact cq rfl (m3 n (by simp[hb]) n (aft _ _ _ _ uf hs'))
  ·rcases Yb with ⟨rfl,xs,hb⟩|⟨j',k',e',s9,rfl,Lx,uf,hs'⟩
   ·exact cq rfl (m3 n (by simp[hb]) n (aft _ _ _ _ hk hs))
   ·have:=(lr m2).1 j j' k k' n hk uf (by simp[Pk.th,hs]) (by simp[Pk.th,hs']);rw[this]
 ·obtain⟨n,o,p,pa,_,hp,hn,ho,_,py,_⟩:=vU b8 hh h;rcases hk with hk|⟨n',j9,o',ug,wH⟩
  ·exact b8.kk n o b ho (py b hf) hk
  ·have:=b8.sep n o n' o' b ho ug (py b hf) wH;subst this;exact hh.ap n (HD hp hn) j9
 ·rcases hb with hb|⟨n',j9,o',ug,wH⟩
  ·exact b8.lt b hb
  ·exact vp.lt b8 ⟨n',o',ug,wH⟩
 ·rcases uP hx with ⟨pa,hp,rfl⟩|⟨hle,cs,F_,rfl⟩
  ·obtain⟨v,hv,Jz⟩:=hh.at_ p pa hp;refine⟨v,hv, ?_⟩
   have small:∀{j:aG} {k:Pk},pa.cs[j]? =aj k->j<900:=λhj=>by have:=(aU.1 hj).1;have:=Jz.len;omega
   cases hb:pa.box with
   |none=>
    obtain⟨agg,h1,h2⟩:=Jz.val hb;rw[h1];rcases h2 with ⟨rfl,k,hk,UZ⟩|⟨rfl,vals,rfl,hs,hc⟩
    ·rw[hk];have:=RW (j:=0) hp (by rw[hk];rfl) (by omega) UZ;exact this
    ·refine⟨vals,rfl,by rw[iy,bP];exact hs,λj y hj=> ?_⟩
     rw[ia,bE]at hj;cases hk:pa.cs[j]? with
     |none=>rw[hk]at hj;cases hj
     |some k=>
      rw[hk]at hj;cases hj;obtain⟨u,hu,UZ⟩:=hc j k hk;refine⟨u,hu, ?_⟩
      have hn:dL p 0+j=dL p j:=by unfold dL;omega
      rw[hn];exact RW hp hk (small hk) UZ
   |some nx=>obtain⟨n,zs⟩:=nx;obtain⟨h1,h2,_⟩:=Jz.box n zs hb;rw[h1];show v= .pointer (aj (ad ((qj σ c ps).P (dL p 900)).blk 0));rw[(s7 (zX hp hb)).1];exact h2
  ·obtain⟨b,hv,hf⟩:=hh.fb (p-ps.length) cs F_;rw[show ps.length+(p-ps.length)=p by omega]at hv;exact⟨_,hv,b,rfl,hf.frame (λ_ _=>rfl) (λb hb=> .inl hb)⟩
 ·rintro b ⟨m,ob,h,hf⟩;obtain⟨n,o,p,pa,_,hp,hn,ho,_,py,_⟩:=vU b8 hh h;exact⟨n,HD hp hn,o,ho,py b hf⟩
end
end Go.FG

namespace Go.FG
def sI(p j:aG)(a:AA):AV:=match a with| .kp _=> .own (dL p j)|a=>kQ (dL p (100+j)) a
def nF(p:aG):aG->az AA->az AV
 |_,[]=>[]|j,a::r=>sI p j a::nF p (j+1) r
def HO(p j:aG)(a b:AA):az (aG×eu):=
 match b with
 | .kp ys=>(match a with| .ow e ex _=>[(cW (dL p j), .o (.row e ex ys))]|_=>[])
 | .ow e ex ys=>[(cW (dL p (100+j)), .o (.row e ex ys))]
 |_=>[]
def sJ(p:aG):aG->az AA->az AA->az (aG×eu)
 |_,_,[]=>[]|j,as,b::r=>HO p j (as.headD .nl) b++sJ p (j+1) as.tail r
def Bu(p:aG)(a:eR)(l:az AA):az (aG×eu):=
 match a with
 | .v _ xs=>sJ p 0 xs l
 | .pt xs=>(cW (dL p 900), .o (.box (nF p 0 l)))::sJ p 0 xs l
 | .fb _=>[]
def JU:aG->az eR->az (az AA)->az (aG×eu)
 |_,[],_=>[]|p,a::r,l=>Bu p a (l.headD [])++JU (p+1) r l.tail
def J4:aG->az eR->az (aG×eu)
 |_,[]=>[]|q,a::r=>uh q a++J4 (q+1) r
def nO(args:az eR)(r:dM):St:=fK (J4 500 r.rs++JU 0 args r.outs)
def EJ(q:aG)(a:eR):aY×az AV:=match a with| .v g xs=>(g,gb (dL q 0) xs)| .pt _=>(aq,[.bp (dL q 900) 0])| .fb xs=>(aq,[.fp xs 0])
def kR:aG->az eR->az (aY×az AV)
 |_,[]=>[]|q,a::r=>EJ q a::kR (q+1) r
def WK(rs:az eR):SV:=rG (kR 500 rs)
def PO(T:Tab)(args:az eR)(r:dM)(c1:eK)(w:bF)(v:bg)(w':bF):Prop:=
 ∃c3,Ok T (nO args r) w' c3/\nR (inj args) c1 w (nO args r) c3 w'/\(∀m,inj args (cW m)≠ .jE->c3.P m=c1.P m/\c3.G m=c1.G m)/\iU T w' c3 (WK r.rs) v
def la(P:cQ)(T:Tab)(g:aG)(spec:az eR->aD (aY×dM)):Prop:=
 ∀args r,spec args=aj (ak,r)->∀(w:bF) (c1:eK) (vs:de bg),Ok T (inj args) w c1->vs.size=args.length->(∀(p:aG) (x:eR),args[p]? =aj x->∃v,vs[p]? =aj v/\iU T w c1 (sC p x) v)->
  (∃fn,P.funcs[g]? =aj fn/\fn.body.isSome=ak/\(fn.name== "runtime.NumGoroutine")=aq)/\Calls P g vs w (λ| .returned v,w'=>PO T args r c1 w v w'|_,_=>False)
abbrev Cd:=aG×aD aG×Obj
def find(L:az Cd)(m:aG):aD aG:=
 match L with
 |[]=>ao
 |(n,t,_)::r=>if m=n then t else find r m
theorem G8{L:az Cd}{m x:aG}(h:find L m=aj x):∃ob,(m,aj x,ob)∈L:=by
 induction L with
 |nil=>cases h
 |cons d L ih=>
  obtain⟨n,t,ob⟩:=d;unfold find at h;split at h
  ·rename_i hm;subst hm;rw[h];exact⟨ob,du ..⟩
  ·obtain⟨ob,h⟩:=ih h;exact⟨ob,cU _ h⟩
theorem UM{L:az Cd}{m:aG}{t:aD aG}{ob:Obj}(h:(m,t,ob)∈L)(hn:(L.map (·.1)).Nodup):find L m=t:=by
 induction L with
 |nil=>cases h
 |cons d L ih=>
  obtain⟨n,t',ob'⟩:=d;rw[eW,j5]at hn;unfold find;rcases cz.1 h with h'|h'
  ·cases h';rw[bC rfl]
  ·have h_:m≠n:=λe=>hn.1 (cG.2 ⟨_,h',e⟩);rw[bL h_];exact ih h' hn.2
def lB(ok:aY)(L:az Cd)(v v3:AV):Prop:=
 (v=v3/\match v with| .i _ _=>True| .b _=>True| .s _=>True| .nl=>True| .sh _ _=>ok=ak|_=>False)\/∃n x ob,v= .own n/\v3= .own x/\(n,aj x,ob)∈L
def Xk(L:az Cd)(v v3:AV):Prop:=∃n x ob,v= .bp n 0/\v3= .bp x 0/\(n,aj x,ob)∈L
def m7(ok:aY)(L:az Cd)(vs vs3:az AV):Prop:=vs.length=vs3.length/\∀(j:aG) (v v3:AV),vs[j]? =aj v->vs3[j]? =aj v3->lB ok L v v3
def ArgRel(ok:aY)(L:az Cd)(s s3:aY×az AV):Prop:=s.1=s3.1/\s.2.length=s3.2.length/\∀(j:aG) (v v3:AV),s.2[j]? =aj v->s3.2[j]? =aj v3->lB ok L v v3\/Xk L v v3
def DR(ok:aY)(L:az Cd)(s s3:az (aY×az AV)):Prop:=s.length=s3.length/\∀(j:aG) (x x3:aY×az AV),s[j]? =aj x->s3[j]? =aj x3->ArgRel ok L x x3
structure Xn (σ σ3:St) (c c3:eK) (ok:aY) (th:az aG) (L:az Cd) (n:aG) (t:aD aG) (ob:Obj):Prop where
 old:σ (cW n)≠ .jE->n∈th
 new:σ (cW n)= .jE->n<900000000
 dead:t=ao->ob= .dead
 some_:∀x,t=aj x->(σ (cW n)≠ .jE->c3.P x=c.P n/\c3.G x=c.G n)/\
  ((∃e ex ys,ob= .row e ex ys/\σ3 (cW x)= .o (.row e ex ys)/\(ex=ak\/ok=ak))\/∃vs vs3,ob= .box vs/\σ3 (cW x)= .o (.box vs3)/\m7 ok L vs vs3)
section
variable {P:cQ} {E:fB} {σ:St} {a:Act} {w:bF} {c:eK} {o:eV} {nm:aG} {e:rX}
theorem leave(b8:Ok E σ w c)(dA:eZ E σ a w c)(hd:∀d,o.dst=aj d->d<a.tmps.size){ps:az Pa}{zP:az (az CV)}{vs:de bg}(hh:Handed E σ w c ps zP vs)
  {r:dM} {v:bg} {w':bF} {c3:eK} (E6:Ok E (nO (jk ps zP) r) w' c3) (wJ:nR (inj (jk ps zP)) (qj σ c ps) w (nO (jk ps zP) r) c3 w') (wK:iU E w' c3 (WK r.rs) v)
  {ok:aY} {L:az Cd} {Fz:az (aG×Obj)} (hL:∀n t ob,(n,t,ob)∈L->Xn σ (nO (jk ps zP) r) c c3 ok (ps.flatMap (·.th)) L n t ob) (Hk:(L.map (·.1)).Nodup)
  (amJ:∀n n' x ob ob',(n,aj x,ob)∈L->(n',aj x,ob')∈L->n=n') (n8:∀n∈ps.flatMap (·.th),∃t ob,(n,t,ob)∈L)
  (hFz:∀n x,(n,x)∈Fz->ok=ak/\n∈ps.flatMap (·.mX)/\∃el ex xs,σ (cW n)= .o (.row el ex xs)/\x= .fE el xs) (hFa:ok=ak->∀n∈ps.flatMap (·.mX),∃x,(n,x)∈Fz)
  {ss:az (aY×az AV)} (hss:DR ok L ss (kR 500 r.rs)):
  ∃c',Ok E (wr σ (jO (Fz++L.map λt=>(t.1,t.2.2))++dw o (rG ss))) w' c'/\eZ E (wr σ (jO (Fz++L.map λt=>(t.1,t.2.2))++dw o (rG ss))) (a.put o.dst v) w' c'/\nR σ c w (wr σ (jO (Fz++L.map λt=>(t.1,t.2.2))++dw o (rG ss))) c' w'/\jh σ c c':=by
 obtain⟨QG,_,afk⟩:=enter b8 hh;let D:az (aG×Obj):=Fz++L.map λt=>(t.1,t.2.2)
 have Re:∀n x,(n,x)∈D->(n,x)∈Fz\/∃t,(n,t,x)∈L:=by
  intro n x hm;rcases a_.1 hm with h|h
  ·exact .inl h
  ·obtain⟨⟨n',t,ob⟩,h1,h2⟩:=cG.1 h;cases h2;exact .inr ⟨t,h1⟩
 have inD:∀n t ob,(n,t,ob)∈L->(n,ob)∈D:=λn t ob h=>bH _ (cG.2 ⟨_,h,rfl⟩);have ao_:∀n,n∈ps.flatMap (·.th)->tF D n:=λn hn=>by obtain⟨t,ob,h⟩:=n8 n hn;exact⟨ob,inD n t ob h⟩
 have JX:∀b,vp (inj (jk ps zP)) (qj σ c ps) b->jH (tF D) σ c b:=λb hb=>by obtain⟨n,hn,ob,h1,h2⟩:=afk b hb;exact⟨n,ob,ao_ n hn,h1,h2⟩
 let K':aG->Prop:=λb=>if ok=ak then c3.K b else c.K b
 let c':eK:=⟨λm=>match find L m with|some x=>c3.P x|none=>c.P m,λm=>match find L m with|some x=>c3.G x|none=>c.G m,K'⟩
 have at_:∀n x ob,(n,aj x,ob)∈L->c'.P n=c3.P x/\c'.G n=c3.G x:=λn x ob h=>by have:=UM h Hk;simp only[c',this];exact⟨trivial,trivial⟩
 have afR:∀n,find L n=ao->c'.P n=c.P n/\c'.G n=c.G n:=λn h=>by simp only[c',h];exact⟨trivial,trivial⟩
 have hA:jh σ c c':=by
  intro m hm;cases hf:find L m with
  |none=>exact afR m hf
  |some x=>
   obtain⟨ob,hx⟩:=G8 hf;obtain⟨e1,e2⟩:=at_ m x ob hx;have he:=hL m _ ob hx;rw[e1,e2];by_cases hn:σ (cW m)= .jE
   ·have:=he.new hn;rcases hm with h|h
    ·exact cq hn h
    ·omega
   ·exact(he.some_ x rfl).1 hn
 have Kok:ok=ak->∀b,K' b↔c3.K b:=λh b=>by simp only[K',h,if_true]
 have Kno:ok=aq->∀b,K' b↔c.K b:=λh b=>by simp only[K',h];simp
 have K13:∀b,(qj σ c ps).K b->c3.K b:=wJ.K;have cK1:∀b,c.K b->(qj σ c ps).K b:=λb hb=> .inl hb;have hK:∀b,c.K b->K' b:=λb hb=>by
  cases h:ok with
  |true=>exact(Kok h b).2 (K13 b (cK1 b hb))
  |false=>exact(Kno h b).2 hb
 have TP:∀b,K' b->c.K b\/jH (tF D) σ c b\/w.heap.size<=b:=λb hb=>by
  cases h:ok with
  |true=>
   rcases wJ.kn b ((Kok h b).1 hb)with h1|h1|h1
   ·rcases h1 with h1|⟨n,hn,ob,h2,h3⟩
    ·exact .inl h1
    ·obtain⟨x,hx⟩:=hFa h n hn;exact .inr (.inl ⟨n,ob,⟨x,bN _ hx⟩,h2,h3⟩)
   ·exact .inr (.inl (JX b h1))
   ·exact .inr (.inr h1)
  |false=>exact .inl ((Kno h b).1 hb)
 have E2:∀b,K' b->b<w'.heap.size:=λb hb=>by
  cases h:ok with
  |true=>exact E6.lt b ((Kok h b).1 hb)
  |false=>exact jb (b8.lt b ((Kno h b).1 hb)) wJ.size
 have Qq:∀n x ob b,(n,aj x,ob)∈L->fa c' n ob b->∃o3,nO (jk ps zP) r (cW x)= .o o3/\fa c3 x o3 b:=by
  intro n x ob b hm hf;obtain⟨e1,e2⟩:=at_ n x ob hm;rcases((hL n _ ob hm).some_ x rfl).2 with ⟨e,ex,ys,rfl,h3,_⟩|⟨us,us3,rfl,h3,_⟩
  ·refine⟨_,h3, ?_⟩
   simp only[fa,e1,e2]at hf⊢;exact hf
  ·refine⟨_,h3, ?_⟩
   simp only[fa,e1]at hf⊢;exact hf
 have Qa:∀{v v3:AV} {u:bg},lB ok L v v3->ea E w' c3 v3 u->ea E w' c' v u/\∀n∈bI v,tF D n:=by
  rintro v v3 u (⟨rfl,h⟩|⟨n,x,ob,rfl,rfl,hm⟩) hu
  ·cases v with
   |sh e xs=>exact⟨cY.frame hu (λ_ _=>rfl) (λb hb=>(Kok h b).2 hb),λn hn=>by simp[bI]at hn⟩
   |i=>exact⟨hu,λn hn=>by simp[bI]at hn⟩
   |b=>exact⟨hu,λn hn=>by simp[bI]at hn⟩
   |s=>exact⟨hu,λn hn=>by simp[bI]at hn⟩
   |nl=>exact⟨hu,λn hn=>by simp[bI]at hn⟩
   |_=>exact h.elim
  ·refine⟨?_,λm vS=> ?_⟩
   ·show u=lj (c'.P n);rw[(at_ n x ob hm).1];exact hu
   ·have:m=n:=by simpa [bI]using vS
    subst this;exact⟨ob,inD _ _ _ hm⟩
 have ama:∀{v v3:AV} {u:bg},Xk L v v3->ea E w' c3 v3 u->ea E w' c' v u/\∀n∈bI v,tF D n:=by
  rintro v v3 u ⟨n,x,ob,rfl,rfl,hm⟩ hu;refine⟨?_,λm vS=> ?_⟩
  ·show u= .pointer (aj (ad (c'.P n).blk 0));rw[(at_ n x ob hm).1];exact hu
  ·have:m=n:=by simpa [bI]using vS
   subst this;exact⟨ob,inD _ _ _ hm⟩
 have XR:∀{s s3:aY×az AV} {u:bg},ArgRel ok L s s3->pO E w' c3 s3.1 s3.2 u->pO E w' c' s.1 s.2 u/\∀n∈s.2.flatMap bI,tF D n:=by
  rintro ⟨g,xs⟩ ⟨g3,xs3⟩ u ⟨h1,h2,h3⟩ hu;have h1:g=g3:=h1;subst h1;have one:∀(j:aG) (y:AV) (uu:bg),xs[j]? =aj y->(∀y3,xs3[j]? =aj y3->ea E w' c3 y3 uu)->ea E w' c' y uu/\∀n∈bI y,tF D n:=by
   intro j y uu hj hu3;have jC:j<xs3.length:=by rw[<-h2];exact(aU.1 hj).1
   have Lt:=h3 j y xs3[j] hj (by simp[jC]);have rE:=hu3 xs3[j] (by simp[jC]);rcases Lt with h|h
   ·exact Qa h rE
   ·exact ama h rE
  replace hu:pO E w' c3 g xs3 u:=hu;unfold pO at hu;split at hu
  ·rename_i y3;obtain⟨y,rfl⟩:=gD.1 (show xs.length=1 from h2);obtain⟨k1,k2⟩:=one 0 y u rfl (λy3' h=>by cases h;exact hu);exact⟨k1,λn hn=>k2 n (by simpa using hn)⟩
  ·obtain⟨vals,rfl,hs,hv⟩:=hu;have cell:∀(j:aG) (y:AV),xs[j]? =aj y->∃uu:bg,vals[j]? =aj uu/\ea E w' c' y uu/\∀n∈bI y,tF D n:=by
    intro j y hj;have jC:j<xs3.length:=by rw[<-h2];exact(aU.1 hj).1
    obtain⟨uu,hu,ha⟩:=hv j xs3[j] (by simp[jC]);obtain⟨k1,k2⟩:=one j y uu hj (λy3' h=>by simp[jC]at h;rw[<-h];exact ha);exact⟨uu,hu,k1,k2⟩
   refine⟨⟨vals,rfl,by rw[hs];exact h2.symm,λj y hj=> ?_⟩,λn hn=> ?_⟩
   ·obtain⟨uu,k1,k2,_⟩:=cell j y hj;exact⟨uu,k1,k2⟩
   ·obtain⟨y,hy,hn⟩:=bG.1 hn;obtain⟨j,hj⟩:=bZ hy;obtain⟨uu,_,_,k3⟩:=cell j y hj;exact k3 n hn
  ·exact hu.elim
 have ahY:iU E w' c' (rG ss) v/\∀n∈cD (rG ss),tF D n:=by
  obtain⟨hl,hr⟩:=hss;have jc:∀(l l3:az (aY×az AV)),l=ss->l3=kR 500 r.rs->iU E w' c3 (.jc l3) v->iU E w' c' (.jc l) v/\∀n∈cD (.jc l),tF D n:=by
   rintro l l3 rfl rfl ⟨us,rfl,hs,hv⟩;have cell:∀(j:aG) (x:aY×az AV),l[j]? =aj x->∃u:bg,us[j]? =aj u/\pO E w' c' x.1 x.2 u/\∀n∈x.2.flatMap bI,tF D n:=by
    intro j x hj;have jC:j<(kR 500 r.rs).length:=by rw[<-hl];exact(aU.1 hj).1
    have h3:(kR 500 r.rs)[j]? =aj ((kR 500 r.rs)[j].1,(kR 500 r.rs)[j].2):=by simp[jC]
    obtain⟨u,hu,ha⟩:=hv j _ _ h3;obtain⟨k1,k2⟩:=XR (hr j x _ hj h3) ha;exact⟨u,hu,k1,k2⟩
   refine⟨⟨us,rfl,by rw[hs];exact hl.symm,λj g xs hj=> ?_⟩,λn hn=> ?_⟩
   ·obtain⟨u,k1,k2,_⟩:=cell j (g,xs) hj;exact⟨u,k1,k2⟩
   ·obtain⟨x,hx,hn⟩:=bG.1 hn;obtain⟨j,hj⟩:=bZ hx;obtain⟨u,_,_,k3⟩:=cell j x hj;exact k3 n hn
  unfold WK at wK;cases h3:kR 500 r.rs with
  |nil=>rw[h3]at wK hl;have:ss=[]:=fQ hl;subst this;exact jc [] [] rfl h3.symm wK
  |cons x l=>
   cases l with
   |nil=>obtain⟨g,xs⟩:=x;rw[h3]at wK hl;obtain⟨⟨g',Kq⟩,rfl⟩:=gD.1 (show ss.length=1 from hl);exact XR (s3:=(g,xs)) (hr 0 _ _ rfl (by rw[h3];rfl)) wK
   |cons y l=>
    rw[h3]at wK hl;match ss,hl with
    |s1::s2::st,_=>exact jc _ (x::y::l) rfl h3.symm wK
    |[_],hl=>simp at hl
    |[],hl=>simp at hl
 refine⟨c', ?_⟩
 have:=GQ b8 dA hd (D:=D) (s:=rG ss) (v:=v) (w':=w') (c':=c') hA ?_ ?_ ?_ ?_ hK TP E2 ?_ wJ.size wJ.os wJ.tape wJ.output ahY.1 (λn hn=> .inr (ahY.2 n hn))
 ·exact⟨this.1,this.2.1,this.2.2,hA⟩
 ·intro n x hm;rcases Re n x hm with hm|⟨t,hm⟩
  ·obtain⟨QH,hn,el,ex,xs,hg,rfl⟩:=hFz n x hm;have afh:find L n=none:=by
    cases hf:find L n with
    |none=>rfl
    |some x=>obtain⟨ob,hx⟩:=G8 hf;have:=(hL n _ ob hx).old (by rw[hg];simp);exact cq hn (hh.ap n this)
   obtain⟨e1,_⟩:=afR n afh;obtain⟨h1,h2,ti,h3,h4⟩:=kL b8 hg;show cY E w' K' (lj (c'.P n)) _/\(c'.P n).n=_/\_;rw[e1];refine⟨?_,h1,ti,h3,h4.1⟩
   have:=rh b8 hg (K:=(qj σ c ps).K) cK1 (λb hb=> .inr ⟨n,hn,_,hg,hb⟩);exact this.frame (wJ.Xq QG) (λb hb=>(Kok QH b).2 (K13 b hb))
  ·have he:=hL n t x hm;cases t with
   |none=>rw[he.dead rfl];trivial
   |some y=>
    obtain⟨e1,e2⟩:=at_ n y x hm;rcases(he.some_ y rfl).2 with ⟨el,ex,ys,rfl,h3,hor⟩|⟨us,us3,rfl,h3,hl,hc⟩
    ·obtain⟨⟨t2,r1,r2,r3⟩,r4,r5⟩:=E6.obj y _ h3;refine⟨⟨t2,r1,by rw[e1];exact r2,r3⟩, ?_,λhx=>by rw[e1,e2];exact r5 hx⟩
     rw[e1,e2];refine r4.frame (λ_=>rfl) (λi j yy xx u hy hx hr=> ?_);split at hr
     ·rename_i oZ;rw[bC oZ];exact hr
     ·rename_i oZ;rw[bL oZ];have QH:=hor.resolve_left oZ;exact hr.frame (λ_ _=>rfl) (λb hb=>(Kok QH b).2 hb)
    ·obtain⟨vals,hb,hs,hv⟩:=E6.obj y _ h3;refine⟨vals,by rw[e1];exact hb,by rw[hs];exact hl.symm,λj yy hj=> ?_⟩
     have jC:j<us3.length:=by rw[<-hl];exact(aU.1 hj).1
     obtain⟨u,hu,ha⟩:=hv j us3[j] (by simp[jC]);exact⟨u,hu,(Qa (hc j yy us3[j] hj (by simp[jC])) ha).1⟩
 ·intro n x b hm hf;rcases Re n x hm with hm|⟨t,hm⟩
  ·obtain⟨_,_,el,ex,xs,_,rfl⟩:=hFz n x hm;exact hf.elim
  ·cases t with
   |none=>rw[(hL n _ x hm).dead rfl]at hf;exact hf.elim
   |some y=>
    obtain⟨o3,h3,hf3⟩:=Qq n y x b hm hf;have uW:jH (tF D) σ c b\/w.heap.size<=b:=(wJ.own b ⟨y,o3,h3,hf3⟩).imp (JX b) id;refine⟨uW,λhk=> ?_⟩
    cases h:ok with
    |true=>exact E6.kk y o3 b h3 hf3 ((Kok h b).1 hk)
    |false=>
     have hk:=(Kno h b).1 hk;rcases uW with uW|uW
     ·exact b8.HH uW.own hk
     ·have:=b8.lt b hk;omega
 ·intro n x n' x' b hm vS hf wH;rcases Re n x hm with hm|⟨t,hm⟩
  ·obtain⟨_,_,el,ex,xs,_,rfl⟩:=hFz n x hm;exact hf.elim
  ·rcases Re n' x' vS with vS|⟨t',vS⟩
   ·obtain⟨_,_,el,ex,xs,_,rfl⟩:=hFz n' x' vS;exact wH.elim
   ·cases t with
    |none=>rw[(hL n _ x hm).dead rfl]at hf;exact hf.elim
    |some y=>
     cases t' with
     |none=>rw[(hL n' _ x' vS).dead rfl]at wH;exact wH.elim
     |some y'=>obtain⟨o3,h3,hf3⟩:=Qq n y x b hm hf;obtain⟨o3',Lt,amx⟩:=Qq n' y' x' b vS wH;have:=E6.sep y o3 y' o3' b h3 Lt hf3 amx;subst this;exact amJ n n' y x x' hm vS
 ·intro n xs hm y hy m X9;rcases Re n _ hm with hm|⟨t,hm⟩
  ·obtain⟨_,_,el,ex,zs,_,h⟩:=hFz n _ hm;cases h
  ·have he:=hL n t _ hm;cases t with
   |none=>have:=he.dead rfl;cases this
   |some z=>
    rcases(he.some_ z rfl).2 with ⟨el,ex,ys,h,_⟩|⟨us,us3,h,h3,hl,hc⟩
    ·cases h
    ·cases h;obtain⟨j,hj⟩:=bZ hy;have jC:j<us3.length:=by rw[<-hl];exact(aU.1 hj).1
     rcases hc j y us3[j] hj (by simp[jC])with ⟨h1,h2⟩|⟨n',x',ob',h1,_,h2⟩
     ·exfalso;subst h1;cases h:us3[j]<;>rw[h]at X9 h2<;>first|(simp[bI]at X9;done)|exact h2
     ·rw[h1]at X9;have:m=n':=by simpa [bI]using X9
      subst this;exact .inr ⟨ob',inD _ _ _ h2⟩
 ·intro b hb UX;exact wJ.same b hb (λho=>UX (JX b ho))
end
end Go.FG

namespace Go.FG
def Kx(a:eR)(xs:az AA):Prop:=(∃g,a= .v g xs)\/a= .pt xs
inductive Ah (args:az eR) (r:dM):aG->eu->Prop
 |rb (q xs):r.rs[q]? =aj (.pt xs)->Ah args r (dL (500+q) 900) (.o (.box (gb (dL (500+q) 0) xs)))
 |rr (q a xs j e ex ys):r.rs[q]? =aj a->Kx a xs->xs[j]? =aj (.ow e ex ys)->Ah args r (dL (500+q) j) (.o (.row e ex ys))
 |ob (p xs):args[p]? =aj (.pt xs)->Ah args r (dL p 900) (.o (.box (nF p 0 (r.outs.getD p []))))
 |kp (p a xs j e ex z ys):args[p]? =aj a->Kx a xs->xs[j]? =aj (.ow e ex z)->(r.outs.getD p [])[j]? =aj (.kp ys)->Ah args r (dL p j) (.o (.row e ex ys))
 |nw (p a xs j e ex ys):args[p]? =aj a->Kx a xs->(r.outs.getD p [])[j]? =aj (.ow e ex ys)->Ah args r (dL p (100+j)) (.o (.row e ex ys))
theorem HC:∀{l:az eR} {q:aG} {k:aG} {c:eu},(k,c)∈J4 q l↔∃i a,l[i]? =aj a/\(k,c)∈uh (q+i) a:=by
 intro l;induction l with
 |nil=>intro q k c;simp[J4]
 |cons a l ih=>
  intro q k c;simp only[J4,a_,ih];constructor
  ·rintro (h|⟨i,b,h0,h⟩)
   ·exact⟨0,a,rfl,h⟩
   ·exact⟨i+1,b,h0,by rw[show q+(i+1)=q+1+i by omega];exact h⟩
  ·rintro ⟨i,b,h0,h⟩;cases i with
   |zero=>cases h0;exact .inl h
   |succ i=>exact .inr ⟨i,b,h0,by rw[show q+1+i=q+(i+1)by omega];exact h⟩
theorem HB:∀{l:az eR} {p:aG} {os:az (az AA)} {k:aG} {c:eu},(k,c)∈JU p l os↔∃i a,l[i]? =aj a/\(k,c)∈Bu (p+i) a (os.getD i []):=by
 intro l;induction l with
 |nil=>intro p os k c;simp[JU]
 |cons a l ih=>
  intro p os k c;have h0:os.headD []=os.getD 0 []:=by cases os<;>rfl
  have h1:∀i,os.tail.getD i []=os.getD (i+1) []:=λi=>by cases os<;>simp
  simp only[JU,a_,ih,h0,h1];constructor
  ·rintro (h|⟨i,b,hb,h⟩)
   ·exact⟨0,a,rfl,h⟩
   ·exact⟨i+1,b,hb,by rw[show p+(i+1)=p+1+i by omega];exact h⟩
  ·rintro ⟨i,b,hb,h⟩;cases i with
   |zero=>cases hb;exact .inl h
   |succ i=>exact .inr ⟨i,b,hb,by rw[show p+1+i=p+(i+1)by omega];exact h⟩
theorem yo{p j:aG}{a b:AA}{k:aG}{c:eu}:(k,c)∈HO p j a b↔(∃e ex z ys,a= .ow e ex z/\b= .kp ys/\k=cW (dL p j)/\c= .o (.row e ex ys))\/∃e ex ys,b= .ow e ex ys/\k=cW (dL p (100+j))/\c= .o (.row e ex ys):=by
 cases b with
 |kp ys=>
  cases a with
  |ow e ex z=>
   constructor
   ·intro h;have h:=aZ.1 h;cases h;exact .inl ⟨e,ex,z,ys,rfl,rfl,rfl,rfl⟩
   ·rintro (⟨e',s9,z',Cb,h1,h2,h3,h4⟩|⟨_,_,_,h,_⟩)
    ·cases h1;cases h2;rw[h3,h4];exact aZ.2 rfl
    ·cases h
  |_=>simp[HO]
 |ow e ex ys=>
  constructor
  ·intro h;have h:=aZ.1 h;cases h;exact .inr ⟨e,ex,ys,rfl,rfl,rfl⟩
  ·rintro (⟨_,_,_,_,_,h,_⟩|⟨e',s9,Cb,h2,h3,h4⟩)
   ·cases h
   ·cases h2;rw[h3,h4];exact aZ.2 rfl
 |_=>simp[HO]
theorem JJ{p:aG}:∀{l:az AA} {j:aG} {as:az AA} {k:aG} {c:eu},(k,c)∈sJ p j as l↔∃i b,l[i]? =aj b/\(k,c)∈HO p (j+i) (as.getD i .nl) b:=by
 intro l;induction l with
 |nil=>intro j as k c;simp[sJ]
 |cons b l ih=>
  intro j as k c;have h0:as.headD .nl=as.getD 0 .nl:=by cases as<;>rfl
  have h1:∀i,as.tail.getD i .nl=as.getD (i+1) .nl:=λi=>by cases as<;>simp
  simp only[sJ,a_,ih,h0,h1];constructor
  ·rintro (h|⟨i,b',hb,h⟩)
   ·exact⟨0,b,rfl,h⟩
   ·exact⟨i+1,b',hb,by rw[show j+(i+1)=j+1+i by omega];exact h⟩
  ·rintro ⟨i,b',hb,h⟩;cases i with
   |zero=>cases hb;exact .inl h
   |succ i=>exact .inr ⟨i,b',hb,by rw[show j+1+i=j+(i+1)by omega];exact h⟩
theorem E0{xs:az AA}{i e:aG}{ex:aY}{z:aX}:xs.getD i .nl= .ow e ex z↔xs[i]? =aj (.ow e ex z):=by
 rw[cK];cases h:xs[i]? with
 |none=>simp
 |some x=>simp
theorem qm{p:aG}{a:eR}{l:az AA}{k:aG}{c:eu}:(k,c)∈Bu p a l↔(∃xs,a= .pt xs/\k=cW (dL p 900)/\c= .o (.box (nF p 0 l)))\/∃xs,Kx a xs/\((∃j e ex z ys,xs[j]? =aj (.ow e ex z)/\l[j]? =aj (.kp ys)/\k=cW (dL p j)/\c= .o (.row e ex ys))\/∃j e ex ys,l[j]? =aj (.ow e ex ys)/\k=cW (dL p (100+j))/\c= .o (.row e ex ys)):=by
 have cells:∀xs,(k,c)∈sJ p 0 xs l↔((∃j e ex z ys,xs[j]? =aj (.ow e ex z)/\l[j]? =aj (.kp ys)/\k=cW (dL p j)/\c= .o (.row e ex ys))\/∃j e ex ys,l[j]? =aj (.ow e ex ys)/\k=cW (dL p (100+j))/\c= .o (.row e ex ys)):=by
  intro xs;rw[JJ];constructor
  ·rintro ⟨i,b,hb,h⟩;rw[bT]at h;rcases yo.1 h with ⟨e,ex,z,ys,h1,rfl,h2,h3⟩|⟨e,ex,ys,rfl,h2,h3⟩
   ·exact .inl ⟨i,e,ex,z,ys,E0.1 h1,hb,h2,h3⟩
   ·exact .inr ⟨i,e,ex,ys,hb,h2,h3⟩
  ·rintro (⟨i,e,ex,z,ys,h1,hb,h2,h3⟩|⟨i,e,ex,ys,hb,h2,h3⟩)
   ·exact⟨i,_,hb,yo.2 (.inl ⟨e,ex,z,ys,E0.2 h1,rfl,by rw[bT];exact h2,h3⟩)⟩
   ·exact⟨i,_,hb,yo.2 (.inr ⟨e,ex,ys,rfl,by rw[bT];exact h2,h3⟩)⟩
 cases a with
 |v g xs=>
  simp only[Bu,cells];constructor
  ·intro h;exact .inr ⟨xs, .inl ⟨g,rfl⟩,h⟩
  ·rintro (⟨ys,h,_⟩|⟨ys,h|h,h'⟩)
   ·cases h
   ·obtain⟨g',h⟩:=h;cases h;exact h'
   ·cases h
 |pt xs=>
  simp only[Bu,cz,cells,iR];constructor
  ·rintro (⟨h1,h2⟩|h)
   ·exact .inl ⟨xs,rfl,h1,h2⟩
   ·exact .inr ⟨xs, .inr rfl,h⟩
  ·rintro (⟨ys,h,h1,h2⟩|⟨ys,h|h,h'⟩)
   ·exact .inl ⟨h1,h2⟩
   ·obtain⟨g',h⟩:=h;cases h
   ·cases h;exact .inr h'
 |fb xs=>
  simp only[Bu,jz,false_iff];rintro (⟨ys,h,_⟩|⟨ys,h|h,_⟩)
  ·cases h
  ·obtain⟨g',h⟩:=h;cases h
  ·cases h
theorem vM{args:az eR}{r:dM}{m:aG}{c:eu}:(cW m,c)∈J4 500 r.rs++JU 0 args r.outs↔Ah args r m c:=by
 rw[a_,HC,HB];constructor
 ·rintro (⟨q,a,h0,h⟩|⟨p,a,h0,h⟩)
  ·rcases g_.1 h with ⟨xs,rfl,h1,rfl⟩|⟨xs,j,e,ex,ys,hx,hj,h1,rfl⟩
   ·rw[jB h1];exact .rb q xs h0
   ·rw[jB h1];exact .rr q a xs j e ex ys h0 hx hj
  ·rw[bT]at h;rcases qm.1 h with ⟨xs,rfl,h1,rfl⟩|⟨xs,hx,⟨j,e,ex,z,ys,h2,h3,h1,rfl⟩|⟨j,e,ex,ys,h3,h1,rfl⟩⟩
   ·rw[jB h1];exact .ob p xs h0
   ·rw[jB h1];exact .kp p a xs j e ex z ys h0 hx h2 h3
   ·rw[jB h1];exact .nw p a xs j e ex ys h0 hx h3
 ·intro h;cases h with
  |rb q xs h0=>exact .inl ⟨q,_,h0,g_.2 (.inl ⟨xs,rfl,rfl,rfl⟩)⟩
  |rr q a xs j e ex ys h0 hx hj=>exact .inl ⟨q,a,h0,g_.2 (.inr ⟨xs,j,e,ex,ys,hx,hj,rfl,rfl⟩)⟩
  |ob p xs h0=>exact .inr ⟨p,_,h0,qm.2 (.inl ⟨xs,rfl,by rw[bT],by rw[bT]⟩)⟩
  |kp p a xs j e ex z ys h0 hx h2 h3=>exact .inr ⟨p,a,h0,qm.2 (.inr ⟨xs,hx, .inl ⟨j,e,ex,z,ys,h2,h3,by rw[bT],rfl⟩⟩)⟩
  |nw p a xs j e ex ys h0 hx h3=>exact .inr ⟨p,a,h0,qm.2 (.inr ⟨xs,hx, .inr ⟨j,e,ex,ys,h3,by rw[bT],rfl⟩⟩)⟩
def WM:aD AA->aD eu
 |some (.ow e ex ys)=>aj (.o (.row e ex ys))|_=>ao
def kpC(a b:aD AA):aD eu:=
 match a,b with|some (.ow e ex _),aj (.kp ys)=>aj (.o (.row e ex ys))|_,_=>ao
def PX:eR->az AA| .v _ xs=>xs| .pt xs=>xs| .fb _=>[]
theorem Kx.eq{a:eR}{xs:az AA}(h:Kx a xs):PX a=xs:=by rcases h with ⟨g,rfl⟩|rfl<;>rfl
def Dj(args:az eR)(r:dM)(P J:aG):aD eu:=
 if 500<=P then(match r.rs[P-500]? with
  |some a=>if J=900 then aj (.o (.box (gb (dL P 0) (PX a))))else WM (PX a)[J]?
  |none=>ao)
 else(match args[P]? with
  |some a=>if J=900 then aj (.o (.box (nF P 0 (r.outs.getD P []))))else if J<100 then kpC (PX a)[J]? (r.outs.getD P [])[J]? else WM (r.outs.getD P [])[J-100]?
  |none=>ao)
structure Small (args:az eR) (r:dM):Prop where
 a:∀(p:aG) (a:eR) (xs:az AA),args[p]? =aj a->Kx a xs->p<500
 rl:∀(q:aG) (a:eR) (xs:az AA),r.rs[q]? =aj a->Kx a xs->xs.length<=100
 o:∀p:aG,(r.outs.getD p []).length<=100
theorem G3{args:az eR}{r:dM}(hs:Small args r){m:aG}{c:eu}(h:Ah args r m c):∃P J,m=dL P J/\J<1000/\Dj args r P J=aj c:=by
 cases h with
 |rb q xs h0=>exact⟨500+q,900,rfl,by omega,by simp[Dj,h0,PX]⟩
 |rr q a xs j e ex ys h0 hx hj=>
  have:=hs.rl q a xs h0 hx;have jC:=(aU.1 hj).1;refine⟨500+q,j,rfl,by omega, ?_⟩
  have:j≠900:=by omega
  simp[Dj,h0,hx.eq,hj,this,WM]
 |ob p xs h0=>
  have:=hs.a p _ xs h0 (.inr rfl);have:¬500<=p:=by omega
  exact⟨p,900,rfl,by omega,by simp[Dj,h0,this]⟩
 |kp p a xs j e ex z ys h0 hx h2 h3=>
  have:=hs.a p _ xs h0 hx;have h5:¬500<=p:=by omega
  have jC:=(aU.1 h3).1;have:=hs.o p;have M9:j≠900:=by omega
  have Ob:j<100:=by omega
  refine⟨p,j,rfl,by omega, ?_⟩
  simp only[Dj,h0,hx.eq,h2,h3,M9,Ob,h5,if_false,if_true,kpC]
 |nw p a xs j e ex ys h0 hx h3=>
  have:=hs.a p _ xs h0 hx;have h5:¬500<=p:=by omega
  have jC:=(aU.1 h3).1;have:=hs.o p;have M9:¬100+j=900:=by omega
  have Ob:¬100+j<100:=by omega
  refine⟨p,100+j,rfl,by omega, ?_⟩
  have hj3:100+j-100=j:=by omega
  simp only[Dj,h0,h3,M9,Ob,hj3,h5,if_false,WM]
theorem yA:∀{l:az (aG×eu)} {k:aG} {c:eu},(k,c)∈l->(∀c',(k,c')∈l->c'=c)->fK l k=c:=by
 intro l;induction l with
 |nil=>intro k c h;cases h
 |cons d l ih=>
  obtain⟨k',c'⟩:=d;intro k c h hu;unfold fK;cases hb:bA k k' with
  |true=>have:=aW hb;subst this;exact hu c' (du ..)
  |false=>
   rcases cz.1 h with h|h
   ·cases h;simp at hb
   ·exact ih h (λc'' h''=>hu c'' (cU _ h''))
theorem vL{args:az eR}{r:dM}(hs:Small args r){m:aG}{c:eu}(h:Ah args r m c):nO args r (cW m)=c:=by refine yA (vM.2 h) (λc' h'=> ?_);obtain⟨P,J,h1,h2,h3⟩:=G3 hs h;obtain⟨P',J',Js,M3,Lt⟩:=G3 hs (vM.1 h');obtain⟨rfl,rfl⟩:=tn h2 M3 (h1.symm.trans Js);rw[h3]at Lt;cases Lt;rfl
theorem qk{args:az eR}{r:dM}{m:aG}{o:Obj}(h:nO args r (cW m)= .o o):Ah args r m (.o o):=vM.1 (ni h (by simp))
theorem u9{p:aG}:∀{xs:az AA} {j i:aG},(nF p j xs)[i]? =(xs[i]?).map (sI p (j+i)):=by
 intro xs;induction xs with
 |nil=>intro j i;simp[nF]
 |cons a xs ih=>
  intro j i;cases i with
  |zero=>rfl
  |succ i=>simp only[nF,dF,ih];congr 2;omega
theorem ui{p:aG}:∀{xs:az AA} {j:aG},(nF p j xs).length=xs.length:=by
 intro xs;induction xs with
 |nil=>intro j;rfl
 |cons a xs ih=>intro j;simp[nF,ih]
theorem DI:∀{l:az eR} {q i:aG},(kR q l)[i]? =(l[i]?).map (EJ (q+i)):=by
 intro l;induction l with
 |nil=>intro q i;simp[kR]
 |cons a l ih=>
  intro q i;cases i with
  |zero=>rfl
  |succ i=>simp only[kR,dF,ih];congr 2;omega
theorem vW:∀{l:az eR} {q:aG},(kR q l).length=l.length:=by
 intro l;induction l with
 |nil=>intro q;rfl
 |cons a l ih=>intro q;simp[kR,ih]
end Go.FG

namespace Go.FG
def lR(L:az Cd):az (aG×eu):=jO (L.map λt=>(t.1,t.2.2))
theorem ir(L R:az Cd):lR (L++R)=lR L++lR R:=by simp[lR,jO]
def Ox(ok:aY)(σ:St)(n:aG)(a:AA):Prop:=
 match a with
 | .ow _ ex _=>(ex=ak\/ok=ak)/\σ (cW n)= .jE/\n<900000000
 | .sh _ _=>ok=ak| .kp _=>False| .fn _ _=>False|_=>True
def Nq(n x:aG)(a:AA):az Cd:=match a with| .ow e ex ys=>[(n,aj x, .row e ex ys)]|_=>[]
theorem HA{n x:aG}{a:AA}{m:aG}{t:aD aG}{ob:Obj}:(m,t,ob)∈Nq n x a↔∃e ex ys,a= .ow e ex ys/\m=n/\t=aj x/\ob= .row e ex ys:=by
 cases a with
 |ow e ex ys=>
  constructor
  ·intro h;have h:=aZ.1 h;cases h;exact⟨e,ex,ys,rfl,rfl,rfl,rfl⟩
  ·rintro ⟨e',s9,Cb,h,rfl,rfl,rfl⟩;cases h;exact aZ.2 rfl
 |_=>simp[Nq]
theorem lB.mono{ok:aY}{L L':az Cd}{v v3:AV}(h:lB ok L v v3)(hs:∀e∈L,e∈L'):lB ok L' v v3:=h.imp id (λ⟨n,x,ob,h1,h2,h3⟩=>⟨n,x,ob,h1,h2,hs _ h3⟩)
theorem m7.mono{ok:aY}{L L':az Cd}{v v3:az AV}(h:m7 ok L v v3)(hs:∀e∈L,e∈L'):m7 ok L' v v3:=⟨h.1,λj x y hx hy=>(h.2 j x y hx hy).mono hs⟩
section
variable {P:cQ} {E:fB} {σ:St} {a:Act} {w:bF} {c:eK} {o:eV} {nm:aG} {e:rX}
theorem Dc{ok:aY}{n:aG}{a:AA}{v:AV}{ws:az (aG×eu)}(h:(qR ok n a).val σ=aj (v,ws)):Ox ok σ n a/\v=kQ n a/\∀x,ws=lR (Nq n x a)/\lB ok (Nq n x a) v (kQ x a):=by
 cases a with
 |i=>obtain⟨rfl,rfl⟩:=bU (aF h);exact⟨trivial,rfl,λx=>⟨rfl, .inl ⟨rfl,trivial⟩⟩⟩
 |b=>obtain⟨rfl,rfl⟩:=bU (aF h);exact⟨trivial,rfl,λx=>⟨rfl, .inl ⟨rfl,trivial⟩⟩⟩
 |s=>obtain⟨rfl,rfl⟩:=bU (aF h);exact⟨trivial,rfl,λx=>⟨rfl, .inl ⟨rfl,trivial⟩⟩⟩
 |nl=>obtain⟨rfl,rfl⟩:=bU (aF h);exact⟨trivial,rfl,λx=>⟨rfl, .inl ⟨rfl,trivial⟩⟩⟩
 |sh e xs=>obtain⟨h1,h⟩:=cE h;obtain⟨rfl,rfl⟩:=bU (aF h);exact⟨h1,rfl,λx=>⟨rfl, .inl ⟨rfl,h1⟩⟩⟩
 |ow e ex xs=>obtain⟨h1,h⟩:=cE h;obtain⟨u,h2,h⟩:=Rd.bind_some h;obtain⟨rfl,rfl⟩:=bU (aF h);obtain⟨f1,f2⟩:=j8 h2;exact⟨⟨by simpa using h1,f1,f2⟩,rfl,λx=>⟨rfl, .inr ⟨n,x,_,rfl,rfl,aZ.2 rfl⟩⟩⟩
 |kp=>simp[qR]at h
 |fn=>simp[qR]at h
theorem AJ{ok:aY}{P:aG}:∀{xs:az AA} {n j:aG} {vs:az AV} {ws:az (aG×eu)},(zI ok n xs).val σ=aj (vs,ws)->vs=gb n xs/\(∀(i:aG) (a:AA),xs[i]? =aj a->Ox ok σ (n+i) a)/\
  ∃L,ws=lR L/\(∀m t ob,(m,t,ob)∈L↔∃i e ex ys,xs[i]? =aj (.ow e ex ys)/\m=n+i/\t=aj (dL P (j+i))/\ob= .row e ex ys)/\∀(i:aG) (v:AV) (a:AA),vs[i]? =aj v->xs[i]? =aj a->lB ok L v (kQ (dL P (j+i)) a):=by
 intro xs;induction xs with
 |nil=>intro n j vs ws h;obtain⟨rfl,rfl⟩:=bU (aF h);exact⟨rfl,λi a h=>by simp at h,[],rfl,λm t ob=>by simp,λi v a h=>by simp at h⟩
 |cons a xs ih=>
  intro n j vs ws h;obtain⟨⟨v,w1⟩,h1,h⟩:=Rd.bind_some h;obtain⟨⟨vr,w2⟩,h2,h⟩:=Rd.bind_some h;obtain⟨rfl,rfl⟩:=bU (aF h);obtain⟨b1,rfl,b2⟩:=Dc h1;obtain⟨rfl,b3⟩:=b2 (dL P j);obtain⟨i1,i2,L,rfl,i3,i4⟩:=ih (j:=j+1) h2;refine⟨by rw[i1];rfl,λi a' hi=> ?_,Nq n (dL P j) a++L,by rw[ir],λm t ob=> ?_,λi v' a' hv ha=> ?_⟩
  ·cases i with
   |zero=>cases hi;exact b1
   |succ i=>have:=i2 i a' hi;rwa[show n+1+i=n+(i+1)by omega]at this
  ·rw[a_,HA,i3];constructor
   ·rintro (⟨e,ex,ys,rfl,rfl,rfl,rfl⟩|⟨i,e,ex,ys,h1,rfl,rfl,rfl⟩)
    ·exact⟨0,e,ex,ys,rfl,rfl,rfl,rfl⟩
    ·exact⟨i+1,e,ex,ys,h1,by omega,by rw[show j+1+i=j+(i+1)by omega],rfl⟩
   ·rintro ⟨i,e,ex,ys,h1,rfl,rfl,rfl⟩;cases i with
    |zero=>cases h1;exact .inl ⟨e,ex,ys,rfl,rfl,rfl,rfl⟩
    |succ i=>exact .inr ⟨i,e,ex,ys,h1,by omega,by rw[show j+1+i=j+(i+1)by omega],rfl⟩
  ·cases i with
   |zero=>cases hv;cases ha;exact b3.mono (λe he=>bN _ he)
   |succ i=>have:=(i4 i v' a' hv ha).mono (L':=Nq n (dL P j) a++L) (λe he=>bH _ he);rwa[show j+1+i=j+(i+1)by omega]at this
def Gt(σ:St)(ok:aY)(b P:aG)(x:eR)(L:az Cd)(n:aG)(t:aD aG)(ob:Obj):Prop:=
 (∃xs j e ex ys,Kx x xs/\xs[j]? =aj (.ow e ex ys)/\n=b+j/\t=aj (dL P j)/\ob= .row e ex ys/\(ex=ak\/ok=ak)/\σ (cW n)= .jE/\n<900000000)\/
 ∃xs,x= .pt xs/\n=b+30/\t=aj (dL P 900)/\ob= .box (gb b xs)/\σ (cW n)= .jE/\n<900000000/\m7 ok L (gb b xs) (gb (dL P 0) xs)
theorem IW{ok:aY}{b P:aG}{x:eR}{s:aY×az AV}{ws:az (aG×eu)}(h:(EL ok b x).val σ=aj (s,ws)):∃L,ws=lR L/\(∀n t ob,(n,t,ob)∈L->Gt σ ok b P x L n t ob)/\ArgRel ok L s (EJ P x):=by
 have sF:∀j,dL P (0+j)=dL P 0+j:=λj=>by unfold dL;omega
 cases x with
 |v g xs=>
  obtain⟨⟨vs,w1⟩,h1,h⟩:=Rd.bind_some h;obtain⟨rfl,rfl⟩:=bU (aF h);obtain⟨rfl,i2,L,rfl,i3,i4⟩:=AJ (P:=P) (j:=0) h1;refine⟨L,rfl,λn t ob hm=> ?_,rfl,by simp[EJ,iy],λj v v3 hv CF=> .inl ?_⟩
  ·obtain⟨i,e,ex,ys,h1,rfl,rfl,rfl⟩:=(i3 n t ob).1 hm;have:=i2 i _ h1;exact .inl ⟨xs,i,e,ex,ys, .inl ⟨g,rfl⟩,h1,rfl,by rw[bT],rfl,this⟩
  ·have CF:(gb (dL P 0) xs)[j]? =aj v3:=CF;rw[ia]at CF;cases hx:xs[j]? with
   |none=>rw[hx]at CF;cases CF
   |some a=>rw[hx]at CF;cases CF;have:=i4 j v a hv hx;rwa[sF]at this
 |pt xs=>
  obtain⟨⟨vs,w1⟩,h1,h⟩:=Rd.bind_some h;obtain⟨u,h2,h⟩:=Rd.bind_some h;obtain⟨rfl,rfl⟩:=bU (aF h);obtain⟨f1,f2⟩:=j8 h2;obtain⟨rfl,i2,L,rfl,i3,i4⟩:=AJ (P:=P) (j:=0) h1;have cr:m7 ok L (gb b xs) (gb (dL P 0) xs):=by
   refine⟨by rw[iy,iy],λj v v3 hv CF=> ?_⟩
   rw[ia]at CF;cases hx:xs[j]? with
   |none=>rw[hx]at CF;cases CF
   |some a=>rw[hx]at CF;cases CF;have:=i4 j v a hv hx;rwa[sF]at this
  refine⟨L++[(b+30,aj (dL P 900), .box (gb b xs))],by rw[ir];rfl,λn t ob hm=> ?_,rfl,rfl,λj v v3 hv CF=> .inr ?_⟩
  ·rcases a_.1 hm with hm|hm
   ·obtain⟨i,e,ex,ys,h1,rfl,rfl,rfl⟩:=(i3 n t ob).1 hm;have:=i2 i _ h1;exact .inl ⟨xs,i,e,ex,ys, .inr rfl,h1,rfl,by rw[bT],rfl,this⟩
   ·rw[aZ]at hm;cases hm;exact .inr ⟨xs,rfl,rfl,rfl,rfl,f1,f2,cr.mono (λe he=>bN _ he)⟩
  ·cases j with
   |zero=>cases hv;cases CF;exact⟨_,_,_,rfl,rfl,bH _ (aZ.2 rfl)⟩
   |succ j=>simp at hv
 |fb xs=>simp[EL]at h
theorem ArgRel.mono{ok:aY}{L L':az Cd}{s s3:aY×az AV}(h:ArgRel ok L s s3)(hs:∀e∈L,e∈L'):ArgRel ok L' s s3:=⟨h.1,h.2.1,λj x y hx hy=>(h.2.2 j x y hx hy).imp (λh=>h.mono hs) (λ⟨n,x,ob,h1,h2,h3⟩=>⟨n,x,ob,h1,h2,hs _ h3⟩)⟩
theorem Gt.mono{ok:aY}{b P:aG}{x:eR}{L L':az Cd}{n:aG}{t:aD aG}{ob:Obj}(h:Gt σ ok b P x L n t ob)(hs:∀e∈L,e∈L'):Gt σ ok b P x L' n t ob:=h.imp id (λ⟨xs,h1,h2,h3,h4,h5,h6,h7⟩=>⟨xs,h1,h2,h3,h4,h5,h6,h7.mono hs⟩)
theorem GH{ok:aY}:∀{l:az eR} {b P:aG} {ss:az (aY×az AV)} {ws:az (aG×eu)},(AK ok b l).val σ=aj (ss,ws)->∃L,ws=lR L/\(∀n t ob,(n,t,ob)∈L->∃q x,l[q]? =aj x/\Gt σ ok (b+40*q) (P+q) x L n t ob)/\DR ok L ss (kR P l):=by
 intro l;induction l with
 |nil=>intro b P ss ws h;obtain⟨rfl,rfl⟩:=bU (aF h);exact⟨[],rfl,λn t ob h=>(by cases h),rfl,λj x x3 h=>by simp at h⟩
 |cons x l ih=>
  intro b P ss ws h;obtain⟨⟨v,w1⟩,h1,h⟩:=Rd.bind_some h;obtain⟨⟨vr,w2⟩,h2,h⟩:=Rd.bind_some h;obtain⟨rfl,rfl⟩:=bU (aF h);obtain⟨L1,rfl,a1,a2⟩:=IW (P:=P) h1;obtain⟨L2,rfl,b1,b2,b3⟩:=ih (P:=P+1) h2;refine⟨L1++L2,by rw[ir],λn t ob hm=> ?_,by simp[kR,b2],λj s s3 hs hs3=> ?_⟩
  ·rcases a_.1 hm with hm|hm
   ·exact⟨0,x,rfl,(a1 n t ob hm).mono (λe he=>bN _ he)⟩
   ·obtain⟨q,y,hq,hr⟩:=b1 n t ob hm;refine⟨q+1,y,hq, ?_⟩
    rw[show b+40*(q+1)=b+40+40*q by omega,show P+(q+1)=P+1+q by omega];exact hr.mono (λe he=>bH _ he)
  ·cases j with
   |zero=>cases hs;cases hs3;exact a2.mono (λe he=>bN _ he)
   |succ j=>exact(b3 j s s3 hs hs3).mono (λe he=>bH _ he)
end
end Go.FG

namespace Go.FG
section
variable {P:cQ} {E:fB} {σ:St} {a:Act} {w:bF} {c:eK} {o:eV} {nm:aG} {e:rX}
def qB(σ:St)(ok bx:aY)(b p j:aG)(k:Pk)(a:AA)(n:aG)(t:aD aG)(ob:Obj):Prop:=
 (∃e ex,k.src= .own n e ex/\t=ao/\ob= .dead)\/
 (∃e ex ys,k.src= .own n e ex/\a= .kp ys/\t=aj (dL p j)/\ob= .row e ex ys/\(ex=ak\/ok=ak))\/
 ∃e ex ys,bx=ak/\a= .ow e ex ys/\n=b+j/\t=aj (dL p (100+j))/\ob= .row e ex ys/\(ex=ak\/ok=ak)/\σ (cW n)= .jE/\n<900000000
theorem RT{ok:aY}{b p j:aG}{k:Pk}{a:AA}{ws:az (aG×eu)}(h:(DF ok k a).val σ=aj ws):∃L,ws=lR L/\(∀n t ob,(n,t,ob)∈L->qB σ ok aq b p j k a n t ob)/\∀n e ex,k.src= .own n e ex->∃t ob,(n,t,ob)∈L:=by
 cases hs:k.src with
 |no=>
  have h:(Rd.ret []:Rd (az (aG×eu))).val σ=aj ws:=by unfold DF at h;rw[hs]at h;exact h
  obtain rfl:=aF h;exact⟨[],rfl,λn t ob h=>(by cases h),λn e ex h=>by cases h⟩
 |own n e ex=>
  cases a with
  |kp ys=>
   have h:(bif ex||ok then Rd.ret [(cW n,eu.o (.row e ex ys))]else .fail).val σ=aj ws:=by unfold DF at h;rw[hs]at h;exact h
   obtain⟨h1,h⟩:=cE h;obtain rfl:=aF h;refine⟨[(n,aj (dL p j), .row e ex ys)],rfl,λm t ob hm=> ?_,λm e' s9 h=> ?_⟩
   ·rw[aZ]at hm;cases hm;exact .inr (.inl ⟨e,ex,ys,hs,rfl,rfl,rfl,by simpa using h1⟩)
   ·cases h;exact⟨_,_,aZ.2 rfl⟩
  |nl=>
   have h:(Rd.ret [(cW n,eu.o .dead)]:Rd (az (aG×eu))).val σ=aj ws:=by unfold DF at h;rw[hs]at h;exact h
   obtain rfl:=aF h;refine⟨[(n,ao, .dead)],rfl,λm t ob hm=> ?_,λm e' s9 h=> ?_⟩
   ·rw[aZ]at hm;cases hm;exact .inl ⟨e,ex,hs,rfl,rfl⟩
   ·cases h;exact⟨_,_,aZ.2 rfl⟩
  |_=>unfold DF at h;rw[hs]at h;simp at h
theorem Ny{ok:aY}{b p:aG}:∀{r:az Pk} {l:az AA} {j:aG} {ws:az (aG×eu)},(JW ok r l).val σ=aj ws->∃L,ws=lR L/\(∀n t ob,(n,t,ob)∈L->∃i k,r[i]? =aj k/\qB σ ok aq b p (j+i) k (l.getD i .nl) n t ob)/\
  ∀(i:aG) (k:Pk) (n e:aG) (ex:aY),r[i]? =aj k->k.src= .own n e ex->∃t ob,(n,t,ob)∈L:=by
 intro r;induction r with
 |nil=>intro l j ws h;obtain rfl:=aF h;exact⟨[],rfl,λn t ob h=>(by cases h),λi k n e ex h=>by simp at h⟩
 |cons k r ih=>
  intro l j ws h;obtain⟨w1,h1,h⟩:=Rd.bind_some h;obtain⟨w2,h2,h⟩:=Rd.bind_some h;obtain rfl:=aF h;obtain⟨L1,rfl,a1,a2⟩:=RT (b:=b) (p:=p) (j:=j) h1;obtain⟨L2,rfl,b1,b2⟩:=ih (j:=j+1) h2;have e0:l.headD .nl=l.getD 0 .nl:=by cases l<;>rfl
  have e1:∀i,l.tail.getD i .nl=l.getD (i+1) .nl:=λi=>by cases l<;>simp
  refine⟨L1++L2,by rw[ir],λn t ob hm=> ?_,λi k' n e ex hk hs=> ?_⟩
  ·rcases a_.1 hm with hm|hm
   ·exact⟨0,k,rfl,by rw[<-e0];exact a1 n t ob hm⟩
   ·obtain⟨i,k',hk,hc⟩:=b1 n t ob hm;rw[e1]at hc;exact⟨i+1,k',hk,by rw[show j+(i+1)=j+1+i by omega];exact hc⟩
  ·cases i with
   |zero=>cases hk;obtain⟨t,ob,h⟩:=a2 n e ex hs;exact⟨t,ob,bN _ h⟩
   |succ i=>obtain⟨t,ob,h⟩:=b2 i k' n e ex hk hs;exact⟨t,ob,bH _ h⟩
theorem Nw{ok:aY}{b p j:aG}{k:Pk}{v v':AV}{a:AA}{ws:az (aG×eu)}(hv:∀n e ex,k.src= .own n e ex->v= .own n)(h:(Bt ok (b+j) k v a).val σ=aj (v',ws)):
  ∃L,ws=lR L/\(∀n t ob,(n,t,ob)∈L->qB σ ok ak b p j k a n t ob)/\(∀n e ex,k.src= .own n e ex->∃t ob,(n,t,ob)∈L)/\lB ok L v' (sI p j a):=by
 have new:∀{v':AV} {ws:az (aG×eu)},(qR ok (b+j) a).val σ=aj (v',ws)->∃L,ws=lR L/\(∀n t ob,(n,t,ob)∈L->qB σ ok ak b p j k a n t ob)/\lB ok L v' (sI p j a):=by
  intro v' ws h;obtain⟨b1,rfl,b2⟩:=Dc h;obtain⟨rfl,b3⟩:=b2 (dL p (100+j));refine⟨_,rfl,λn t ob hm=> ?_, ?_⟩
  ·obtain⟨e,ex,ys,rfl,rfl,rfl,rfl⟩:=HA.1 hm;exact .inr (.inr ⟨e,ex,ys,rfl,rfl,rfl,rfl,rfl,b1⟩)
  ·have:sI p j a=kQ (dL p (100+j)) a:=by cases a<;>first|rfl|exact b1.elim
   rw[this];exact b3
 cases hs:k.src with
 |no=>
  have h:(qR ok (b+j) a).val σ=aj (v',ws):=by unfold Bt at h;rw[hs]at h;exact h
  obtain⟨L,rfl,a1,a2⟩:=new h;exact⟨L,rfl,a1,λm e' s9 h=>(by cases h),a2⟩
 |own n e ex=>
  have other:((qR ok (b+j) a).bind λ(x:AV×az (aG×eu))=>Rd.ret (x.1,(cW n,eu.o .dead)::x.2)).val σ=aj (v',ws)->∃L,ws=lR L/\(∀n t ob,(n,t,ob)∈L->qB σ ok ak b p j k a n t ob)/\(∀n' e' s9,Src.own n e ex= .own n' e' s9->∃t ob,(n',t,ob)∈L)/\lB ok L v' (sI p j a):=by
   intro h;obtain⟨⟨v1,w1⟩,h1,h⟩:=Rd.bind_some h;obtain⟨rfl,rfl⟩:=bU (aF h);obtain⟨L,rfl,a1,a2⟩:=new h1;refine⟨(n,ao, .dead)::L,rfl,λm t ob hm=> ?_,λm e' s9 h=> ?_,a2.mono (λe he=>cU _ he)⟩
   ·rcases cz.1 hm with hm|hm
    ·cases hm;exact .inl ⟨e,ex,hs,rfl,rfl⟩
    ·exact a1 m t ob hm
   ·cases h;exact⟨_,_,du ..⟩
  cases a with
  |kp ys=>
   have h:(bif ex||ok then Rd.ret (v,[(cW n,eu.o (.row e ex ys))])else .fail).val σ=aj (v',ws):=by unfold Bt at h;rw[hs]at h;exact h
   obtain⟨h1,h⟩:=cE h;obtain⟨rfl,rfl⟩:=bU (aF h);refine⟨[(n,aj (dL p j), .row e ex ys)],rfl,λm t ob hm=> ?_,λm e' s9 h=> ?_, .inr ⟨n,dL p j,_,hv n e ex hs,rfl,aZ.2 rfl⟩⟩
   ·rw[aZ]at hm;cases hm;exact .inr (.inl ⟨e,ex,ys,hs,rfl,rfl,rfl,by simpa using h1⟩)
   ·cases h;exact⟨_,_,aZ.2 rfl⟩
  |_=>exact other (by unfold Bt at h;rw[hs]at h;exact h)
theorem JT{ok:aY}{b p:aG}:∀{r:az Pk} {vs:az AV} {l:az AA} {j:aG} {Is:az AV} {ws:az (aG×eu)},(∀(i:aG) (k:Pk) (n e:aG) (ex:aY),r[i]? =aj k->k.src= .own n e ex->vs[i]? =aj (.own n))->(q_ ok (b+j) r vs l).val σ=aj (Is,ws)->
  l.length=r.length/\∃L,ws=lR L/\(∀n t ob,(n,t,ob)∈L->∃i k,r[i]? =aj k/\qB σ ok ak b p (j+i) k (l.getD i .nl) n t ob)/\
  (∀(i:aG) (k:Pk) (n e:aG) (ex:aY),r[i]? =aj k->k.src= .own n e ex->∃t ob,(n,t,ob)∈L)/\Is.length=l.length/\∀(i:aG) (v:AV) (a:AA),Is[i]? =aj v->l[i]? =aj a->lB ok L v (sI p (j+i) a):=by
 intro r;induction r with
 |nil=>
  intro vs l j Is ws hv h;cases vs with
  |cons=>cases l<;>simp[q_]at h
  |nil=>
   cases l with
   |cons=>simp[q_]at h
   |nil=>obtain⟨rfl,rfl⟩:=bU (aF h);exact⟨rfl,[],rfl,λn t ob h=>(by cases h),λi k n e ex h=>by simp at h,rfl,λi v a h=>by simp at h⟩
 |cons k r ih=>
  intro vs l j Is ws hv h;cases vs with
  |nil=>cases l<;>simp[q_]at h
  |cons v vs=>
   cases l with
   |nil=>simp[q_]at h
   |cons a l=>
    obtain⟨⟨v1,w1⟩,h1,h⟩:=Rd.bind_some h;obtain⟨⟨vr,w2⟩,h2,h⟩:=Rd.bind_some h;obtain⟨rfl,rfl⟩:=bU (aF h);obtain⟨L1,rfl,a1,a2,a3⟩:=Nw (p:=p) (λn e ex hs=>by have:=hv 0 k n e ex rfl hs;simpa using this) h1;obtain⟨i0,L2,rfl,b1,b2,b3,b4⟩:=ih (j:=j+1) (λi k' n e ex hk hs=>hv (i+1) k' n e ex hk hs) h2;refine⟨by simp[i0],L1++L2,by rw[ir],λn t ob hm=> ?_,λi k' n e ex hk hs=> ?_,by simp[b3],λi v' a' hv' ha'=> ?_⟩
    ·rcases a_.1 hm with hm|hm
     ·exact⟨0,k,rfl,a1 n t ob hm⟩
     ·obtain⟨i,k',hk,hc⟩:=b1 n t ob hm;exact⟨i+1,k',hk,by rw[show j+(i+1)=j+1+i by omega];exact hc⟩
    ·cases i with
     |zero=>cases hk;obtain⟨t,ob,h⟩:=a2 n e ex hs;exact⟨t,ob,bN _ h⟩
     |succ i=>obtain⟨t,ob,h⟩:=b2 i k' n e ex hk hs;exact⟨t,ob,bH _ h⟩
    ·cases i with
     |zero=>cases hv';cases ha';exact a3.mono (λe he=>bN _ he)
     |succ i=>have:=(b4 i v' a' hv' ha').mono (L':=L1++L2) (λe he=>bH _ he);rwa[show j+1+i=j+(i+1)by omega]at this
def Gr(σ:St)(ok:aY)(b p:aG)(pa:Pa)(l:az AA)(L:az Cd)(n:aG)(t:aD aG)(ob:Obj):Prop:=
 (∃i k,pa.cs[i]? =aj k/\qB σ ok pa.box.isSome b p i k (l.getD i .nl) n t ob)\/∃xs Is,pa.box=aj (n,xs)/\t=aj (dL p 900)/\ob= .box Is/\m7 ok L Is (nF p 0 l)
theorem RS{T:Tab}{mX:az aG}{v:bg}{ok:aY}{b p:aG}{pa:Pa}(Jz:zi T σ w c mX pa v){l:az AA}{ws:az (aG×eu)}(h:(RR ok b pa l).val σ=aj ws):
  ∃L,ws=lR L/\(∀n t ob,(n,t,ob)∈L->Gr σ ok b p pa l L n t ob)/\∀n∈pa.th,∃t ob,(n,t,ob)∈L:=by
 have cs:∀n,n∈pa.cs.flatMap (·.th)->∃(i:aG) (k:Pk) (e:aG) (ex:aY),pa.cs[i]? =aj k/\k.src= .own n e ex:=by
  intro n hn;obtain⟨k,hk,hn⟩:=bG.1 hn;obtain⟨i,hi⟩:=bZ hk;unfold Pk.th at hn;split at hn
  ·rename_i m e ex hs;have:=aZ.1 hn;subst this;exact⟨i,k,e,ex,hi,hs⟩
  ·cases hn
 unfold RR at h;split at h
 ·rename_i n xs hb;obtain⟨⟨Is,w1⟩,h1,h⟩:=Rd.bind_some h;obtain rfl:=aF h;obtain⟨_,_,_,hl,_,uW⟩:=Jz.box n xs hb;obtain⟨i0,L,rfl,a1,a2,a3,a4⟩:=JT (b:=b) (p:=p) (j:=0) uW (by rw[wT];exact h1);have cr:m7 ok L Is (nF p 0 l):=by
   refine⟨by rw[ui,a3],λi v v3 hv CF=> ?_⟩
   rw[u9]at CF;cases hx:l[i]? with
   |none=>rw[hx]at CF;cases CF
   |some y=>rw[hx]at CF;cases CF;exact a4 i v y hv hx
  refine⟨L++[(n,aj (dL p 900), .box Is)],by rw[ir];rfl,λm t ob hm=> ?_,λm hm=> ?_⟩
  ·rcases a_.1 hm with hm|hm
   ·obtain⟨i,k,hk,hc⟩:=a1 m t ob hm;rw[bT]at hc;exact .inl ⟨i,k,hk,by rw[hb];exact hc⟩
   ·rw[aZ]at hm;cases hm;exact .inr ⟨xs,Is,hb,rfl,rfl,cr.mono (λe he=>bN _ he)⟩
  ·unfold Pa.th at hm;rw[hb]at hm;rcases a_.1 hm with hm|hm
   ·have:=aZ.1 hm;subst this;exact⟨_,_,bH _ (aZ.2 rfl)⟩
   ·obtain⟨i,k,e,ex,hk,hs⟩:=cs m hm;obtain⟨t,ob,h⟩:=a2 i k m e ex hk hs;exact⟨t,ob,bN _ h⟩
 ·rename_i hb;obtain⟨L,rfl,a1,a2⟩:=Ny (b:=b) (p:=p) (j:=0) h;refine⟨L,rfl,λm t ob hm=> ?_,λm hm=> ?_⟩
  ·obtain⟨i,k,hk,hc⟩:=a1 m t ob hm;rw[bT]at hc;exact .inl ⟨i,k,hk,by rw[hb];exact hc⟩
  ·unfold Pa.th at hm;rw[hb,gg]at hm;obtain⟨i,k,e,ex,hk,hs⟩:=cs m hm;exact a2 i k m e ex hk hs
theorem Gr.mono{ok:aY}{b p:aG}{pa:Pa}{l:az AA}{L L':az Cd}{n:aG}{t:aD aG}{ob:Obj}(h:Gr σ ok b p pa l L n t ob)(hs:∀e∈L,e∈L'):Gr σ ok b p pa l L' n t ob:=
 h.imp id (λ⟨xs,Is,h1,h2,h3,h4⟩=>⟨xs,Is,h1,h2,h3,h4.mono hs⟩)
theorem Nx{T:Tab}{mX:az aG}{ok:aY}:∀{ps:az Pa} {b p:aG} {os:az (az AA)} {ws:az (aG×eu)},(∀(q:aG) (pa:Pa),ps[q]? =aj pa->∃v,zi T σ w c mX pa v)->(JV ok b ps os).val σ=aj ws->
  ∃L,ws=lR L/\(∀n t ob,(n,t,ob)∈L->∃q pa,ps[q]? =aj pa/\Gr σ ok (b+40*q) (p+q) pa (os.getD q []) L n t ob)/\∀n∈ps.flatMap (·.th),∃t ob,(n,t,ob)∈L:=by
 intro ps;induction ps with
 |nil=>intro b p os ws _ h;obtain rfl:=aF h;exact⟨[],rfl,λn t ob h=>(by cases h),λn h=>(by cases h)⟩
 |cons pa ps ih=>
  intro b p os ws E7 h;obtain⟨w1,h1,h⟩:=Rd.bind_some h;obtain⟨w2,h2,h⟩:=Rd.bind_some h;obtain rfl:=aF h;obtain⟨v,Jz⟩:=E7 0 pa rfl;obtain⟨L1,rfl,a1,a2⟩:=RS (p:=p) Jz h1;obtain⟨L2,rfl,b1,b2⟩:=ih (p:=p+1) (λq pa' hq=>E7 (q+1) pa' hq) h2;have e0:os.headD []=os.getD 0 []:=by cases os<;>rfl
  have e1:∀i,os.tail.getD i []=os.getD (i+1) []:=λi=>by cases os<;>simp
  refine⟨L1++L2,by rw[ir],λn t ob hm=> ?_,λn hn=> ?_⟩
  ·rcases a_.1 hm with hm|hm
   ·exact⟨0,pa,rfl,by rw[<-e0];exact(a1 n t ob hm).mono (λe he=>bN _ he)⟩
   ·obtain⟨q,pa',hq,hc⟩:=b1 n t ob hm;rw[e1]at hc;refine⟨q+1,pa',hq, ?_⟩
    rw[show b+40*(q+1)=b+40+40*q by omega,show p+(q+1)=p+1+q by omega];exact hc.mono (λe he=>bH _ he)
  ·rw[wS]at hn;rcases a_.1 hn with hn|hn
   ·obtain⟨t,ob,h⟩:=a2 n hn;exact⟨t,ob,bN _ h⟩
   ·obtain⟨t,ob,h⟩:=b2 n hn;exact⟨t,ob,bH _ h⟩
theorem Qt:∀{l:az aG} {ws:az (aG×eu)},(Qs l).val σ=aj ws->∃Fz:az (aG×Obj),ws=jO Fz/\(∀n x,(n,x)∈Fz->n∈l/\∃el ex xs,σ (cW n)= .o (.row el ex xs)/\x= .fE el xs)/\∀n∈l,∃x,(n,x)∈Fz:=by
 intro l;induction l with
 |nil=>intro ws h;obtain rfl:=aF h;exact⟨[],rfl,λn x h=>(by cases h),λn h=>(by cases h)⟩
 |cons m l ih=>
  intro ws h;obtain⟨ob,hg,h⟩:=Rd.bind_some h;have hg:=dp hg;cases ob with
  |row el ex xs=>
   obtain⟨w1,h1,h⟩:=Rd.bind_some h;obtain rfl:=aF h;obtain⟨Fz,rfl,a1,a2⟩:=ih h1;refine⟨(m, .fE el xs)::Fz,rfl,λn x hm=> ?_,λn hn=> ?_⟩
   ·rcases cz.1 hm with hm|hm
    ·cases hm;exact⟨du ..,el,ex,xs,hg,rfl⟩
    ·obtain⟨h1,h2⟩:=a1 n x hm;exact⟨cU _ h1,h2⟩
   ·rcases cz.1 hn with rfl|hn
    ·exact⟨_,du ..⟩
    ·obtain⟨x,h⟩:=a2 n hn;exact⟨x,cU _ h⟩
  |_=>simp at h
end
end Go.FG

namespace Go.FG
section
variable {P:cQ} {E:fB} {σ:St} {a:Act} {w:bF} {c:eK} {o:eV} {nm:aG} {e:rX}
theorem ag7{T:Tab}{mX:az aG}{pa:Pa}{v:bg}(h:zi T σ w c mX pa v):∃xs,Kx pa.arg xs/\xs=pa.cs.map (·.a)/\∀(j:aG) (k:Pk),pa.cs[j]? =aj k->∃u,uG T σ w c mX k u:=by
 have h1:Kx pa.arg (pa.cs.map (·.a)):=by
  cases hb:pa.box with
  |none=>obtain⟨g,h1,_⟩:=h.val hb;exact .inl ⟨g,h1⟩
  |some nx=>obtain⟨n,xs⟩:=nx;exact .inr (h.box n xs hb).1
 exact⟨_,h1,rfl,(RV h h1).2⟩
theorem UP{l:az AA}{i:aG}{ys:aX}(h:l.getD i .nl= .kp ys):l[i]? =aj (.kp ys):=by
 rw[cK]at h;cases hx:l[i]? with
 |none=>rw[hx]at h;cases h
 |some x=>rw[hx]at h;rw[<-h];rfl
theorem DK{f:aG}{fn:Func}{vs Zm:de bg}{cl:Call}{fx:dn}(ho:o.op= .call cl)(hc:cl.callee= .value fx)(hf:P.funcs[f]? =aj fn)(hb:fn.body.isSome=ak)(hn:(fn.name== "runtime.NumGoroutine")=aq)(he:a.eval fx= .func (.func f) #[] Zm):
  (execOp a.eval o).run P w= .ok (.enter f (cl.args.map a.eval++Zm)) w:=by
 have Oa:fn.body.isNone=false:=by cases h:fn.body<;>simp_all
 unfold execOp;rw[ho];simp only[resolve,hc,he,Deferred.ofValue,cg,cL,bB,invoke,callFunc,program,mJ,hf,hn,Oa,dj,if_false,Array.empty_append]
def nameOf(nm:aG)(ps:az Pa)(P J:aG):aD aG:=
 if 500<=P then aj (if J=900 then nm+1+40*(P-500)+30 else nm+1+40*(P-500)+J)
 else if J<100\/J=900 then loc ps (dL P J)else aj (nm+400+40*P+(J-100))
theorem oi:∀{l r:az aG},qP l r=ak->∀n∈l,n∉r
 |[],_,_,n,h=>by cases h
 |m::l,r,h,n,hn=>by
  simp only[qP,aK,dD]at h;rcases cz.1 hn with rfl|hn
  ·exact pT h.1
  ·exact oi h.2 n hn
theorem HI(hE:dZ P E)(hF:∀g,la P E g (E.call g))(b8:Ok E σ w c)(dA:eZ E σ a w c)(hd:∀d,o.dst=aj d->d<a.tmps.size){cl:Call}{fx:dn}(ho:o.op= .call cl)(hb:cl.callee= .value fx){f:aG}{iA:az (az CV)}(ef:ea E w c (.fn f iA) (a.eval fx)){Oi:aD (az aG)}(h:(EN E nm o f cl.args.toList Oi iA).val σ=aj e)(hc:e.cond=ak):gA P E σ a w c o e.ws:=by
  obtain⟨Zm,he,E7,aeV⟩:=ef;unfold EN at h;obtain⟨ps,h2,h⟩:=Rd.bind_some h;obtain⟨h3,h⟩:=cE h;simp only[aK]at h3;obtain⟨hlen,Jz⟩:=P0 b8 dA h2;split at h
  ·rename_i cnd r Hd;obtain⟨h4,h⟩:=cE h;simp only[aK]at h4;obtain⟨w0,h5,h⟩:=Rd.bind_some h;obtain⟨w1,h6,h⟩:=Rd.bind_some h;obtain⟨⟨ss,w2⟩,h7,h⟩:=Rd.bind_some h;obtain⟨h8,h⟩:=cE h;obtain rfl:=aF h;have hc:cnd=true:=hc;subst hc;have atg:=cC h4.1.1;have am6:∀{q:aG} {pa:Pa},ps[q]? =aj pa->∀n∈pa.mX,n∈ps.flatMap (·.mX):=λhq n hn=>bG.2 ⟨_,aQ hq,hn⟩;have hh:Handed E σ w c ps iA (cl.args.map a.eval++Zm):=by
    refine⟨by simp[E7,hlen],λq pa hq=> ?_,λq cs hq=> ?_,qo h3.1,oi h3.2⟩
    ·obtain⟨x,hx,hp⟩:=Jz q pa hq;rw[cO]at hx;have U1:=(dN.1 hx).1;exact⟨a.eval x,by rw[CQ (by simpa using U1),My,hx];rfl,hp.mono (am6 hq)⟩
    ·obtain⟨b,Oa,hf⟩:=aeV q cs hq;refine⟨b, ?_,hf⟩
     rw[Array.getElem?_append_right (by simp[hlen]),<-Oa];congr 1;simp[hlen]
   have abE:∀(q:aG) (pa:Pa),ps[q]? =aj pa->∃v,zi E σ w c (ps.flatMap (·.mX)) pa v:=λq pa hq=>by obtain⟨v,_,h⟩:=hh.at_ q pa hq;exact⟨v,h⟩
   obtain⟨QG,am7,_⟩:=enter b8 hh;have fT:(cl.args.map a.eval++Zm).size=(jk ps iA).length:=by simp[jk,E7,hlen]
   have abo:E.call f (jk ps iA)=aj (ak,r):=Hd;obtain⟨⟨fn,g1,g2,g3⟩,Jv⟩:=hF f _ r abo w (qj σ c ps) _ QG fT am7;obtain⟨Fz,rfl,z1,z2⟩:=Qt h5;obtain⟨Lo,rfl,l1,l2⟩:=Nx (p:=0) abE h6;obtain⟨Lr,rfl,m1,m2⟩:=GH (P:=500) h7;generalize afi:(E.tk nm||(ps.flatMap (·.mX)).isEmpty)=ok at l1 m1 m2;have Yc:Small (jk ps iA) r:=by
    refine⟨λp x xs hp hx=> ?_,λq x xs hq hx=> ?_,λp=> ?_⟩
    ·rcases uP hp with ⟨pa,hq,_⟩|⟨_,cs,_,rfl⟩
     ·have:=(aU.1 hq).1;omega
     ·rcases hx with ⟨g,hx⟩|hx<;>cases hx
    ·have:=bn.1 h4.1.2 x (aQ hq);have:=cC this;rcases hx with ⟨g,rfl⟩|rfl<;>(simp only[mM]at this;omega)
    ·rw[cK];cases hx:r.outs[p]? with
     |none=>simp
     |some l=>have:=bn.1 h4.2 l (aQ hx);exact cC this
   have GG:∀{q:aG} {pa:Pa},ps[q]? =aj pa->(jk ps iA)[q]? =aj pa.arg:=λ{q} {pa} hq=>by have:=(aU.1 hq).1;unfold jk;rw[dg (by simpa using this),bE,hq];rfl
   have HD:∀{q:aG} {pa:Pa} {n:aG},ps[q]? =aj pa->n∈pa.th->n∈ps.flatMap (·.th):=λhp hn=>bG.2 ⟨_,aQ hp,hn⟩;have aeE:∀{q i n e:aG} {ex:aY} {pa:Pa} {k:Pk},ps[q]? =aj pa->pa.cs[i]? =aj k->k.src= .own n e ex->n∈ps.flatMap (·.th):=λhq hk hs=>HD hq (bH _ (bG.2 ⟨_,aQ hk,by simp[Pk.th,hs]⟩));have small:∀{q i:aG} {pa:Pa} {k:Pk},ps[q]? =aj pa->pa.cs[i]? =aj k->i<100:=λhq hk=>by obtain⟨v,hv⟩:=abE _ _ hq;have:=(aU.1 hk).1;have:=hv.len;omega
   unfold gA;intro K Q hK;unfold MC;rw[DK (vs:=cl.args.map a.eval++Zm) ho hb g1 g2 g3 he,TC];refine Calls.mono Jv (λen w'' hR=> ?_);cases en with
   |panicked=>exact hR.elim
   |outgrown=>exact hR.elim
   |returned v=>
    obtain⟨c3,E6,wJ,s_,wK⟩:=hR;have fS:∀m,inj (jk ps iA) (cW m)≠ .jE->c3.P m=(qj σ c ps).P m/\c3.G m=(qj σ c ps).G m:=s_;have hL:∀n t ob,(n,t,ob)∈Lo++Lr->Xn σ (nO (jk ps iA) r) c c3 ok (ps.flatMap (·.th)) (Lo++Lr) n t ob/\∀x,t=aj x->∃PP J,x=dL PP J/\J<1000/\nameOf nm ps PP J=aj n:=by
     intro n t ob hm;rcases a_.1 hm with hm|hm
     ·obtain⟨q,pa,hq,ug⟩:=l1 n t ob hm;obtain⟨v0,Oe⟩:=abE q pa hq;obtain⟨xs,hx1,Of,hx3⟩:=ag7 Oe;have U1:=(aU.1 hq).1;rw[bT]at ug;rcases ug with ⟨i,k,hk,hco⟩|⟨ys,Is,hbx,rfl,rfl,hcr⟩
      ·have hi:=small hq hk;rcases hco with ⟨e',ex,hs,rfl,rfl⟩|⟨e',ex,ys,hs,ha,rfl,rfl,hex⟩|⟨e',ex,ys,hbx,ha,rfl,rfl,rfl,hex,hf,jD⟩
       ·refine⟨⟨λ_=>aeE hq hk hs,λhn=> ?_,λ_=>rfl,λx hx=>(by cases hx)⟩,λx hx=>(by cases hx)⟩
        obtain⟨u,hu⟩:=hx3 i k hk;unfold uG at hu;rw[hs]at hu;obtain⟨zs,hg,_⟩:=hu;rw[hg]at hn;cases hn
       ·obtain⟨u,hu⟩:=hx3 i k hk;unfold uG at hu;rw[hs]at hu;obtain⟨zs,hg,hka,_⟩:=hu;refine⟨⟨λ_=>aeE hq hk hs,λhn=>(by rw[hg]at hn;cases hn),λhx=>(by cases hx),λx hx=> ?_⟩,λx hx=> ?_⟩
        ·cases hx;refine⟨λ_=> ?_, .inl ⟨e',ex,ys,rfl, ?_,hex⟩⟩
         ·obtain⟨q1,q2⟩:=fS (dL q i) ((ql (GG hq)).2 xs i e' ex zs hx1 (by rw[Of,bE,hk];simp[hka]));obtain⟨q3,q4⟩:=s7 (σ:=σ) (c:=c) (Fg hq hk hs (by omega));exact⟨q1.trans q3,q2.trans q4⟩
         ·exact vL Yc (.kp q pa.arg xs i e' ex zs ys (GG hq) hx1 (by rw[Of,bE,hk];simp[hka]) (UP ha))
        ·cases hx;refine⟨q,i,rfl,by omega, ?_⟩
         unfold nameOf;rw[bL (by omega),bC (.inl hi)];exact Fg hq hk hs (by omega)
       ·have hla:=E0.1 ha;refine⟨⟨λhn=>cq hf hn,λ_=>jD,λhx=>(by cases hx),λx hx=> ?_⟩,λx hx=> ?_⟩
        ·cases hx;exact⟨λhn=>cq hf hn, .inl ⟨e',ex,ys,rfl,vL Yc (.nw q pa.arg xs i e' ex ys (GG hq) hx1 hla),hex⟩⟩
        ·cases hx;refine⟨q,100+i,rfl,by omega, ?_⟩
         unfold nameOf;rw[bL (by omega),bL (by omega)];congr 1;omega
      ·obtain⟨p1,p2,p3,_⟩:=Oe.box n ys hbx;refine⟨⟨λ_=>HD hq (by simp[Pa.th,hbx]),λhn=>(by rw[p3]at hn;cases hn),λhx=>(by cases hx),λx hx=> ?_⟩,λx hx=> ?_⟩
       ·cases hx;refine⟨λ_=> ?_, .inr ⟨Is,_,rfl,vL Yc (.ob q _ (by rw[GG hq,p1])),hcr.mono (λe he=>bN _ he)⟩⟩
        obtain⟨q1,q2⟩:=fS (dL q 900) ((ql (GG hq)).1 _ p1);obtain⟨q3,q4⟩:=s7 (σ:=σ) (c:=c) (zX hq hbx);exact⟨q1.trans q3,q2.trans q4⟩
       ·cases hx;refine⟨q,900,rfl,by omega, ?_⟩
        unfold nameOf;rw[bL (by omega),bC (.inr rfl)];exact zX hq hbx
     ·obtain⟨q,x0,hq,hra⟩:=m1 n t ob hm;rcases hra with ⟨xs,j,e',ex,ys,hx,hj,rfl,rfl,rfl,hex,hf,jD⟩|⟨xs,rfl,rfl,rfl,rfl,hf,jD,hcr⟩
      ·have jC:=(aU.1 hj).1;have:=Yc.rl q x0 xs hq hx;refine⟨⟨λhn=>cq hf hn,λ_=>jD,λhx=>(by cases hx),λx oZ=> ?_⟩,λx oZ=> ?_⟩
       ·cases oZ;exact⟨λhn=>cq hf hn, .inl ⟨e',ex,ys,rfl,vL Yc (.rr q x0 xs j e' ex ys hq hx hj),hex⟩⟩
       ·cases oZ;refine⟨500+q,j,rfl,by omega, ?_⟩
        unfold nameOf;rw[bC (by omega),bL (by omega),show 500+q-500=q by omega]
      ·refine⟨⟨λhn=>cq hf hn,λ_=>jD,λhx=>(by cases hx),λx oZ=> ?_⟩,λx oZ=> ?_⟩
       ·cases oZ;exact⟨λhn=>cq hf hn, .inr ⟨_,_,rfl,vL Yc (.rb q xs hq),hcr.mono (λe he=>bH _ he)⟩⟩
       ·cases oZ;refine⟨500+q,900,rfl,by omega, ?_⟩
        unfold nameOf;rw[bC (by omega),bC rfl,show 500+q-500=q by omega]
    have Hk:((Lo++Lr).map (·.1)).Nodup:=by
     have:=qo h8;rw[<-ir]at this;unfold lR jO at this;rw[jU,jU]at this;have e1:(Lo++Lr).map (((λx:aG×eu=>x.1)∘λd:aG×Obj=>(cW d.1,eu.o d.2))∘λt:Cd=>(t.1,t.2.2))=((Lo++Lr).map (·.1)).map cW:=by rw[jU];rfl
     rw[e1]at this;exact qW this
    have QH:ok=ak->∀n∈ps.flatMap (·.mX),∃x,(n,x)∈Fz:=by
     intro hk n hn;rw[<-afi]at hk;cases E_:E.tk nm with
     |true=>rw[E_]at z2;exact z2 n hn
     |false=>
      rw[E_]at hk;have:ps.flatMap (·.mX)=[]:=by simpa using hk
      rw[this]at hn;cases hn
    have hFz:∀n x,(n,x)∈Fz->ok=ak/\n∈ps.flatMap (·.mX)/\∃el ex xs,σ (cW n)= .o (.row el ex xs)/\x= .fE el xs:=by
     intro n x hn;obtain⟨y1,y2⟩:=z1 n x hn;cases E_:E.tk nm with
     |true=>rw[E_]at y1;exact⟨by rw[<-afi,E_];rfl,y1,y2⟩
     |false=>rw[E_]at y1;cases y1
    have hws:jO Fz++(lR Lo++lR Lr)++dw o (rG ss)=jO (Fz++(Lo++Lr).map λt=>(t.1,t.2.2))++dw o (rG ss):=by rw[<-ir];simp only[lR,jO,dh]
    obtain⟨c',k1,k2,k3,k4⟩:=leave b8 dA hd hh E6 wJ wK (L:=Lo++Lr) (Fz:=Fz) (λn t ob hm=>(hL n t ob hm).1) Hk
     (λn n' x ob ob' h1 h2=>by obtain⟨P1,J1,e1,e2,e3⟩:=(hL n _ ob h1).2 x rfl;obtain⟨P2,J2,f1,f2,f3⟩:=(hL n' _ ob' h2).2 x rfl;obtain⟨rfl,rfl⟩:=tn e2 f2 (e1.symm.trans f1);rw[e3]at f3;exact aF f3)
     (λn hn=>by obtain⟨t,ob,h⟩:=l2 n hn;exact⟨t,ob,bN _ h⟩) hFz QH
     (show DR ok (Lo++Lr) ss (kR 500 r.rs)from⟨m2.1,λj x x3 hx hx3=>(m2.2 j x x3 hx hx3).mono (λe he=>bH _ he)⟩)
    show K (a.put o.dst v) w'';rw[<-hws]at k1 k2 k3;exact hK v w'' c' k1 k2 k3 k4.w
  ·simp at h
theorem Ft(b8:Ok E σ w c)(dA:eZ E σ a w c){o:eV}(hd:∀d,o.dst=aj d->d<a.tmps.size){nm:aG}{ob ob':Obj}{s:SV}{v:bg}{w':bF}
  (hn:σ (cW nm)= .o ob) (mq:pk E w' c nm ob') (py:∀b,fa c nm ob' b->fa c nm ob b)
  (Hi:∀xs,ob'= .box xs->∀a∈xs,iS σ a)
  (wK:iU E w' c s v) (zw:mh σ s)
  (hW:∀b,b<w.heap.size->¬fa c nm ob b->w'.heap[b]? =w.heap[b]?) (fT:w.heap.size<=w'.heap.size) (Nd:w'.os=w.os) (U3:w'.tape=w.tape) (UY:w'.output=w.output):
  Ok E (wr σ ([(cW nm, .o ob')]++dw o s)) w' c/\eZ E (wr σ ([(cW nm, .o ob')]++dw o s)) (a.put o.dst v) w' c/\nR σ c w (wr σ ([(cW nm, .o ob')]++dw o s)) c w':=by
 let σ1:=pf σ (cW nm) (.o ob');obtain⟨s1,s2,s3⟩:=rk σ1 o s;have key:∀m,wr σ1 (dw o s) (cW m)=if m=nm then .o ob' else σ (cW m):=λm=>by rw[s3];exact pE _ _ _ _
 have h_:∀m,σ (cW m)≠ .jE->wr σ1 (dw o s) (cW m)≠ .jE:=λm hm=>by rw[key];split<;>simp_all
 have gO:∀b,fa c nm ob b->jH (λm=>m=nm) σ c b:=λb hb=>⟨nm,ob,rfl,hn,hb⟩
 have hh:=b8.change (σ':=wr σ1 (dw o s)) (w':=w') (c':=c) (λm=>m=nm) (λm hm=>by rw[key,bL hm]) h_ (jh.refl _ _)
  (λb hb UX=>hW b hb (λhf=>UX (gO b hf))) fT (λ_ h=>h) (λ_ h=> .inl h) (λb hb=>jb (b8.lt b hb) fT)
  (λm x hm ho=>by subst hm;rw[key,bC rfl]at ho;cases ho;exact mq)
  (λm x b hm ho hf=>by subst hm;rw[key,bC rfl]at ho;cases ho;exact⟨.inl (gO b (py b hf)),b8.kk _ _ b hn (py b hf)⟩)
  (λm x m' x' b hm vS _ _ _ _=>by rw[hm,vS])
  (λm xs hm ho y hy n j9=>by subst hm;rw[key,bC rfl]at ho;cases ho;exact h_ n (Hi xs rfl y hy n j9)) Nd U3 UY
 refine⟨hh.1, ?_,hh.2⟩
 refine dA.change b8 hh.2 (jh.refl _ _) h_ o v (λn j9=>by rw[s1 n j9];exact iY _ _ _ _) (λd ho=>⟨hd d ho, ?_, ?_⟩)
 ·rw[s2 d ho];exact wK
 ·rw[s2 d ho];intro n j9;rw[key];split
  ·simp
  ·exact zw n j9
theorem JQ(hE:dZ P E)(hF:∀g,la P E g (E.call g))(b8:Ok E σ w c)(dA:eZ E σ a w c)(hd:∀d,o.dst=aj d->d<a.tmps.size){cl:Call}{fx x y:dn}(ho:o.op= .call cl)(hb:cl.callee= .value fx)(rB:cl.args.toList=[x,y])
  {f n i j:aG} (ef:ea E w c (.fn f []) (a.eval fx)) (hx:ea E w c (.inn n i j) (a.eval x)) (h:(Bc E o f n i j y).val σ=aj e) (hc:e.cond=ak):gA P E σ a w c o e.ws:=by
 unfold Bc at h;obtain⟨⟨k,m⟩,h1,h⟩:=Rd.bind_some h;have ey:=pB dA h1;obtain⟨ob,h2,h⟩:=Rd.bind_some h;have hg:=dp h2;split at h
 ·rename_i el xs;obtain⟨te,h3,h⟩:=Rd.bind_some h;have h6:=dP h3;split at h
  ·rename_i e2 zv;split at h
   ·rename_i cnd r Hd;split at h
    ·rename_i k2 m2 Cb hrs Hn;obtain rfl:=aF h;have hc:cnd=true:=hc;subst hc;obtain⟨⟨hi,hxv⟩,_⟩:=hx;obtain⟨zs,yy,t2,r1,r2,r3,r4,r5,r6,r7,r8⟩:=zV b8 hg h6 zv hi;rw[e7 r1 r2]at Hd;simp only[ju]at Hd;obtain⟨⟨t1,q1,fT,mc⟩,fS,gO⟩:=b8.obj n _ hg;obtain rfl:te=t1:=aF (h6.symm.trans q1);have lE:i<xs.length:=(aU.1 r1).1;obtain⟨jd,pv,hpb⟩:=fS.pos hi;have CB:fV xs i j:=⟨yy,_,r1,r2,rfl⟩
     generalize hq:c.G n i j=p at r5 r7 r8 hxv;let c1:eK:=⟨λ_=>p,λ_ _ _=>⟨ak,0,0,0,0,0⟩,c.K⟩
     let args:az eR:=[.v aq [.ow e2 ak zs], .v aq [.i k m]]
     have hO:∀q o',inj args (cW q)= .o o'->q=dL 0 0/\o'= .row e2 ak zs:=by
      intro q o' hq';have hm:=ni hq' (by simp);simp only[args,JE,sC,uh,sB,Dw,cz,di,gg,Ar,jz,or_false,iR]at hm;rcases hm with ⟨hm,_⟩|⟨hm,h⟩|⟨hm,_⟩
      ·exact cq hm (lM _ _)
      ·exact⟨jB hm,eu.o.inj h⟩
      ·exact cq hm (lM _ _)
     have hX:inj args (cW (dL 0 0))= .o (.row e2 ak zs):=rfl;have Bn:∀i j,¬fV zs i j:=by rintro i j ⟨y,x,h1,h2,h3⟩;rw[gV r4 (r6 y (aQ h1)) h2]at h3;cases h3
     have He:∀b,fa c1 (dL 0 0) (.row e2 ak zs) b->p.nil=aq/\b=p.blk:=by
      rintro b (⟨h1,h2⟩|⟨_,i,j,h,_⟩)
      ·exact⟨h1,h2⟩
      ·exact cq h (Bn i j)
     have hpf:p.nil=aq->fa c n (.row el ak xs) p.blk:=λhn=> .inr ⟨rfl,i,j,CB,by rw[hq];exact hn,by rw[hq]⟩;have QG:Ok E (inj args) w c1:=by
      refine⟨?_, ?_, ?_, ?_, ?_⟩
      ·intro q o' h;obtain⟨rfl,rfl⟩:=hO q o' h;exact⟨⟨t2,r3,r5,r6⟩,r7.frame (λ_=>rfl) (λi j y x u h1 h2 hr=>by rw[bC rfl];exact tz (gV r4 (r6 y (aQ h1)) h2) hr),λ_=>⟨λi j h=>cq h (Bn i j),λi j i' j' h=>cq h (Bn i j)⟩⟩
      ·intro q o' q' o'' b h h' _ _;rw[(hO q o' h).1,(hO q' o'' h').1]
      ·intro q o' b h hf hk;obtain⟨rfl,rfl⟩:=hO q o' h;obtain⟨hn,rfl⟩:=He b hf;exact b8.kk _ _ _ hg (hpf hn) hk
      ·exact b8.lt
      ·intro q bs h;obtain⟨_,h⟩:=hO q _ h;cases h
     have QN:(cl.args.map a.eval).size=args.length:=by
      have:cl.args.size=2:=by rw[<-dK,rB];rfl
      simp[args,this]
     have TQ:cl.args.map a.eval= #[a.eval x,a.eval y]:=by apply rI;rw[zd,rB];rfl
     obtain⟨Zm,he,E7,_⟩:=ef;have amZ:Zm= #[]:=zc (by simpa using E7);subst amZ;obtain⟨⟨fn,g1,g2,g3⟩,Jv⟩:=hF f args r Hd w c1 #[a.eval x,a.eval y] QG rfl (by
      intro q arg hqa;match q with
      |0=>cases hqa;exact⟨_,rfl,hxv⟩
      |1=>cases hqa;exact⟨_,rfl,ey⟩
      |q+2=>cases hqa)
     unfold gA;intro K Q hK;unfold MC;rw[DK (vs:= #[a.eval x,a.eval y]) ho hb g1 g2 g3 he,TQ,Array.append_empty,TC];refine Calls.mono Jv (λen w' hR=> ?_);cases en with
     |panicked=>exact hR.elim
     |outgrown=>exact hR.elim
     |returned v=>
      obtain⟨c3,E6,wJ,s_,wK⟩:=hR;obtain⟨rs,outs⟩:=r;simp only at hrs Hn;subst hrs;subst Hn;have hv:v= .int k2 m2:=wK;have hp3:c3.P (dL 0 0)=p:=(s_ (dL 0 0) (by rw[hX];simp)).1;have hX3:nO args ⟨[.v aq [.i k2 m2]],[[.kp Cb]]⟩ (cW (dL 0 0))= .o (.row e2 ak Cb):=rfl;obtain⟨⟨t3,u1,u2,u3⟩,u4,_⟩:=E6.obj _ _ hX3;obtain rfl:t2=t3:=aF (r3.symm.trans u1);rw[hp3]at u2 u4;have amn:iT w' p Cb (λ_ _ u x=>Sc u x):=u4.frame (λ_=>rfl) (λi j y x u h1 h2 hr=>by rw[bC rfl]at hr;exact tC hr (gV r4 (u3 y (aQ h1)) h2));have qT:∀b,b<w.heap.size->¬(p.nil=aq/\b=p.blk)->w'.heap[b]? =w.heap[b]? :=λb hb Jy=>wJ.same b hb (by rintro ⟨q,o',h1,h2⟩;obtain⟨rfl,rfl⟩:=hO q o' h1;exact Jy (He b h2));have hjk:j<te.ks.length:=(aU.1 zv).1;have abv:[CV.l e2 Cb].map CV.kd=(te.ks.drop j).take [CV.l e2 Cb].length:=by rw[bw,List.take_one,List.head?_drop,zv];rfl
      have rQ:=wq (i:=i) (j:=j) (cs:=[CV.l e2 Cb]) mc abv (by simp;omega) lE;have Hg:=kI mc;have A8:=kI rQ;have same:∀i' j',fV (eh xs i j [CV.l e2 Cb]) i' j'->fV xs i' j':=λi' j' hx=>(Hg i' j').2 (by have:=(A8 i' j').1 hx;rwa[jw]at this);have jD:∀b,fa c n (.row el ak xs) b->b<w.heap.size:=λb hb=>vp.lt b8 ⟨n,_,hg,hb⟩;have abD:p.nil=aq->(c.P n).blk≠p.blk:=λhn e=>(gO rfl).out i j CB (by rw[hq];exact hn) jd (by rw[hq];exact e.symm);have n9:iT w' (c.P n) (eh xs i j [CV.l e2 Cb]) (λi1 j1 u1 x1=>if ak=ak then XC E w' (c.G n) i1 j1 u1 x1 else cY E w' c.K u1 x1):=by
       obtain⟨vs,k1,k2,k3,k4,k5⟩:=fS.mem jd;refine⟨by rw[jw];exact fS.n,λhn=>(by rw[jd]at hn;cases hn),λ_=>⟨vs,k1.frame (qT _ (jD _ (.inl ⟨jd,rfl⟩)) (λh=>abD h.1 h.2)),k2,k3,k4,λi1 y1 j1 x1 g1 g2=> ?_⟩⟩
       rw[wk r1]at g1;simp only[if_true]at k5⊢;by_cases Hf:i1=i
       ·subst Hf;rw[bC rfl]at g1;cases g1;have Hq:yy.length=te.ks.length:=by rw[<-mc yy (aQ r1)];simp
        rw[oU (by simp;omega)]at g2;by_cases hqq:j<=j1/\j1<j+[CV.l e2 Cb].length
        ·rw[bC hqq]at g2;have:j1=j:=by simp at hqq;omega
         subst this;simp at g2;subst g2;obtain⟨u,hu,hr⟩:=k5 _ _ _ _ r1 r2;refine⟨u,hu,hr.1,t2,r3,r4,by rw[hq];exact r5,u3,by rw[hq];exact amn⟩
        ·rw[bL hqq]at g2;obtain⟨u,hu,hr⟩:=k5 _ _ _ _ r1 g2;refine⟨u,hu,hr.frame (λhl hn=>qT _ (jD _ (.inr ⟨rfl,_,_,⟨yy,x1,r1,g2,hl⟩,hn,rfl⟩)) (λe=> ?_))⟩
         have:=((gO rfl).one _ _ _ _ ⟨yy,x1,r1,g2,hl⟩ CB hn (by rw[hq];exact e.1) (by rw[hq];exact e.2)).2;simp at hqq;omega
       ·rw[bL Hf]at g1;obtain⟨u,hu,hr⟩:=k5 _ _ _ _ g1 g2;exact⟨u,hu,hr.frame (λhl hn=>qT _ (jD _ (.inr ⟨rfl,_,_,⟨y1,x1,g1,g2,hl⟩,hn,rfl⟩)) (λe=>Hf ((gO rfl).one _ _ _ _ ⟨y1,x1,g1,g2,hl⟩ CB hn (by rw[hq];exact e.1) (by rw[hq];exact e.2)).1))⟩
      obtain⟨z1,z2,z3⟩:=Ft b8 dA hd hg (ob':= .row el ak (eh xs i j [CV.l e2 Cb])) (w':=w') (s:= .v aq [.i k2 m2]) (v:=v)
       ⟨⟨te,q1,fT,rQ⟩,n9,λhx=>⟨λi1 j1 hh=>(gO hx).out i1 j1 (same i1 j1 hh),λi1 j1 i2 j2 h1 h2=>(gO hx).one i1 j1 i2 j2 (same i1 j1 h1) (same i2 j2 h2)⟩⟩
       (by
        rintro b (hb|⟨hx,i1,j1,hh,hn⟩)
        ·exact .inl hb
        ·exact .inr ⟨hx,i1,j1,same i1 j1 hh,hn⟩)
       (λzs hz=>by cases hz) hv (λn hn=>by simp[cD,bI]at hn)
       (λb hb Oc=>qT b hb (λe=>Oc (by rw[e.2];exact hpf e.1))) wJ.size wJ.os wJ.tape wJ.output
      exact hK v w' c z1 z2 z3 (jh.refl _ _).w
    ·simp at h
   ·simp at h
  ·simp at h
 ·simp at h
theorem FQ{α:Type}{x y:Rd α}{σ:St}{e:α}(h:(x.or y).val σ=aj e):x.val σ=aj e\/y.val σ=aj e:=by
 induction x with
 |ret a=>exact .inl h
 |fail=>exact .inr h
 |get k f ih=>
  have h':((f (σ k)).or y).val σ=aj e:=by rw[<-h];unfold Rd.val;simp only[Rd.or,Rd.run];rw[kO,kO]
  rcases ih (σ k) h' with h|h
  ·refine .inl ?_;rw[<-h];unfold Rd.val;simp only[Rd.run];rw[kO,kO]
  ·exact .inr h
theorem Bo(hE:dZ P E)(hF:∀g,la P E g (E.call g))(b8:Ok E σ w c)(dA:eZ E σ a w c)(hd:∀d,o.dst=aj d->d<a.tmps.size){cl:Call}{fx:dn}(ho:o.op= .call cl)(hb:cl.callee= .value fx){f:aG}{iA:az (az CV)}(ef:ea E w c (.fn f iA) (a.eval fx)){Oi:az aG}(h:(K7 E nm o f cl.args.toList Oi iA).val σ=aj e)(hc:e.cond=ak):gA P E σ a w c o e.ws:=by
 rcases FQ h with h|h
 ·exact HI hE hF b8 dA hd ho hb ef h hc
 ·exact HI hE hF b8 dA hd ho hb ef h hc
theorem Ww(hE:dZ P E)(hF:∀g,la P E g (E.call g))(b8:Ok E σ w c)(dA:eZ E σ a w c)(hd:∀d,o.dst=aj d->d<a.tmps.size){cl:Call}{fx:dn}(ho:o.op= .call cl)(hb:cl.callee= .value fx)(h:(lG E nm o).val σ=aj e)(hc:e.cond=ak):gA P E σ a w c o e.ws:=by
 simp only[lG,ho,hb]at h;obtain⟨fv,h1,h⟩:=Rd.bind_some h;have ef:=(iI dA h1).1;cases fv with
 |fn f iA=>
  simp only at h;split at h
  ·rename_i x y rB;obtain⟨sx,h2,h⟩:=Rd.bind_some h;split at h
   ·rename_i n i j;cases hm:E.mode f 0 with
    |true=>rw[hm,ay]at h;exact JQ hE hF b8 dA hd ho hb rB ef (lN dA h2).1 h hc
    |false=>rw[hm,aC]at h;exact Bo hE hF b8 dA hd ho hb ef h hc
   ·exact Bo hE hF b8 dA hd ho hb ef h hc
  ·exact Bo hE hF b8 dA hd ho hb ef h hc
 |_=>simp at h
end
end Go.FG

namespace Go.FG
section
variable {P:cQ} {E:fB} {σ:St} {a:Act} {w:bF} {c:eK} {o:eV} {nm:aG} {e:rX}
theorem ag6(hE:dZ P E)(hF:∀g,la P E g (E.call g))(b8:Ok E σ w c)(dA:eZ E σ a w c)(hd:∀d,o.dst=aj d->d<a.tmps.size)(h:(lG E nm o).val σ=aj e)(hc:e.cond=ak):gA P E σ a w c o e.ws:=by
 cases ho:o.op with
 |move x=>exact LV b8 dA hd (.inl ho) h
 |assign x=>exact LV b8 dA hd (.inr ho) h
 |nilCheck x=>exact HK b8 dA hd ho h
 |pick x y z=>exact Wy b8 dA hd ho h hc
 |alloc t=>exact RE hE b8 dA hd ho h
 |box t x=>exact acs b8 dA hd ho h
 |build t ps=>exact RG hE b8 dA hd ho h
 |buildSlice t n ps=>exact CI hE b8 dA hd ho h hc
 |load t p=>exact Wx hE b8 dA hd ho h
 |store t p x=>exact RM hE b8 dA hd ho h
 |fieldAddr t p f=>exact Fl hE b8 dA hd ho h
 |field t x f=>exact RI hE b8 dA hd ho h
 |indexAddr t x i=>exact Fm hE b8 dA hd ho h hc
 |index t x i=>exact RJ hE b8 dA hd ho h hc
 |binOp op t x y ty=>exact RF hE b8 dA hd ho h hc
 |unOp op t x=>exact Wz b8 dA hd ho h
 |convert s d x=>exact JR hE b8 dA hd ho h hc
 |makeSlice t l m=>exact Fo hE b8 dA hd ho h hc
 |slice t x lo hi mx=>exact RK hE b8 dA hd ho h hc
 |extract x i=>exact JS b8 dA hd ho h
 |makeFunc f first iA=>exact HJ b8 dA hd ho h
 |call cl=>
  cases hb:cl.callee with
  |value f=>exact Ww hE hF b8 dA hd ho hb h hc
  |builtin b=>
   cases b with
   |len=>exact acv hE b8 dA hd ho hb h
   |cap=>exact acu hE b8 dA hd ho hb h
   |min=>exact DE aq b8 dA hd ho hb h
   |max=>exact DE ak b8 dA hd ho hb h
   |clear=>exact RH hE b8 dA hd ho hb h
   |append=>exact Nu hE b8 dA hd ho hb h hc
   |_=>simp[lG,ho,hb]at h
  |_=>simp[lG,ho,hb]at h
 |_=>simp[lG,ho]at h
end
end Go.FG

namespace Go.FG
theorem BS{σ:St}{k:aG}{c:eu}(h:σ k=c):pf σ k c=σ:=by
 funext n;by_cases hn:n=k
 ·subst hn;rw[sR,h]
 ·rw[yB σ c hn]
def Tz(c c':eK):Prop:=∀m,900000000<=m->c'.P m=c.P m/\c'.G m=c.G m
theorem Tz.refl(c:eK):Tz c c:=λ_ _=>⟨rfl,rfl⟩
theorem Tz.trans{c c1 c2:eK}(h:Tz c c1)(k:Tz c1 c2):Tz c c2:=λm hm=>⟨(k m hm).1.trans (h m hm).1,(k m hm).2.trans (h m hm).2⟩
theorem Vg{m:aG}(h:900000000<=m):xX m=false:=by
 unfold xX;cases hb:pZ m 900000000 with
 |true=>have:m<900000000:=by simpa [zh]using hb
        omega
 |false=>simp
theorem qA.aga{σ:St}{c c':eK}(h:qA σ c c'):Tz c c':=λm hm=>⟨(h m (.inr hm)).1,(h m (.inr hm)).2 (Vg hm)⟩
def lO(all:de eV)(o:eV)(σ:St):aD aY:=
 match o.guard with
 |none=>aj ak
 |some (g,want)=>match (all.getD g default).dst with
  |none=>ao
  |some d=>match σ (pU d)with| .v (.v aq [.b x])=>aj (x==want)| .v (.jc [])=>aj aq|_=>ao
def pw(all:de eV)(o:eV):az aG:=
 match o.guard with
 |none=>[]
 |some (g,_)=>match (all.getD g default).dst with|none=>[]|some d=>[pU d]
def uc(E:fB)(all:de eV)(nm:aG)(o:eV)(σ:St)(ws:az (aG×eu))(lg:Lg):Prop:=
 (lO all o σ=aj ak/\∃e l,(lG E nm o).run σ []=aj (e,l)/\e.cond=ak/\ws=e.ws/\lg=⟨pw all o++l,e.ws.map (·.1)⟩)\/
 (lO all o σ=aj aq/\ws=dw o (.jc [])/\lg=⟨pw all o,(dw o (.jc [])).map (·.1)⟩)
def JN(nG i:aG):aG:=(nG+1)*1000000+i*1000
abbrev Tr:=az (az (aG×eu)×Lg)
def vi(E:fB)(all:de eV)(nG:aG):aG->az eV->St->Tr->St->Prop
 |_,[],σ,tr,σ'=>tr=[]/\σ'=σ
 |i,o::os,σ,tr,σ'=>∃ws lg tr',tr=(ws,lg)::tr'/\uc E all (JN nG i) o σ ws lg/\vi E all nG (i+1) os (wr σ ws) tr' σ'
theorem Nv{R:Type}(E:fB)(all:de eV)(nG:aG):∀(os:az eV) (i:aG) (σ:St) (lg:az Lg) (K:St->az Lg->aD R) (r:R),ops E all nG i os σ lg K=aj r->
  ∃tr σ',vi E all nG i os σ tr σ'/\K σ' ((tr.map (·.2)).reverse++lg)=aj r:=by
 intro os;induction os with
 |nil=>intro i σ lg K r h;exact⟨[],σ,⟨rfl,rfl⟩,by simpa [ops]using h⟩
 |cons o os ih=>
  intro i σ lg K r h;have next:∀ws l,uc E all (JN nG i) o σ ws l->ops E all nG (i+1) os (wr σ ws) (l::lg) K=aj r->∃tr σ',vi E all nG i (o::os) σ tr σ'/\K σ' ((tr.map (·.2)).reverse++lg)=aj r:=by intro ws l hs h;obtain⟨tr,σ',h1,h2⟩:=ih _ _ _ _ _ h;exact⟨(ws,l)::tr,σ',⟨ws,l,tr,rfl,hs,h1⟩,by simpa using h2⟩
  have ag8:∀rs,rs=pw all o->lO all o σ=aj ak->(match (lG E (JN nG i) o).run σ []with
    |some (e,l)=>bif e.cond then ops E all nG (i+1) os (wr σ e.ws) (⟨rs++l,e.ws.map (·.1)⟩::lg) K else ao
    |none=>ao)=aj r->∃tr σ',vi E all nG i (o::os) σ tr σ'/\K σ' ((tr.map (·.2)).reverse++lg)=aj r:=by
   intro rs hrs hw h
   cases hr:(lG E (JN nG i) o).run σ []with
   |none=>rw[hr]at h;cases h
   |some el=>
    obtain⟨e,l⟩:=el;rw[hr]at h;cases hc:e.cond with
    |false=>simp[hc]at h
    |true=>simp only[hc,ay]at h;exact next e.ws _ (.inl ⟨hw,e,l,hr,hc,rfl,by rw[hrs]⟩) h
  unfold ops at h;simp(config:={zeta:=false}) only[Dq]at h;cases hg:o.guard with
  |none=>rw[hg]at h;exact ag8 [] (by simp[pw,hg]) (by simp[lO,hg]) h
  |some gw=>
   obtain⟨g,want⟩:=gw;rw[hg]at h;dsimp only at h;cases hd:(all.getD g default).dst with
   |none=>rw[hd]at h;cases h
   |some d=>
    rw[hd]at h;dsimp only at h;have wJ:pw all o=[pU d]:=by unfold pw;rw[hg];dsimp only;rw[hd]
    cases hs:σ (pU d)with
    |v sv=>
     rw[hs]at h;cases sv with
     |v agg xs=>
      cases agg with
      |true=>cases h
      |false=>
       match xs with
       |[]=>cases h
       |_::_::_=>simp at h
       |[av]=>
        cases av with
        |b x=>
         have hwa:lO all o σ=aj (x==want):=by unfold lO;rw[hg];dsimp only;rw[hd];dsimp only;rw[hs]
         have hup:pf σ (pU d) (.v (.v aq [.b x]))=σ:=BS hs;have skip:lO all o σ=aj aq->ops E all nG (i+1) os (wr (pf σ (pU d) (.v (.v aq [.b x]))) (dw o (.jc []))) (⟨[pU d],(dw o (.jc [])).map (·.1)⟩::lg) K=aj r->∃tr σ',vi E all nG i (o::os) σ tr σ'/\K σ' ((tr.map (·.2)).reverse++lg)=aj r:=by intro hw h;rw[hup]at h;exact next (dw o (.jc [])) _ (.inr ⟨hw,rfl,by rw[wJ]⟩) h
         have Zk:lO all o σ=aj ak->(match (lG E (JN nG i) o).run (pf σ (pU d) (.v (.v aq [.b x]))) []with
           |some (e,l)=>bif e.cond then ops E all nG (i+1) os (wr (pf σ (pU d) (.v (.v aq [.b x]))) e.ws) (⟨pU d::l,e.ws.map (·.1)⟩::lg) K else ao
           |none=>ao)=aj r->∃tr σ',vi E all nG i (o::os) σ tr σ'/\K σ' ((tr.map (·.2)).reverse++lg)=aj r:=by
          intro hw h
          rw[hup]at h
          exact ag8 [pU d] wJ.symm hw h
         cases x with
         |true=>
          cases want with
          |true=>exact Zk (by rw[hwa];rfl) h
          |false=>exact skip (by rw[hwa];rfl) h
         |false=>
          cases want with
          |true=>exact skip (by rw[hwa];rfl) h
          |false=>exact Zk (by rw[hwa];rfl) h
        |_=>simp at h
     |jc l=>cases l with
      |nil=>
       have hwa:lO all o σ=aj false:=by unfold lO;rw[hg];dsimp only;rw[hd];dsimp only;rw[hs]
       exact next (dw o (.jc [])) _ (.inr ⟨hwa,rfl,by rw[wJ]⟩) h
      |cons=>simp at h
     |un=>simp at h
    |o x=>rw[hs]at h;cases h
    |jE=>rw[hs]at h;cases h
section
variable {P:cQ} {E:fB} {σ:St} {a:Act} {w:bF} {c:eK} {o:eV} {nm:aG} {e:rX}
theorem DP(dA:eZ E σ a w c){all:de eV}{x:aY}(h:lO all o σ=aj x):ua o (yielded all a.tmps)=x:=by
 unfold lO at h;unfold ua;cases hg:o.guard with
 |none=>rw[hg]at h;simp at h;simp[<-h]
 |some gw=>
  obtain⟨g,want⟩:=gw;rw[hg]at h;simp only at h⊢;cases hd:(all.getD g default).dst with
  |none=>rw[hd]at h;cases h
  |some d=>
   rw[hd]at h;have hgo:(all[g]?).bind (·.dst)=aj d:=by
    rw[ed]at hd;cases hq:all[g]? with
    |none=>rw[hq]at hd;cases hd
    |some og=>rw[hq]at hd;exact hd
   simp only at h;split at h
   ·rename_i y hy;have h1:=dA.ok d;have:slot σ d= .v aq [.b y]:=by unfold slot;rw[hy]
    rw[this]at h1;have h1:a.eval (.tmp d)= .bool y:=h1;have ht:a.tmps[d]? =aj (.bool y):=by
     have h2:a.tmps.getD d undef= .bool y:=h1;rw[ed]at h2;cases hq:a.tmps[d]? with
     |none=>rw[hq]at h2;cases h2
     |some v=>rw[hq]at h2;rw[show v=_ from h2]
    have Hq:yielded all a.tmps g=aj y:=by unfold yielded;rw[hgo];simp[ht]
    rw[Hq];simp at h;rw[<-h];cases y<;>cases want<;>rfl
   ·rename_i hy;have h1:=dA.ok d;have:slot σ d= .jc []:=by unfold slot;rw[hy]
    rw[this]at h1;obtain⟨vs,h1,h3,_⟩:=h1;have h4:vs= #[]:=by simpa using h3
    subst h4;have ht:a.tmps.getD d undef= .tuple #[]:=h1;have Hq:yielded all a.tmps g=none:=by
     unfold yielded;rw[hgo];rw[ed]at ht;cases hq:a.tmps[d]? with
     |none=>simp[hq]
     |some v=>rw[hq]at ht;simp at ht;simp[hq,ht]
    rw[Hq];have h5:aq=x:=by simpa using h
    rw[<-h5];cases want<;>rfl
   ·cases h
theorem Act.Sn(a:Act)(d:aD Tmp)(v:bg):(a.put d v).tmps.size=a.tmps.size:=by cases d<;>simp[TA]
theorem z_(hE:dZ P E)(hF:∀g,la P E g (E.call g))(b8:Ok E σ w c)(dA:eZ E σ a w c)(hd:∀d,o.dst=aj d->d<a.tmps.size){all:de eV}{i:aG}(hi:all[i]? =aj o){ws:az (aG×eu)}{lg:Lg}(h:uc E all nm o σ ws lg)
  {K:Act->bF->Prop} {Q:Exit->Act->bF->Prop} (hK:∀v w' c',Ok E (wr σ ws) w' c'->eZ E (wr σ ws) (a.put o.dst v) w' c'->nR σ c w (wr σ ws) c' w'->qA σ c c'->K (a.put o.dst v) w'):wpOp P all Q i K a w:=by
 unfold wpOp;rw[hi];simp only;rcases h with ⟨hw,e,l,hr,hc,rfl,_⟩|⟨hw,rfl,_⟩
 ·rw[bC (DP dA hw)];exact .inl (ag6 hE hF b8 dA hd (Rd.Kl hr) hc K Q hK)
 ·rw[bL (by rw[DP dA hw];simp)];obtain⟨s1,s2,s3⟩:=rk σ o (.jc []);obtain⟨h1,h2⟩:=b8.slot s3;refine hK undef w c h1 ?_ h2 (jh.refl _ _).w;refine dA.change b8 h2 (jh.refl _ _) (λnm hn=>by rw[s3];exact hn) o undef s1 (λd ho=>⟨hd d ho, ?_, ?_⟩)
  ·rw[s2 d ho];exact⟨#[],rfl,rfl,λj agg xs hj=>by simp at hj⟩
  ·rw[s2 d ho];intro n hn;simp[cD]at hn
structure At (P:cQ) (E:fB) (N:aG) (σ0:St) (c0:eK) (w0:bF) (σ:St) (a:Act) (w:bF) (c:eK):Prop where
 ok:Ok E σ w c
 sl:eZ E σ a w c
 sz:a.tmps.size=N
 gr:nR σ0 c0 w0 σ c w
 ag:Tz c0 c
theorem At.step{N:aG}{σ0:St}{c0:eK}{w0:bF}(h:At P E N σ0 c0 w0 σ a w c){d:aD Tmp}{v:bg}{w':bF}{c':eK}{σ':St}(h1:Ok E σ' w' c')(h2:eZ E σ' (a.put d v) w' c')(h3:nR σ c w σ' c' w')(h4:qA σ c c'):At P E N σ0 c0 w0 σ' (a.put d v) w' c':=
 ⟨h1,h2,by rw[Act.Sn];exact h.sz,h.gr.trans h3,h.ag.trans h4.aga⟩
theorem I9(hE:dZ P E)(hF:∀g,la P E g (E.call g)){N:aG}{σ0:St}{c0:eK}{w0:bF}{all:de eV}{nG:aG}{Q:Exit->Act->bF->Prop}:∀(os:az eV) (i:aG) (σ:St) (tr:Tr) (σ':St),vi E all nG i os σ tr σ'->(∀j o,os[j]? =aj o->all[i+j]? =aj o)->(∀o∈os,∀d,o.dst=aj d->d<N)->
  (∀a w c,At P E N σ0 c0 w0 σ' a w c->Q .normal a w)->∀a w c,At P E N σ0 c0 w0 σ a w c->wpOps P all Q (lJ i os.length) a w:=by
 intro os;induction os with
 |nil=>intro i σ tr σ' h _ _ hQ a w c fS;obtain⟨_,rfl⟩:=h;exact hQ a w c fS
 |cons o os ih=>intro i σ tr σ' h n8 A7 hQ a w c fS;obtain⟨ws,lg,tr',rfl,hs,TR⟩:=h;have hi:all[i]? =aj o:=n8 0 o rfl;rw[c5,List.range'_succ,wpOps_cons];refine z_ hE hF fS.ok fS.sl (λd hd=>by rw[fS.sz];exact A7 o (du ..) d hd) hi hs (λv w' c' h1 h2 h3 h4=> ?_);exact ih (i+1) _ _ _ TR (λj o' hj=>by have:=n8 (j+1) o' hj;rwa[show i+(j+1)=i+1+j by omega]at this) (λo' ug=>A7 o' (cU _ ug)) hQ _ _ _ (fS.step h1 h2 h3 h4)
end
end Go.FG

namespace Go.FG
theorem Rd.WO{α:Type}(m:Rd α):∀{σ:St} {l l':az aG} {a:α},m.run σ l=aj (a,l')->∀k∈l,k∈l':=by
 induction m with
 |ret a=>intro σ l l' b h k hk;cases h;exact hk
 |fail=>intro σ l l' b h;cases h
 |get k f ih=>intro σ l l' b h k' uf;exact ih _ h k' (cU _ uf)
theorem Rd.NP{α:Type}(m:Rd α):∀{σ σ':St} {l l':az aG} {a:α},m.run σ l=aj (a,l')->(∀k∈l',σ' k=σ k)->m.run σ' l=aj (a,l'):=by
 induction m with
 |ret a=>intro σ σ' l l' b h _;exact h
 |fail=>intro σ σ' l l' b h;cases h
 |get k f ih=>intro σ σ' l l' b h hk;have h:(f (σ k)).run σ (k::l)=aj (b,l'):=h;have uf:σ' k=σ k:=hk k (Rd.WO _ h k (du ..));show(f (σ' k)).run σ' (k::l)=aj (b,l');rw[uf];exact ih _ h hk
theorem wA{all:de eV}{o:eV}{σ σ':St}(h:∀k∈pw all o,σ' k=σ k):lO all o σ'=lO all o σ:=by
 unfold lO pw at*
 cases hg:o.guard with
 |none=>rfl
 |some gw=>
  obtain⟨g,want⟩:=gw;rw[hg]at h;dsimp only at h⊢;cases hd:(all.getD g default).dst with
  |none=>rfl
  |some d=>rw[hd]at h;dsimp only at h⊢;rw[h (pU d) (aZ.2 rfl)]
theorem uc.congr{E:fB}{all:de eV}{nm:aG}{o:eV}{σ σ':St}{ws:az (aG×eu)}{lg:Lg}(h:uc E all nm o σ ws lg)(hk:∀k∈lg.rs,σ' k=σ k):uc E all nm o σ' ws lg:=by
 rcases h with ⟨h1,e,l,h2,h3,rfl,rfl⟩|⟨h1,rfl,rfl⟩
 ·refine .inl ⟨by rw[wA (λk uf=>hk k (bN _ uf))];exact h1,e,l,Rd.NP _ h2 (λk uf=>hk k (bH _ uf)),h3,rfl,rfl⟩
 ·exact .inr ⟨by rw[wA (λk uf=>hk k uf)];exact h1,rfl,rfl⟩
theorem uc.keys{E:fB}{all:de eV}{nm:aG}{o:eV}{σ:St}{ws:az (aG×eu)}{lg:Lg}(h:uc E all nm o σ ws lg):lg.ws=ws.map (·.1):=by rcases h with ⟨h1,e,l,h2,h3,rfl,rfl⟩|⟨h1,rfl,rfl⟩<;>rfl
theorem oW:∀{ws:az (aG×eu)} {σ:St} {k:aG},k∉ws.map (·.1)->wr σ ws k=σ k:=by
 intro ws;induction ws with
 |nil=>intro σ k _;rfl
 |cons d ws ih=>obtain⟨k',c⟩:=d;intro σ k h;rw[eW,cz,not_or]at h;show wr (pf σ k' c) ws k=σ k;rw[ih h.2,yB σ c h.1]
theorem To:∀{ws:az (aG×eu)} {σ σ':St} {k:aG},k∈ws.map (·.1)->wr σ ws k=wr σ' ws k:=by
 intro ws;induction ws with
 |nil=>intro σ σ' k h;cases h
 |cons d ws ih=>
  obtain⟨k',c⟩:=d;intro σ σ' k h;show wr (pf σ k' c) ws k=wr (pf σ' k' c) ws k;by_cases hk:k∈ws.map (·.1)
  ·exact ih hk
  ·have:k=k':=by
    rcases cz.1 h with h|h
    ·exact h
    ·exact cq h hk
   subst this;rw[oW hk,oW hk,sR,sR]
theorem Tn{ws:az (aG×eu)}{σ σ':St}{k:aG}(h:σ k=σ' k):wr σ ws k=wr σ' ws k:=by
 by_cases hk:k∈ws.map (·.1)
 ·exact To hk
 ·rw[oW hk,oW hk];exact h
def B_:Tr->aG->(aG->aY)->St->St
 |[],_,_,σ=>σ
 |(ws,_)::tr,i,S,σ=>B_ tr (i+1) S (bif S i then wr σ ws else σ)
theorem tB:∀{tr:Tr} {i:aG} {S S':aG->aY} {σ σ':St} {k:aG},σ k=σ' k->(∀j ws lg,tr[j]? =aj (ws,lg)->S (i+j)≠S' (i+j)->k∉ws.map (·.1))->B_ tr i S σ k=B_ tr i S' σ' k:=by
 intro tr;induction tr with
 |nil=>intro i S S' σ σ' k h _;exact h
 |cons d tr ih=>
  obtain⟨ws,lg⟩:=d;intro i S S' σ σ' k h hd;refine ih ?_ (λj CP B9 hj h_=>hd (j+1) CP B9 hj (by rwa[show i+(j+1)=i+1+j by omega]));by_cases hS:S i=S' i
  ·rw[hS];cases S' i
   ·exact h
   ·exact Tn h
  ·have hk:=hd 0 ws lg rfl hS;cases hs:S i<;>cases hs':S' i
   ·exact cq (hs.trans hs'.symm) hS
   ·show σ k=wr σ' ws k;rw[oW hk];exact h
   ·show wr σ ws k=σ' k;rw[oW hk];exact h
   ·exact cq (hs.trans hs'.symm) hS
theorem BO:∀{tr:Tr} {i:aG} {S:aG->aY} {σ:St},(∀j,i<=j->S j=aq)->B_ tr i S σ=σ:=by
 intro tr;induction tr with
 |nil=>intro i S σ _;rfl
 |cons d tr ih=>obtain⟨ws,lg⟩:=d;intro i S σ h;show B_ tr (i+1) S (bif S i then wr σ ws else σ)=σ;rw[h i (cu _)];exact ih (λj hj=>h j (by omega))
theorem S8:∀{tr:Tr} {i j:aG} {S:aG->aY} {σ:St} {ws:az (aG×eu)} {lg:Lg},tr[j]? =aj (ws,lg)->S (i+j)=ak->(∀q,i+j<q->S q=aq)->∃τ,B_ tr i S σ=wr τ ws:=by
 intro tr;induction tr with
 |nil=>intro i j S σ ws lg h;simp at h
 |cons d tr ih=>
  obtain⟨CP,B9⟩:=d;intro i j S σ ws lg h hS hn;cases j with
  |zero=>
   cases h;refine⟨σ, ?_⟩
   show B_ tr (i+1) S (bif S i then wr σ CP else σ)=wr σ CP;rw[show S i=ak from hS];exact BO (λq hq=>hn q (by omega))
  |succ j=>exact ih (i:=i+1) h (by rwa[show i+1+j=i+(j+1)by omega]) (λq hq=>hn q (by omega))
theorem Qb{E:fB}{all:de eV}{nG:aG}:∀{os:az eV} {i:aG} {σ σ':St} {tr:Tr},vi E all nG i os σ tr σ'->tr.length=os.length/\B_ tr i (λ_=>ak) σ=σ'/\
  ∀(j:aG) (o:eV),os[j]? =aj o->∃ws lg,tr[j]? =aj (ws,lg)/\uc E all (JN nG (i+j)) o (B_ tr i (λq=>decide (q<i+j)) σ) ws lg:=by
 intro os;induction os with
 |nil=>intro i σ σ' tr h;obtain⟨rfl,rfl⟩:=h;exact⟨rfl,rfl,λj o h=>by simp at h⟩
 |cons o os ih=>
  intro i σ σ' tr h;obtain⟨ws,lg,tr',rfl,hs,TR⟩:=h;obtain⟨h1,h2,h3⟩:=ih TR;refine⟨by simp[h1],h2,λj o' hj=> ?_⟩
  cases j with
  |zero=>
   cases hj;refine⟨ws,lg,rfl, ?_⟩
   rw[show B_ ((ws,lg)::tr') i (λq=>decide (q<i+0)) σ=σ from BO (λq hq=>by simp;omega)];exact hs
  |succ j=>
   obtain⟨CP,B9,q1,q2⟩:=h3 j o' hj;refine⟨CP,B9,q1, ?_⟩
   have e1:B_ ((ws,lg)::tr') i (λq=>decide (q<i+(j+1))) σ=B_ tr' (i+1) (λq=>decide (q<i+1+j)) (wr σ ws):=by show B_ tr' (i+1) (λq=>decide (q<i+(j+1))) (bif decide (i<i+(j+1))then wr σ ws else σ)=_;rw[aJ (by omega:i<i+(j+1))];rw[show i+(j+1)=i+1+j by omega];rfl
   rw[e1,show i+(j+1)=i+1+j by omega];exact q2
theorem si{a b:Lg}(h:AQ a b=aq):(∀k∈a.ws,k∉b.ws)/\(∀k∈a.ws,k∉b.rs)/\∀k∈b.ws,k∉a.rs:=by simp only[AQ,me,aK]at h;exact⟨oi h.1.1,oi h.1.2,oi h.2⟩
theorem x_{l:az aG}{n:aG}(h:l_ n l=ak):n∈l:=by
 induction l with
 |nil=>cases h
 |cons m r ih=>
  simp only[l_,dE]at h;rcases h with h|h
  ·rw[aW h];exact du ..
  ·exact cU _ (ih h)
theorem I5{an:az aG}{j:aG}{a:Lg}:∀{l:az Lg} {i:aG},zL an j a i l=ak->∀(q:aG) (b:Lg),l[q]? =aj b->i+q∈an\/AQ a b=false:=by
 intro l;induction l with
 |nil=>intro i _ q b h;simp at h
 |cons d l ih=>
  intro i h q b hq;simp only[zL,aK,dE,dD]at h;cases q with
  |zero=>cases hq;exact h.1.imp x_ id
  |succ q=>have:=ih h.2 q b hq;rwa[show i+1+q=i+(q+1)by omega]at this
theorem K9{an:az (az aG)}:∀{rest:az Lg} {j:aG} {done:az Lg},done.length=j->calm j an done rest=ak->∀(i J:aG) (a b:Lg),i<J->j<=J->(done++rest)[i]? =aj b->(done++rest)[J]? =aj a->i∈an.getD J []\/AQ a b=false:=by
 intro rest;induction rest with
 |nil=>intro j done hd _ i J a b _ hJ _ hb;rw[di,kB (by omega)]at hb;cases hb
 |cons d rest ih=>
  intro j done hd h i J a b M8 hJ hi hb;simp only[calm,aK]at h;by_cases hJj:J=j
  ·subst hJj;rw[cZ (by omega),hd,wU]at hb;cases hb;rw[dg (by omega)]at hi;have:=I5 h.1 i b hi;rwa[bT]at this
  ·refine ih (done:=done++[d]) (by simp[hd]) h.2 i J a b M8 (by omega) ?_ ?_
   ·rw[cj];exact hi
   ·rw[cj];exact hb
theorem Up:∀{os:az eV} {acc:az (az aG)},∃rest,EH acc os=acc++rest/\rest.length=os.length/\
  ∀(t:aG) (o:eV),os[t]? =aj o->rest[t]? =aj (ddA [] (o.after.toList.flatMap λe=>bif mg .any e then e.on::((acc++rest).take (acc.length+t)).getD e.on []else [])):=by
 intro os;induction os with
 |nil=>intro acc;exact⟨[],by simp[EH],rfl,λt o h=>by simp at h⟩
 |cons o os ih=>
  intro acc;let x:=ddA [] (o.after.toList.flatMap λe=>bif mg .any e then e.on::acc.getD e.on []else []);obtain⟨rest,h1,h2,h3⟩:=ih (acc:=acc++[x]);refine⟨x::rest, ?_,by simp[h2],λt o' ht=> ?_⟩
  ·show mo x (λx=>EH (acc++[x]) os)=_;rw[oq,h1,cj];rfl
  ·cases t with
   |zero=>cases ht;rw[rJ,wT,nT (cu _),fD]
   |succ t=>rw[dF,h3 t o' ht];simp only[bO,bw,cj,tK,show acc.length+1+t=acc.length+(t+1)by omega]
theorem LW:∀{os:az eV} {i:aG},HL i os=ak->∀(t:aG) (o:eV),os[t]? =aj o->∀e∈o.after,mg .any e=ak->e.on<i+t:=by
 intro os;induction os with
 |nil=>intro i _ t o h;simp at h
 |cons o os ih=>
  intro i h t o' ht e he hb;simp only[HL,aK]at h;cases t with
  |zero=>
   cases ht;have:=bn.1 h.1 e (by simpa using he);rw[hb]at this;have:pZ e.on i=true:=by simpa using this
   simpa [zh]using this
  |succ t=>have:=ih h.2 t o' ht e he hb;omega
theorem AE{os:az eV}{S:aG->aY}(hS:∀(j:aG) (o:eV),S j=ak->os[j]? =aj o->∀e∈o.after,mg .any e=ak->S e.on=ak)(QI:HL 0 os=ak):
  ∀j,S j=ak->∀i∈(EH [] os).getD j [],S i=true:=by
 obtain⟨rest,h1,h2,h3⟩:=Up (os:=os) (acc:=[]);rw[gg]at h1;intro j;induction j using Nat.strongRecOn with
 |_ j ih=>
  intro hj i hi;rw[h1,cK]at hi;cases ho:os[j]? with
  |none=>rw[kB (by rw[h2];exact List.getElem?_eq_none_iff.1 ho)]at hi;cases hi
  |some o=>
   rw[h3 j o ho]at hi;simp only[wV,jr,bT,gg]at hi;have hi:=(EO _ _ _ hi).elim (λh=>by cases h) id;obtain⟨e,he,hi⟩:=bG.1 hi;have he:e∈o.after:=by simpa using he
   cases hb:mg .any e with
   |false=>rw[hb]at hi;cases hi
   |true=>
    rw[hb]at hi;have jD:=LW QI j o ho e he hb;rw[bT]at jD;have hSe:=hS j o hj ho e he hb;rcases cz.1 hi with rfl|hi
    ·exact hSe
    ·refine ih e.on jD hSe i ?_;rw[h1,cK];rw[cK,dR,bC jD]at hi;exact hi
end Go.FG

namespace Go.FG
theorem GV{p p':aG->aY}{i:aG}(hp:p i=ak)(mD:p' i=aq)(h_:∀j,j≠i->p' j=p j):∀{l:az aG},l.Nodup->i∈l->l.countP p'+1=l.countP p:=by
 have same:∀{l:az aG},i∉l->l.countP p'=l.countP p:=by
  intro l;induction l with
  |nil=>intro _;rfl
  |cons m l ih=>intro h;rw[cz,not_or]at h;rw[kW,kW,ih h.2,h_ m (λe=>h.1 e.symm)]
 intro l;induction l with
 |nil=>intro _ h;cases h
 |cons m l ih=>
  intro hn h;rw[j5]at hn;rcases cz.1 h with rfl|h
  ·rw[kW,kW,same hn.1,hp,mD];simp
  ·have hm:m≠i:=λe=>hn.1 (e▸h);rw[kW,kW,h_ m hm,<-ih hn.2 h];omega
theorem pS{dH:de aY}{i:aG}(h:i<dH.size)(d:aY):(dH.setIfInBounds i ak).getD i d=true:=by simp[h]
section
variable {P:cQ} {E:fB}
theorem MP(hE:dZ P E)(hF:∀g,la P E g (E.call g)){N:aG}{σ0:St}{c0:eK}{w0:bF}{all:de eV}{nG:aG}{Q:Exit->Act->bF->Prop}{σ σ':St}{tr:Tr}(TR:vi E all nG 0 all.toList σ tr σ')(X0:calm 0 (EH [] all.toList) [] (tr.map (·.2))=ak)(QI:HL 0 all.toList=ak)
  (A7:∀o∈all.toList,∀d,o.dst=aj d->d<N) (hQ:∀a w c,At P E N σ0 c0 w0 σ' a w c->Q .normal a w):
  ∀(fuel:aG) (dH:de aY) (a:Act) (w:bF) (c:eK),dH.size=all.size->(∀(j:aG) (o:eV),dH.getD j aq=ak->all.toList[j]? =aj o->∀e∈o.after,mg .any e=ak->dH.getD e.on aq=ak)->
   (cM all.size).countP (λj=> !dH.getD j aq)<=fuel->At P E N σ0 c0 w0 (B_ tr 0 (λj=>dH.getD j aq) σ) a w c->wpAny P .any all Q fuel dH a w:=by
 obtain⟨t1,t2,t3⟩:=Qb TR;have hlen:all.toList.length=all.size:=dK;have done:∀(dH:de aY) (a:Act) (w:bF) (c:eK),(∀j,j<all.size->dH.getD j aq=ak)->At P E N σ0 c0 w0 (B_ tr 0 (λj=>dH.getD j aq) σ) a w c->Q .normal a w:=by
  intro dH a w c n8 fS;refine hQ a w c ?_;have:B_ tr 0 (λj=>dH.getD j aq) σ=σ':=by
   rw[<-t2];funext k;refine tB rfl (λj ws lg hj h_=> ?_);have jC:j<all.size:=by rw[<-hlen,<-t1];exact(aU.1 hj).1
   rw[bT]at h_;exact cq (n8 j jC) h_
  rw[<-this];exact fS
 have aa5:∀(dH:de aY) (j:aG),dH.size=all.size->j<all.size->dH.getD j ak=dH.getD j false:=by
  intro dH j hs hj;rw[ed,ed];have:j<dH.size:=by omega
  simp[this]
 have full:∀dH:de aY,dH.size=all.size->vm .any all dH=[]->∀j,j<all.size->dH.getD j aq=true:=by
  intro dH hs hr j;induction j using Nat.strongRecOn with
  |_ j ih=>
   intro hj;cases h:dH.getD j aq with
   |true=>rfl
   |false=>
    have ho:all[j]? =aj all[j]:=by simp[hj]
    have:j∈vm .any all dH:=by
     rw[mem_ready];refine⟨by rw[aa5 dH j hs hj];exact h,all[j],ho,λe he hb=> ?_⟩
     have:=LW QI j all[j] (by rw[cO];exact ho) e he hb;rw[bT]at this;exact ih e.on this (by omega)
    rw[hr]at this;cases this
 intro fuel;induction fuel with
 |zero=>
  intro dH a w c hs _ aeW fS;have n8:∀j,j<all.size->dH.getD j aq=true:=by intro j hj;have h0:=List.countP_eq_zero.1 (Nat.le_zero.1 aeW) j (by simpa using hj);simpa using h0
  refine⟨?_,done dH a w c n8 fS⟩
  cases hr:vm .any all dH with
  |nil=>rfl
  |cons i r=>
   have:i∈vm .any all dH:=by rw[hr];exact du ..
   obtain⟨h0,o,ho,_⟩:=mem_ready.1 this;have hi:i<all.size:=(dN.1 ho).1;rw[aa5 dH i hs hi,n8 i hi]at h0;cases h0
 |succ fuel ih=>
  intro dH a w c hs nh aeW fS;refine⟨λhr=>done dH a w c (full dH hs hr) fS,λi hi=> ?_⟩
  obtain⟨h0,o,ho,amY⟩:=mem_ready.1 hi;have hil:i<all.size:=(dN.1 ho).1;rw[aa5 dH i hs hil]at h0;have Ga:all.toList[i]? =aj o:=by rw[cO];exact ho
  obtain⟨ws,lg,q1,q2⟩:=t3 i o Ga;rw[bT]at q2;have Q9:∀{j:aG} {CP:az (aG×eu)} {B9:Lg},tr[j]? =aj (CP,B9)->(tr.map (·.2))[j]? =aj B9/\B9.ws=CP.map (·.1):=by
   intro j CP B9 hj;have jC:j<all.toList.length:=by rw[<-t1];exact(aU.1 hj).1
   obtain⟨ws2,lg2,r1,r2⟩:=t3 j all.toList[j] (by simp[jC]);rw[hj]at r1;cases r1;exact⟨by rw[bE,hj];rfl,r2.keys⟩
  obtain⟨lgi,kwi⟩:=Q9 q1;have abq:∀(j:aG) (o':eV),(dH.setIfInBounds i ak).getD j aq=ak->all.toList[j]? =aj o'->∀e∈o'.after,mg .any e=ak->(dH.setIfInBounds i ak).getD e.on aq=true:=by
   intro j o' hj ug e he hb;by_cases Hh:i=j
   ·subst Hh;rw[Ga]at ug;cases ug;exact getD_set_true (amY e he hb)
   ·rw[getD_set_ne aq Hh]at hj;exact getD_set_true (nh j o' hj ug e he hb)
  have before:∀j,j<i->dH.getD j aq=aq->∀{CP:az (aG×eu)} {B9:Lg},tr[j]? =aj (CP,B9)->AQ lg B9=false:=by
   intro j hj hn CP B9 hjt;rcases K9 (done:=[]) rfl X0 j i lg B9 hj (bK _) (Q9 hjt).1 lgi with h|h
   ·have:=AE abq QI i (pS (by omega) aq) j h;rw[getD_set_ne aq (by omega:i≠j)]at this;rw[hn]at this;cases this
   ·exact h
  have after:∀j,i<j->dH.getD j aq=ak->∀{CP:az (aG×eu)} {B9:Lg},tr[j]? =aj (CP,B9)->AQ B9 lg=false:=by
   intro j hj hn CP B9 hjt;rcases K9 (done:=[]) rfl X0 i j B9 lg hj (bK _) lgi (Q9 hjt).1 with h|h
   ·have:=AE nh QI j hn i h;rw[h0]at this;cases this
   ·exact h
  have afr:uc E all (JN nG i) o (B_ tr 0 (λj=>dH.getD j aq) σ) ws lg:=by
   refine q2.congr (λk hk=>tB rfl (λj CP B9 hj h_ X7=> ?_));rw[bT]at h_;rw[<-(Q9 hj).2]at X7;by_cases Hh:j<i
   ·rw[aJ Hh]at h_;have hn:dH.getD j aq=false:=by simpa using h_
    exact(si (before j Hh hn hj)).2.2 k X7 hk
   ·rw[aM Hh]at h_;have hn:dH.getD j aq=true:=by simpa using h_
    have amL:i<j:=by
     rcases qw i j with h|h
     ·exact h
     ·have:j=i:=by omega
      subst this;rw[h0]at hn;cases hn
    exact(si (after j amL hn hj)).2.1 k X7 hk
  have xV:wr (B_ tr 0 (λj=>dH.getD j aq) σ) ws=B_ tr 0 (λj=>(dH.setIfInBounds i ak).getD j aq) σ:=by
   funext k;by_cases hk:k∈ws.map (·.1)
   ·have e1:B_ tr 0 (λj=>(dH.setIfInBounds i ak).getD j aq) σ k=B_ tr 0 (λj=>(dH.setIfInBounds i ak).getD j aq&&decide (j<=i)) σ k:=by
     refine tB rfl (λj CP B9 hj h_ X7=> ?_);rw[bT]at h_;rw[<-(Q9 hj).2]at X7;have Hh:i<j:=by
      rcases qw i j with h|h
      ·exact h
      ·rw[aJ h,ph]at h_;exact cq rfl h_
     rw[aM (by omega:¬j<=i),Gk,getD_set_ne aq (by omega:i≠j)]at h_;have hn:dH.getD j aq=true:=by simpa using h_
     rw[<-kwi]at hk;exact(si (after j Hh hn hj)).1 k X7 hk
    obtain⟨τ,hτ⟩:=S8 (i:=0) (S:=λj=>(dH.setIfInBounds i ak).getD j aq&&decide (j<=i)) (σ:=σ) q1 (by rw[bT,pS (by omega) aq];simp) (λq hq=>by rw[aM (by omega:¬q<=i),Gk]);rw[e1,hτ];exact To hk
   ·rw[oW hk];refine tB rfl (λj CP B9 hj h_ X7=> ?_);rw[bT]at h_;by_cases Hh:i=j
    ·subst Hh;rw[q1]at hj;cases hj;exact hk X7
    ·rw[getD_set_ne aq Hh]at h_;exact cq rfl h_
  refine z_ hE hF fS.ok fS.sl (λd X2=>by rw[fS.sz];exact A7 o (aQ Ga) d X2) ho afr (λv w' c' h1 h2 h3 h4=> ?_);have zt:=fS.step h1 h2 h3 h4;rw[xV]at zt;refine ih (dH.setIfInBounds i ak) _ _ c' (by simp[hs]) abq ?_ zt;have:=GV (p:=λj=> !dH.getD j aq) (p':=λj=> !(dH.setIfInBounds i ak).getD j aq) (i:=i) (by rw[h0];rfl) (by rw[pS (by omega) aq];rfl) (λj hj=>by rw[getD_set_ne aq (λe=>hj e.symm)]) (l:=cM all.size) List.nodup_range (by simpa using hil);omega
theorem At.drawn{N:aG}{σ0 σ:St}{c0 c:eK}{w0 w:bF}{a:Act}(h:At P E N σ0 c0 w0 σ a w c)(n:aG):At P E N σ0 c0 w0 σ a {w with drawn:=n} c:=by have hh:=h.ok.change (σ':=σ) (w':={w with drawn:=n}) (c':=c) (λ_=>False) (λ_ _=>rfl) (λ_ h=>h) (jh.refl _ _) (λ_ _ _=>rfl) (cu _) (λ_ h=>h) (λ_ h=> .inl h) h.ok.lt (λ_ _ h=>h.elim) (λ_ _ _ h=>h.elim) (λ_ _ _ _ _ h=>h.elim) (λ_ _ h=>h.elim) rfl rfl rfl;refine⟨hh.1,⟨λn'=>(h.sl.ok n').frame (λ_ _=>rfl) (λ_ h=>h) (λ_ _=>⟨rfl,rfl⟩),h.sl.kn,h.sl.df⟩,h.sz,h.gr.trans hh.2,h.ag⟩
theorem NG(hE:dZ P E)(hF:∀g,la P E g (E.call g))(hm:P.follows .mixedOrders=ak){R:Type}{N:aG}{σ0:St}{c0:eK}{w0:bF}{os:de eV}{nG:aG}{draw:aY}{Q:Exit->Act->bF->Prop}{σ:St}{K:Ex->St->aD R}{r:R}
  (h:ops E os nG 0 os.toList σ [] (λσ lg=>bif !draw||(HL 0 os.toList&&K8 (EH [] os.toList) lg.reverse)then K .normal σ else ao)=aj r) (A7:∀o∈os.toList,∀d,o.dst=aj d->d<N)
  (hQ:∀σ' a w c,K .normal σ'=aj r->At P E N σ0 c0 w0 σ' a w c->Q .normal a w) {a:Act} {w:bF} {c:eK} (fS:At P E N σ0 c0 w0 σ a w c):(Code.region nG os draw).wp P Q a w:=by
 obtain⟨tr,σ',TR,hk⟩:=Nv E os nG _ _ _ _ _ _ h;simp only[di,List.reverse_reverse,P8]at hk;cases draw with
 |false=>simp only[bX,ze,ay]at hk;refine wp_region ?_;rw[PK,<-dK];exact I9 hE hF os.toList 0 σ tr σ' TR (λj o hj=>by rw[bT,<-cO];exact hj) A7 (λa w c h=>hQ σ' a w c hk h) a w c fS
 |true=>
  cases hc:(HL 0 os.toList&&calm 0 (EH [] os.toList) [] (tr.map (·.2)))with
  |false=>simp[hc]at hk
  |true=>
   simp only[hc,Iw,ay]at hk;simp only[aK]at hc;refine wp_region_any hm ?_;refine MP hE hF TR hc.2 hc.1 A7 (λa w c h=>hQ σ' a w c hk h) os.size _ a _ c (by simp) (λj o hj=> ?_) ?_ ?_
   ·exfalso;rw[ed,CR]at hj;split at hj<;>cases hj
   ·exact c_ (List.countP_le_length) (by simp)
   ·have:B_ tr 0 (λj=>(zy os.size aq).getD j aq) σ=σ:=BO (λj _=>by rw[ed,CR];split<;>rfl);rw[this];exact fS.drawn _
end
end Go.FG

namespace Go.FG
theorem QP:∀{l:az aG} {n i:aG},n∈l->∃k,idx n i l=aj k/\i<=k/\k<i+l.length/\l[k-i]? =aj n:=by
 intro l;induction l with
 |nil=>intro n i h;cases h
 |cons m l ih=>
  intro n i h;unfold idx;cases hb:bA n m with
  |true=>have:=aW hb;subst this;exact⟨i,rfl,cu _,by simp,by simp⟩
  |false=>
   rcases cz.1 h with rfl|h
   ·simp at hb
   ·obtain⟨k,h1,h2,h3,h4⟩:=ih (i:=i+1) h;refine⟨k,h1,by omega,by simp;omega, ?_⟩
    rw[show k-i=(k-(i+1))+1 by omega,dF];exact h4
theorem Vb:∀{l:az aG} {n i k:aG},idx n i l=aj k->i<=k/\k<i+l.length/\l[k-i]? =aj n:=by
 intro l;induction l with
 |nil=>intro n i k h;cases h
 |cons m l ih=>
  intro n i k h;unfold idx at h;cases hb:bA n m with
  |true=>rw[hb]at h;have:=aW hb;subst this;cases h;exact⟨cu _,by simp,by simp⟩
  |false=>
   rw[hb]at h;obtain⟨h2,h3,h4⟩:=ih h;refine⟨by omega,by simp;omega, ?_⟩
   rw[show k-i=(k-(i+1))+1 by omega,dF];exact h4
theorem Jf{f:aY}{k:aG}(h:k<900):enc f k<900000000:=by unfold enc;cases f<;>simp<;>omega
theorem Vh{f:aY}{k:aG}(h:k<900):xX (enc f k)=f:=by
 cases f with
 |false=>
  show(bA (k%1000) 999&&pZ k 900000000)=aq;have:bA (k%1000) 999=false:=by
   cases hb:bA (k%1000) 999 with
   |false=>rfl
   |true=>have:=aW hb;omega
  rw[this];rfl
 |true=>show(bA ((k*1000+999)%1000) 999&&pZ (k*1000+999) 900000000)=ak;rw[show(k*1000+999)%1000=999 by omega,show pZ (k*1000+999) 900000000=ak from IE (by omega)];rfl
theorem UE{f f':aY}{k k':aG}(h:k<900)(h':k'<900)(he:enc f k=enc f' k'):k=k':=by unfold enc at he;cases f<;>cases f'<;>simp at he<;>omega
theorem R_{l:az aG}{n:aG}(h:n∈l):∃k,u_ l n=aj k:=by
 unfold u_;cases e9 900000000 n with
 |true=>exact⟨n,by simp[Hz h]⟩
 |false=>obtain⟨k,hk,_⟩:=QP (i:=0) h;exact⟨enc (xX n) k,by simp[hk]⟩
theorem wb{l:az aG}{n k:aG}(h:u_ l n=aj k):n∈l/\((900000000<=n/\k=n)\/(n<900000000/\∃k0,k=enc (xX n) k0/\k0<l.length/\l[k0]? =aj n)):=by
 unfold u_ at h;cases hb:e9 900000000 n with
 |true=>
  rw[hb]at h;cases hm:l_ n l with
  |true=>simp only[hm,ay]at h;cases h;exact⟨x_ hm, .inl ⟨cC hb,rfl⟩⟩
  |false=>simp[hm]at h
 |false=>
  rw[hb,aC]at h;cases hi:idx n 0 l with
  |none=>rw[hi]at h;cases h
  |some k0=>
   rw[hi]at h;cases h;obtain⟨_,h3,h4⟩:=Vb hi;rw[uF]at h4;refine⟨aQ h4, .inr ⟨?_,k0,rfl,by simpa using h3,h4⟩⟩
   rcases qw n 900000000 with h|h
   ·exact h
   ·rw[IE h]at hb;cases hb
theorem LY{l:az aG}(hl:l.length<=900){n k:aG}(h:u_ l n=aj k):xX k=xX n:=by
 obtain⟨_,⟨_,rfl⟩|⟨_,k0,rfl,h3,_⟩⟩:=wb h
 ·rfl
 ·exact Vh (by omega)
theorem WJ{l:az aG}(hl:l.length<=900){n n' k:aG}(h:u_ l n=aj k)(h':u_ l n'=aj k):n=n':=by
 obtain⟨_,h1⟩:=wb h;obtain⟨_,h2⟩:=wb h';rcases h1 with ⟨a,b⟩|⟨a,k0,b,d,e⟩<;>rcases h2 with ⟨a',b'⟩|⟨a',k0',b',d',e'⟩
 ·omega
 ·have:=Jf (f:=xX n') (k:=k0') (by omega);omega
 ·have:=Jf (f:=xX n) (k:=k0) (by omega);omega
 ·have:=UE (f:=xX n) (f':=xX n') (k:=k0) (k':=k0') (by omega) (by omega) (b.symm.trans b');subst this;rw[e]at e';cases e';rfl
def inv(l:az aG)(m:aG):aD aG:=l.find? λn=>decide (u_ l n=aj m)
theorem abO{l:az aG}(hl:l.length<=900){n k:aG}(h:u_ l n=aj k):inv l k=aj n:=by
 unfold inv;cases hf:l.find? (λn=>decide (u_ l n=aj k))with
 |none=>have:=qa.1 hf n (wb h).1;simp[h]at this
 |some n'=>have:=List.find?_some hf;rw[WJ hl h (b9 this)]
theorem QS{l:az aG}{m n:aG}(h:inv l m=aj n):u_ l n=aj m:=b9 (List.find?_some (p:=λn=>decide (u_ l n=aj m)) h)
theorem Dz{l ns:az aG}(h:xZ l ns=ak):∀n∈ns,n∈l:=λn hn=>x_ (bn.1 h n hn)
theorem qV{σ:St}{l:az aG}:∀{r:az aG} {k:aG} {x:eu},(k,x)∈uZ σ l r↔∃n∈r,∃m,u_ l n=aj m/\k=cW m/\x=NH l (σ (cW n)):=by
 intro r;induction r with
 |nil=>intro k x;simp[uZ]
 |cons n r ih=>
  intro k x;unfold uZ;cases hr:u_ l n with
  |none=>
   simp only;rw[ih];constructor
   ·rintro ⟨n',h1,h2⟩;exact⟨n',cU _ h1,h2⟩
   ·rintro ⟨n',h1,m,h2,h3⟩;rcases cz.1 h1 with rfl|h1
    ·rw[hr]at h2;cases h2
    ·exact⟨n',h1,m,h2,h3⟩
  |some m=>
   simp only[cz,ih];constructor
   ·rintro (h|⟨n',h1,h2⟩)
    ·cases h;exact⟨n, .inl rfl,m,hr,rfl,rfl⟩
    ·exact⟨n', .inr h1,h2⟩
   ·rintro ⟨n',h1|h1,m',h2,rfl,rfl⟩
    ·subst h1;rw[hr]at h2;cases h2;exact .inl rfl
    ·exact .inr ⟨n',h1,m',h2,rfl,rfl⟩
section
variable {P:cQ} {E:fB} {σ:St} {a:Act} {w:bF} {c:eK} {o:eV} {nm:aG} {e:rX}
def v_(c:eK)(l:az aG):eK:=
 ⟨λm=>match inv l m with|some n=>c.P n|none=>c.P m,λm=>match inv l m with|some n=>c.G n|none=>c.G m,c.K⟩
theorem wa{l:az aG}(hl:l.length<=900){n m:aG}(h:u_ l n=aj m):(v_ c l).P m=c.P n/\(v_ c l).G m=c.G n:=by have:=abO hl h;unfold v_;simp only[this];exact⟨trivial,trivial⟩
theorem sM{T:Tab}{l:az aG}(hl:l.length<=900){x:AV}{u:bg}(hx:ea T w c x u)(hk:∀n∈bI x,n∈l):ea T w (v_ c l) (pC l x) u/\∀m∈bI (pC l x),∃n∈l,u_ l n=aj m:=by
 have named:∀n,n∈bI x->∃k,u_ l n=aj k/\(v_ c l).P k=c.P n/\(v_ c l).G k=c.G n:=λn hn=>by obtain⟨k,h⟩:=R_ (hk n hn);exact⟨k,h,wa hl h⟩
 have nn:∀m,m∈([]:az aG)->∃n∈l,u_ l n=aj m:=λm h=>by cases h
 cases x with
 |i=>exact⟨hx,nn⟩
 |b=>exact⟨hx,nn⟩
 |s=>exact⟨hx,nn⟩
 |nl=>exact⟨hx,nn⟩
 |sh=>exact⟨hx,nn⟩
 |sp=>exact⟨hx,nn⟩
 |fn=>exact⟨hx,nn⟩
 |fp=>exact⟨hx,nn⟩
 |own n=>obtain⟨k,h,e1,e2⟩:=named n (by simp[bI]);simp only[pC,h];exact⟨by simp only[ea,e1]at hx⊢;exact hx,λm hm=>⟨n,hk n (by simp[bI]),by rw[show m=k by simpa [bI]using hm];exact h⟩⟩
 |vw n lo hi=>obtain⟨k,h,e1,e2⟩:=named n (by simp[bI]);simp only[pC,h];exact⟨by simp only[ea,e1]at hx⊢;exact hx,λm hm=>⟨n,hk n (by simp[bI]),by rw[show m=k by simpa [bI]using hm];exact h⟩⟩
 |bp n j=>obtain⟨k,h,e1,e2⟩:=named n (by simp[bI]);simp only[pC,h];exact⟨by simp only[ea,e1]at hx⊢;exact hx,λm hm=>⟨n,hk n (by simp[bI]),by rw[show m=k by simpa [bI]using hm];exact h⟩⟩
 |rp n i j=>obtain⟨k,h,e1,e2⟩:=named n (by simp[bI]);simp only[pC,h];exact⟨by simp only[ea,e1]at hx⊢;exact hx,λm hm=>⟨n,hk n (by simp[bI]),by rw[show m=k by simpa [bI]using hm];exact h⟩⟩
 |inn n i j=>obtain⟨k,h,e1,e2⟩:=named n (by simp[bI]);simp only[pC,h];exact⟨by simp only[ea,e1,e2,LY hl h]at hx⊢;exact hx,λm hm=>⟨n,hk n (by simp[bI]),by rw[show m=k by simpa [bI]using hm];exact h⟩⟩
 |ip n i j i2 j2=>obtain⟨k,h,e1,e2⟩:=named n (by simp[bI]);simp only[pC,h];exact⟨by simp only[ea,e1,e2,LY hl h]at hx⊢;exact hx,λm hm=>⟨n,hk n (by simp[bI]),by rw[show m=k by simpa [bI]using hm];exact h⟩⟩
theorem J3{T:Tab}{l:az aG}(hl:l.length<=900){g:aY}{xs:az AV}{u:bg}(hx:pO T w c g xs u)(hk:∀n∈xs.flatMap bI,n∈l):pO T w (v_ c l) g (xs.map (pC l)) u/\∀m∈(xs.map (pC l)).flatMap bI,∃n∈l,u_ l n=aj m:=by
 have kx:∀x∈xs,∀n∈bI x,n∈l:=λx hx n hn=>hk n (bG.2 ⟨x,hx,hn⟩);unfold pO at hx;split at hx
 ·rename_i y;obtain⟨h1,h2⟩:=sM hl hx (kx y (by simp));exact⟨h1,λm hm=>h2 m (by simpa using hm)⟩
 ·obtain⟨vals,rfl,hs,hv⟩:=hx;refine⟨⟨vals,rfl,by simp[hs],λj y hj=> ?_⟩,λm hm=> ?_⟩
  ·rw[bE]at hj;cases U8:xs[j]? with
   |none=>rw[U8]at hj;cases hj
   |some x=>rw[U8]at hj;cases hj;obtain⟨u,hu,ha⟩:=hv j x U8;exact⟨u,hu,(sM hl ha (kx x (aQ U8))).1⟩
  ·obtain⟨y,hy,hm⟩:=bG.1 hm;obtain⟨x,Ye,rfl⟩:=cG.1 hy;obtain⟨j,hj⟩:=bZ Ye;obtain⟨u,hu,ha⟩:=hv j x hj;exact(sM hl ha (kx x Ye)).2 m hm
 ·exact hx.elim
theorem HQ{T:Tab}{l:az aG}(hl:l.length<=900){s:SV}{u:bg}(hx:iU T w c s u):iU T w (v_ c l) (DH l s) u/\∀m∈cD (DH l s),∃n∈l,u_ l n=aj m:=by
 unfold DH;cases hk:xZ l (cD s)with
 |false=>exact⟨trivial,λm hm=>by simp[cD]at hm⟩
 |true=>
  have hk:=Dz hk;simp only[ay];cases s with
  |un=>exact⟨trivial,λm hm=>by simp[cD]at hm⟩
  |v g xs=>exact J3 hl hx hk
  |jc r=>
   obtain⟨vs,rfl,hs,hv⟩:=hx;have kr:∀x∈r,∀n∈x.2.flatMap bI,n∈l:=λx hx n hn=>hk n (bG.2 ⟨x,hx,hn⟩);refine⟨⟨vs,rfl,by simp[hs],λj g xs hj=> ?_⟩,λm hm=> ?_⟩
   ·rw[bE]at hj;cases U8:r[j]? with
    |none=>rw[U8]at hj;cases hj
    |some x=>rw[U8]at hj;cases hj;obtain⟨u,hu,ha⟩:=hv j x.1 x.2 U8;exact⟨u,hu,(J3 hl ha (kr x (aQ U8))).1⟩
   ·obtain⟨y,hy,hm⟩:=bG.1 hm;obtain⟨x,Ye,rfl⟩:=cG.1 hy;obtain⟨j,hj⟩:=bZ Ye;obtain⟨u,hu,ha⟩:=hv j x.1 x.2 hj;exact(J3 hl ha (kr x Ye)).2 m hm
theorem R9{l:az aG}{x:eu}:NH l x≠ .jE:=by
 unfold NH;split
 ·intro h;revert h;cases xZ l _<;>simp
 ·simp
 ·simp
theorem MO{N:aG}{σ0:St}{c0:eK}{w0:bF}{keep:az aG}(h:At P E N σ0 c0 w0 σ a w c):∃c',At P E N σ0 c0 w0 (fK (mo (I7 keep σ) λl=>I6 keep σ l)) a w c':=by
 rw[oq];generalize I7 keep σ=l;unfold I6;cases hle:e9 l.length 900 with
 |false=>
  simp only[aC];have hn:∀k,fK [] k= .jE:=λk=>rfl;have no:∀{k:aG} {x:Obj},fK [] k≠ .o x:=λh=>by rw[hn]at h;cases h
  refine⟨c,⟨λnm o ho=>cq ho no,λnm o v7 o' b ho=>cq ho no,λnm o b ho=>cq ho no,h.ok.lt,λnm xs ho=>cq ho no⟩,⟨λn=>trivial,λn m hm=>(by simp[slot,fK,cD]at hm),h.sl.df⟩,h.sz,h.gr.trans ⟨rfl,rfl,rfl,cu _,λ_ h=>h,λ_ _ _=>rfl,λb hb=> ?_,λ_ h=> .inl h⟩,h.ag⟩
  obtain⟨nm,o,ho,_⟩:=hb;exact cq ho no
 |true=>
  have hl:=cC hle;simp only[ay];generalize hT:keep.map (λn=>(pU n,eu.v (DH l (slot σ n))))++uZ σ l l=T;have ape:∀d∈T,d.2≠ .jE:=by
   rintro ⟨k,x⟩ hd;rw[<-hT]at hd;rcases a_.1 hd with hd|hd
   ·obtain⟨n,_,hd⟩:=cG.1 hd;cases hd;simp
   ·obtain⟨n,_,m,_,_,rfl⟩:=qV.1 hd;exact R9
  have apf:∀{m:aG} {ob:Obj},fK T (cW m)= .o ob->∃n∈l,u_ l n=aj m/\NH l (σ (cW n))= .o ob:=by
   intro m ob ho;have:=ni ho (by simp);rw[<-hT]at this;rcases a_.1 this with hd|hd
   ·obtain⟨n,_,hd⟩:=cG.1 hd;injection hd with h1 h2;exact cq h1 (rj n m)
   ·obtain⟨n,hn,m',hr,h1,h2⟩:=qV.1 hd;have:=jB h1;subst this;exact⟨n,hn,hr,h2.symm⟩
  have Q6:∀{m n:aG},n∈l->u_ l n=aj m->fK T (cW m)≠ .jE:=λhn hr=>rm (l:=T) (by rw[<-hT];exact bH _ (qV.2 ⟨_,hn,_,hr,rfl,rfl⟩)) ape;have Zr:∀n,slot (fK T) n=DH l (slot σ n)\/slot (fK T) n= .un:=by
   intro n;unfold slot;cases hs:fK T (pU n)with
   |v x=>
    have:=ni hs (by simp);rw[<-hT]at this;rcases a_.1 this with hd|hd
    ·obtain⟨n',_,hd⟩:=cG.1 hd;injection hd with h1 h2;have:=FD h1;subst this;cases h2;exact .inl rfl
    ·obtain⟨n',hn,m',hr,h1,h2⟩:=qV.1 hd;exact cq h1 (rj _ _)
   |o=>exact .inr rfl
   |jE=>exact .inr rfl
  have was:∀{m:aG} {ob:Obj},fK T (cW m)= .o ob->ob= .dead\/∃n∈l,u_ l n=aj m/\((σ (cW n)= .o ob/\∀xs,ob≠ .box xs)\/∃xs,σ (cW n)= .o (.box xs)/\ob= .box (xs.map (pC l))/\∀k∈xs.flatMap bI,k∈l):=by
   intro m ob ho;obtain⟨n,hn,hr,he⟩:=apf ho;unfold NH at he;split at he
   ·rename_i xs hx;cases hk:xZ l (xs.flatMap bI)with
    |true=>rw[hk]at he;cases he;exact .inr ⟨n,hn,hr, .inr ⟨xs,hx,rfl,Dz hk⟩⟩
    |false=>rw[hk]at he;cases he;exact .inl rfl
   ·rename_i x h_ hx;cases he;exact .inr ⟨n,hn,hr, .inl ⟨hx,λxs e=>h_ xs e⟩⟩
   ·cases he;exact .inl rfl
  have Ln:∀{m:aG} {ob:Obj} {b:aG},fK T (cW m)= .o ob->fa (v_ c l) m ob b->∃n o,u_ l n=aj m/\σ (cW n)= .o o/\fa c n o b:=by
   intro m ob b ho hf;rcases was ho with rfl|⟨n,hn,hr,⟨h1,_⟩|⟨xs,h1,rfl,_⟩⟩
   ·exact hf.elim
   ·obtain⟨e1,e2⟩:=wa (c:=c) hl hr;refine⟨n,ob,hr,h1, ?_⟩
    cases ob<;>simp only[fa,e1,e2]at hf⊢ <;>exact hf
   ·obtain⟨e1,e2⟩:=wa (c:=c) hl hr;refine⟨n,_,hr,h1, ?_⟩
    simp only[fa,e1]at hf⊢;exact hf
  refine⟨v_ c l,⟨?_, ?_, ?_,h.ok.lt, ?_⟩,⟨?_, ?_,h.sl.df⟩,h.sz,h.gr.trans ⟨rfl,rfl,rfl,cu _,λ_ h=>h,λ_ _ _=>rfl, ?_,λ_ h=> .inl h⟩,h.ag.trans ?_⟩
  ·intro m ob ho;rcases was ho with rfl|⟨n,hn,hr,⟨h1,h2⟩|⟨xs,h1,rfl,hk⟩⟩
   ·trivial
   ·obtain⟨e1,e2⟩:=wa (c:=c) hl hr;have mq:=h.ok.obj n ob h1;cases ob with
    |box xs=>exact cq rfl (h2 xs)
    |dead=>trivial
    |nC cs=>show FB E w c.K ((v_ c l).P m).blk cs;rw[e1];exact mq
    |fE e' xs=>show cY E w c.K (lj ((v_ c l).P m)) _/\((v_ c l).P m).n=_/\_;rw[e1];exact mq
    |row e' ex xs=>obtain⟨q1,q2,q3⟩:=mq;exact⟨by rw[e1];exact q1,by rw[e1,e2];exact q2,by rw[e1,e2];exact q3⟩
   ·obtain⟨e1,e2⟩:=wa (c:=c) hl hr;obtain⟨vals,hb,hs,hv⟩:=h.ok.obj n _ h1;refine⟨vals,by rw[e1];exact hb,by simp[hs],λj y hj=> ?_⟩
    rw[bE]at hj;cases hx:xs[j]? with
    |none=>rw[hx]at hj;cases hj
    |some x=>rw[hx]at hj;cases hj;obtain⟨u,hu,ha⟩:=hv j x hx;exact⟨u,hu,(sM hl ha (λk uf=>hk k (bG.2 ⟨x,aQ hx,uf⟩))).1⟩
  ·intro m ob m' ob' b ho ug hf wH;obtain⟨n,o1,r1,s1,f1⟩:=Ln ho hf;obtain⟨n',o2,r2,s2,f2⟩:=Ln ug wH;have:=h.ok.sep n o1 n' o2 b s1 s2 f1 f2;subst this;rw[r1]at r2;cases r2;rfl
  ·intro m ob b ho hf;obtain⟨n,o1,r1,s1,f1⟩:=Ln ho hf;exact h.ok.kk n o1 b s1 f1
  ·intro m xs ho y hy k hk;rcases was ho with h'|⟨n,hn,hr,⟨h1,h2⟩|⟨zs,h1,he,Hi⟩⟩
   ·cases h'
   ·exact cq rfl (h2 xs)
   ·cases he;obtain⟨x,Ye,rfl⟩:=cG.1 hy;obtain⟨vals,hb,hs,hv⟩:=h.ok.obj n _ h1;obtain⟨j,hj⟩:=bZ Ye;obtain⟨u,hu,ha⟩:=hv j x hj;obtain⟨n',j9,CC⟩:=(sM hl ha (λk uf=>Hi k (bG.2 ⟨x,Ye,uf⟩))).2 k hk;exact Q6 j9 CC
  ·intro n;rcases Zr n with hs|hs
   ·rw[hs];exact(HQ hl (h.sl.ok n)).1
   ·rw[hs];trivial
  ·intro n m hm;rcases Zr n with hs|hs
   ·rw[hs]at hm;obtain⟨n',j9,CC⟩:=(HQ hl (h.sl.ok n)).2 m hm;exact Q6 j9 CC
   ·rw[hs]at hm;simp[cD]at hm
  ·rintro b ⟨m,ob,ho,hf⟩;obtain⟨n,o1,r1,s1,f1⟩:=Ln ho hf;exact .inl ⟨n,o1,s1,f1⟩
  ·intro m hm;unfold v_;cases hi:inv l m with
   |none=>simp only[hi];exact⟨trivial,trivial⟩
   |some n=>
    have:=(wb (QS hi)).2;have:n=m:=by
     rcases this with ⟨_,h⟩|⟨_,k0,h,hk0,_⟩
     ·exact h.symm
     ·have:=Jf (f:=xX n) (k:=k0) (by omega);omega
    subst this;simp only[hi];exact⟨trivial,trivial⟩
theorem afV{N:aG}{σ0:St}{c0:eK}{w0:bF}{nm F j e:aG}{xs:az AV}{ti:TI}(hx:E.ty e=aj ti)(jD:F<900000000)(mq:σ (cW nm)= .o (.box xs))(hF:σ (cW F)= .jE)(hc:xs[j]? =aj .nl)(h:At P E N σ0 c0 w0 σ a w c):
  ∃c',At P E N σ0 c0 w0 (pf (pf σ (cW nm) (.o (.box (xs.set j (.own F))))) (cW F) (.o (.row e ak []))) a w c':=by
 let c':eK:=⟨λn=>if n=F then⟨ak,0,0,0,0,ti.ks.length⟩else c.P n,λn=>if n=F then(λ_ _=>⟨ak,0,0,0,0,0⟩)else c.G n,c.K⟩
 have hP:c'.P F=⟨ak,0,0,0,0,ti.ks.length⟩:=bC rfl;have hA:jh σ c c':=λm hm=>by
  have:m≠F:=by rintro rfl;rcases hm with h|h;exact h hF;omega
  exact⟨bL this,bL this⟩
 have hnF:nm≠F:=by rintro rfl;rw[mq]at hF;cases hF
 have hPn:c'.P nm=c.P nm:=bL hnF;let σ':=pf (pf σ (cW nm) (.o (.box (xs.set j (.own F))))) (cW F) (.o (.row e ak []));have key:∀m,σ' (cW m)=if m=F then .o (.row e ak [])else if m=nm then .o (.box (xs.set j (.own F)))else σ (cW m):=λm=>by show pf _ _ _ _=_;rw[pE,pE]
 have h_:∀m,σ (cW m)≠ .jE->σ' (cW m)≠ .jE:=λm hm=>by
  rw[key];by_cases h1:m=F
  ·rw[bC h1];simp
  ·rw[bL h1];by_cases h2:m=nm
   ·rw[bC h2];simp
   ·rw[bL h2];exact hm
 have noI:∀i j,¬fV [] i j:=λi j ⟨y,x,hy,_⟩=>by simp at hy
 have foF:∀b,¬fa c' F (.row e ak []) b:=by
  rintro b (⟨h1,_⟩|⟨_,i,j,h1,_⟩)
  ·rw[hP]at h1;cases h1
  ·exact noI i j h1
 obtain⟨vals,hb,fT,hv⟩:=h.ok.obj nm _ mq
 have hh:=h.ok.change (σ':=σ') (w':=w) (c':=c') (λm=>m=F\/m=nm)
  (λm hm=>by rw[key,bL (λe=>hm (.inl e)),bL (λe=>hm (.inr e))]) h_ hA (λ_ _ _=>rfl) (cu _) (λ_ h=>h) (λ_ h=> .inl h) h.ok.lt
  (λm o hm ho=>by
   rw[key]at ho;by_cases Hj:m=F
   ·rw[bC Hj]at ho;cases ho;subst Hj;refine⟨⟨ti,hx,by rw[hP],λy hy=>by cases hy⟩,⟨by rw[hP];rfl,λ_=>⟨rfl,by rw[hP]⟩,λhn=>by rw[hP]at hn;cases hn⟩,λ_=>⟨λi j hi=>cq hi (noI i j),λi j _ _ hi=>cq hi (noI i j)⟩⟩
   ·have hmn:=hm.resolve_left Hj;subst hmn;rw[bL Hj,bC rfl]at ho;cases ho;refine⟨vals,by rw[hPn];exact hb,by rw[cw];exact fT,λk y hk=> ?_⟩
    by_cases hkj:j=k
    ·subst hkj;have hl:j<xs.length:=(aU.1 hc).1;rw[List.getElem?_set_self hl]at hk;cases hk;obtain⟨u,hu,TQ⟩:=hv j _ hc;exact⟨u,hu,by show u=lj (c'.P F);rw[hP];exact TQ⟩
    ·rw[List.getElem?_set_ne hkj]at hk;obtain⟨u,hu,TQ⟩:=hv k y hk;exact⟨u,hu,TQ.frame (λ_ _=>rfl) (λ_ h=>h) (λn hn=>hA n (.inl (h.ok.kn m xs mq y (aQ hk) n hn)))⟩)
  (λm o b hm ho hf=>by
   rw[key]at ho;by_cases Hj:m=F
   ·rw[bC Hj]at ho;cases ho;subst Hj;exact cq hf (foF b)
   ·have hmn:=hm.resolve_left Hj;subst hmn;rw[bL Hj,bC rfl]at ho;cases ho;have hf:b=(c'.P m).blk:=hf;rw[hPn]at hf;exact⟨.inl ⟨m,_, .inr rfl,mq,hf⟩,λhk=>h.ok.kk m _ b mq hf hk⟩)
  (λm o m' o' b hm vS ho ug hf wH=>by
   rw[key]at ho ug;by_cases Hj:m=F
   ·rw[bC Hj]at ho;cases ho;subst Hj;exact cq hf (foF b)
   ·by_cases abx:m'=F
    ·rw[bC abx]at ug;cases ug;subst abx;exact cq wH (foF b)
    ·rw[hm.resolve_left Hj,vS.resolve_left abx])
  (λm ys hm ho y hy n hn=>by
   rw[key]at ho;by_cases Hj:m=F
   ·rw[bC Hj]at ho;cases ho
   ·have hmn:=hm.resolve_left Hj;subst hmn;rw[bL Hj,bC rfl]at ho;cases ho;rcases gT hy with hy|hy
    ·exact h_ n (h.ok.kn m xs mq y hy n hn)
    ·subst hy;rw[show n=F from by simpa [bI]using hn,key,bC rfl];simp) rfl rfl rfl
 have sl:=h.sl.change h.ok hh.2 hA h_ ({(default:eV)with dst:=none}) undef (λn _=>by show slot (pf _ _ _) n=_;rw[iY,iY]) (λd hd=>by cases hd);exact⟨c',hh.1,sl,h.sz,h.gr.trans hh.2,h.ag.trans hA.w.aga⟩
theorem Rj{α:Type}{N:aG}{σ0:St}{c0:eK}{w0:bF}{x:aG}(hx:∃ti,E.ty (kTy x)=aj ti)(h:At P E N σ0 c0 w0 σ a w c):∃σ' c',At P E N σ0 c0 w0 σ' a w c'/\∀f:St->α,yY x σ f=f σ':=by
 obtain⟨ti,hx⟩:=hx;have jD:kNm x<900000000:=by unfold kNm;have:=B3 (x/1000) (show 1000000>0 by omega);omega
 have no:(∀f:St->α,yY x σ f=f σ)->∃σ' c',At P E N σ0 c0 w0 σ' a w c'/\∀f:St->α,yY x σ f=f σ':=λe=>⟨σ,c,h,e⟩
 cases hs:slot σ (YO x)with
 |v g l=>
  by_cases hm:∃nm xs,g=aq/\l=[.bp nm 0]/\σ (cW nm)= .o (.box xs)/\σ (cW (kNm x))= .jE/\xs[Q2 x]? =aj .nl
  ·obtain⟨nm,xs,rfl,rfl,mq,hF,hc⟩:=hm;obtain⟨c',h'⟩:=afV hx jD mq hF hc h;exact⟨_,c',h',λf=>by unfold yY;rw[hs];simp only[mq,hF,hc,nc]⟩
  ·refine no λf=> ?_;unfold yY;rw[hs];split
   ·rename_i nm he;cases he;split
    ·rename_i xs h1 h2;split
     ·rename_i h3;exact cq ⟨nm,xs,rfl,rfl,h1,h2,h3⟩ hm
     ·rfl
    ·rfl
   ·rfl
 |jc l=>exact no λf=>by unfold yY;rw[hs]
 |un=>exact no λf=>by unfold yY;rw[hs]
theorem Bk{α:Type}{N:aG}{σ0:St}{c0:eK}{w0:bF}:∀(keep:az aG) (σ:St) (c:eK) (hk:∀x∈keep,Vi x=ak->∃ti,E.ty (kTy x)=aj ti) (h:At P E N σ0 c0 w0 σ a w c),∃σ' c',At P E N σ0 c0 w0 σ' a w c'/\∀f:St->α,LM keep σ f=f σ'
 |[],σ,c,_,h=>⟨σ,c,h,λ_=>rfl⟩
 |x::r,σ,c,hk,h=>by
  cases hx:Vi x with
  |false=>obtain⟨σ',c',h',e⟩:=Bk r σ c (λy hy=>hk y (cU _ hy)) h;exact⟨σ',c',h',λf=>by show(bif Vi x then _ else _)=_;rw[hx];exact e f⟩
  |true=>obtain⟨σ1,c1,h1,e1⟩:=Rj (α:=α) (hk x (du ..) hx) h;obtain⟨σ',c',h',e⟩:=Bk r σ1 c1 (λy hy=>hk y (cU _ hy)) h1;exact⟨σ',c',h',λf=>by show(bif Vi x then _ else _)=_;rw[hx,ay,e1,e]⟩
theorem GO{N:aG}{σ0:St}{c0:eK}{w0:bF}{keep:az aG}(hk:∀x∈keep,Vi x=ak->∃ti,E.ty (kTy x)=aj ti)(h:At P E N σ0 c0 w0 σ a w c):∃c',At P E N σ0 c0 w0 (canon keep σ) a w c':=by obtain⟨σ',c1,h1,e⟩:=Bk (α:=az (aG×eu)) keep σ c hk h;unfold canon I8;rw[e,oq];exact MO h1
theorem Q5{n:aG}:∀x∈E.yW n,Vi x=ak->∃ti,E.ty (kTy x)=aj ti:=by
 intro x hx hk;have:=(dq.1 hx).2;rw[hk,ay]at this;cases h:E.ty (kTy x)with
 |some ti=>exact⟨ti,rfl⟩
 |none=>rw[h]at this;cases this
end
end Go.FG

namespace Go.FG
def aa8:Ex->Exit| .normal=> .normal| .exit id=> .exit id| .ret=> .ret
def sj(N:aG):Code->aY
 | .region _ os _=>os.toList.all λo=>match o.dst with|some d=>pZ d N|none=>ak
 | .seq a b=>sj N a&&sj N b
 | .cond _ a b=>sj N a&&sj N b
 | .block _ c=>sj N c
 | .loop c=>sj N c
 |_=>ak
theorem least{p:aG->Prop}(h:∃n,p n):∃n,p n/\∀k,p k->n<=k:=by
 obtain⟨n,hn⟩:=h;induction n using Nat.strongRecOn with
 |_ n ih=>
  by_cases hm:∃m,m<n/\p m
  ·obtain⟨m,h1,h2⟩:=hm;exact ih m h1 h2
  ·exact⟨n,hn,λk hk=>by
    rcases qw k n with h|h
    ·exact cq ⟨k,h,hk⟩ hm
    ·exact h⟩
section
variable {P:cQ} {E:fB}
def cB(E:fB){R:Type}(it:It R)(c:Code):Prop:=∀L K r,it (gi c) (sq E it c) (canon (E.yW (gi c))) L K=aj r->∃n,iter (sq E it c) (canon (E.yW (gi c))) n (fK L) K=aj r
theorem aa7(hE:dZ P E)(hF:∀g,la P E g (E.call g))(hm:P.follows .mixedOrders=ak){R:Type}{N:aG}{σ0:St}{c0:eK}{w0:bF}{it:It R}{r:R}:∀(code:Code),(∀c∈jA code,cB E it c)->∀(σ:St) (K:Ex->St->aD R) (Q:Exit->Act->bF->Prop),sq E it code σ K=aj r->sj N code=ak->
  (∀e σ' a w c,K e σ'=aj r->At P E N σ0 c0 w0 σ' a w c->Q (aa8 e) a w)->∀a w c,At P E N σ0 c0 w0 σ a w c->code.wp P Q a w:=by
 intro code;induction code with
 |skip=>intro _ σ K Q h _ hQ a w c fS;exact wp_skip (hQ .normal σ a w c h fS)
 |region id os draw=>intro A_ σ K Q h hb hQ a w c fS;refine NG hE hF hm h (λo ho d hd=> ?_) (λσ' a w c hk fS=>hQ .normal σ' a w c hk fS) fS;have:=bn.1 hb o ho;rw[hd]at this;have this:pZ d N=true:=this;simpa [zh]using this
 |seq x y ihx ihy=>
  intro A_ σ K Q h hb hQ a w c fS;simp only[sj,aK]at hb;refine wp_seq (ihx (λc hc=>A_ c (bN _ hc)) σ _ _ h hb.1 (λe σ' a w c hk fS=> ?_) a w c fS);cases e with
  |normal=>exact ihy (λc hc=>A_ c (bH _ hc)) σ' K Q hk hb.2 hQ a w c fS
  |exit id=>exact hQ (.exit id) σ' a w c hk fS
  |ret=>exact hQ .ret σ' a w c hk fS
 |cond cnd x y ihx ihy=>
  intro A_ σ K Q h hb hQ a w c fS;simp only[sj,aK]at hb;cases cnd with
  |tmp t=>
   unfold sq at h;dsimp only at h;split at h
   ·rename_i b hs;have h1:=fS.sl.ok t;have:slot σ t= .v aq [.b b]:=by unfold slot;rw[hs]
    rw[this]at h1;have h1:a.eval (.tmp t)= .bool b:=h1;cases b with
    |true=>have h:sq E it x (pf σ (pU t) (.v (.v aq [.b ak]))) K=aj r:=h;rw[BS hs]at h;exact wp_cond_true h1 (ihx (λc hc=>A_ c (bN _ hc)) σ K Q h hb.1 hQ a w c fS)
    |false=>have h:sq E it y (pf σ (pU t) (.v (.v aq [.b aq]))) K=aj r:=h;rw[BS hs]at h;exact wp_cond_false h1 (ihy (λc hc=>A_ c (bH _ hc)) σ K Q h hb.2 hQ a w c fS)
   ·cases h
  |_=>simp[sq]at h
 |block id x ih=>
  intro A_ σ K Q h hb hQ a w c fS;refine wp_block (ih A_ σ _ _ h hb (λe σ' a w c hk fS=> ?_) a w c fS);cases e with
  |normal=>exact hQ .normal σ' a w c hk fS
  |ret=>exact hQ .ret σ' a w c hk fS
  |exit j=>
   have hk:(bif bA j id then K .normal σ' else K (.exit j) σ')=aj r:=hk;show Gn id Q (.exit j) a w;cases hj:bA j id with
   |true=>rw[hj]at hk;have Hh:=aW hj;have h1:Q .normal a w:=hQ .normal σ' a w c hk fS;simp only[Gn,Hh,if_true];exact h1
   |false=>
    rw[hj]at hk;have h_:j≠id:=λe=>by subst e;simp at hj
    have h1:Q (.exit j) a w:=hQ (.exit j) σ' a w c hk fS;simp only[Gn,h_,if_false];exact h1
 |loop x ih=>
  intro A_ σ K Q h hb hQ a w c fS;obtain⟨n,h⟩:∃n,iter (sq E it x) (canon (E.yW (gi x))) n (canon (E.yW (gi x)) σ) K=aj r:=A_ x (du ..) _ K r h;let f:=sq (R:=R) E it x;let cn:=canon (E.yW (gi x));let p:Act->bF->aG->Prop:=λa w m=>∃σ c,iter f cn m σ K=aj r/\At P E N σ0 c0 w0 σ a w c;let mu:Act->bF->aG:=λa w=>open Classical in if h:∃m,p a w m then(least h).choose else 0
  have hmu:∀a w,(∃m,p a w m)->p a w (mu a w)/\∀k,p a w k->mu a w<=k:=by
   intro a w h;have:mu a w=(least h).choose:=by simp only[mu];rw[dif_pos h]
   rw[this];exact(least h).choose_spec
  obtain⟨c1,amm⟩:=GO (keep:=E.yW (gi x)) Q5 fS;refine wp_loop (λa w=>∃m,p a w m) mu ⟨n,_,c1,h,amm⟩ (λa w hI=> ?_);obtain⟨⟨σ1,c2,h1,n9⟩,hle⟩:=hmu a w hI;cases hm0:mu a w with
  |zero=>rw[hm0]at h1;cases h1
  |succ m=>
   rw[hm0]at h1;refine ih (λc hc=>A_ c (cU _ hc)) σ1 _ _ h1 hb (λe σ' a' w' c' hk zt=> ?_) a w c2 n9;obtain⟨c3,abj⟩:=GO (keep:=E.yW (gi x)) Q5 zt;cases e with
   |normal=>
    have hp:p a' w' m:=⟨_,c3,hk,abj⟩
    refine⟨⟨m,hp⟩, ?_⟩
    have:=(hmu a' w' ⟨m,hp⟩).2 m hp;omega
   |exit id=>exact hQ (.exit id) _ a' w' c3 hk abj
   |ret=>exact hQ .ret _ a' w' c3 hk abj
 |exit id=>intro _ σ K Q h _ hQ a w c fS;exact wp_exit (hQ (.exit id) σ a w c h fS)
 |ret=>intro _ σ K Q h _ hQ a w c fS;exact wp_ret (hQ .ret σ a w c h fS)
 |_=>intro _ σ K Q h;simp[sq]at h
end
end Go.FG

namespace Go.FG
structure ji where
 aa:AA
 tk:az aG
 fz:az aG
 p:Pl
 g:aG->aG->Pl
 u:bg
section
variable {P:cQ} {E:fB} {σ:St} {a:Act} {w:bF} {c:eK}
def jy(T:Tab)(σ:St)(w:bF)(c:eK)(r:ji):Prop:=
 (∃e ex ys te,r.aa= .ow e ex ys/\r.fz=[]/\T.ty e=aj te/\r.u=lj r.p/\r.p.sz=te.ks.length/\(∀y∈ys,y.map CV.kd=te.ks)/\iT w r.p ys (λi j u x=>if ex=ak then XC T w r.g i j u x else cY T w c.K u x)/\(ex=ak->D3 r.p r.g ys)/\
  (r.p.nil=aq->∃n ob,n∈r.tk/\σ (cW n)= .o ob/\fa c n ob r.p.blk)/\(ex=ak->∀i j,fV ys i j->(r.g i j).nil=aq->∃n ob,n∈r.tk/\σ (cW n)= .o ob/\fa c n ob (r.g i j).blk))\/
 (r.tk=[]/\(∀n∈r.fz,∃el ex xs,σ (cW n)= .o (.row el ex xs))/\(∀e ex xs,r.aa≠ .ow e ex xs)/\(∀xs,r.aa≠ .kp xs)/\∀c3:eK,(∀b,K1r σ c r.fz b->c3.K b)->∀nm,ea T w c3 (kQ nm r.aa) r.u)
theorem G6(b8:Ok E σ w c){om:Om}{k:Ck}{x:AV}{u:bg}{aa:AA}{tk fz:az aG}(h:yT E om σ k x=aj (aa,tk,fz))(hx:ea E w c x u):∃p g,jy E σ w c ⟨aa,tk,fz,p,g,u⟩:=by
 let nl:Pl:=⟨ak,0,0,0,0,0⟩
 have OW:∀e ex ys tk,(vG e x).val σ=aj (ex,ys,tk)->(∃te,E.ty e=aj te)->∃p g,jy E σ w c ⟨.ow e ex ys,tk,[],p,g,u⟩:=by rintro e ex ys tk hb ⟨te,ht⟩;obtain⟨p,g,hB⟩:=AL b8 ht hx hb;exact⟨p,g, .inl ⟨e,ex,ys,te,rfl,rfl,ht,hB.v,hB.sz,hB.sh,hB.at_,hB.inn,hB.own,hB.owni⟩⟩
 have SH:∀aa fz,(∀n∈fz,∃el ex xs,σ (cW n)= .o (.row el ex xs))->(∀e ex xs,aa≠ .ow e ex xs)->(∀xs,aa≠ .kp xs)->(∀c3:eK,(∀b,K1r σ c fz b->c3.K b)->∀nm,ea E w c3 (kQ nm aa) u)->∃p g,jy E σ w c ⟨aa,[],fz,p,g,u⟩:=
  λaa fz h1 h2 h3 h4=>⟨nl,λ_ _=>nl, .inr ⟨rfl,h1,h2,h3,h4⟩⟩
 have Rl:∀n∈([]:az aG),∃el ex xs,σ (cW n)= .o (.row el ex xs):=λn hn=>by cases hn
 have HT:∀e,yU E e=ak->∃te,E.ty e=aj te:=λe he=>by
  unfold yU at he;cases ht:E.ty e with
  |none=>rw[ht]at he;cases he
  |some te=>exact⟨te,rfl⟩
 have frz:∀{n el:aG} {ex:aY} {xs:aX},σ (cW n)= .o (.row el ex xs)->∀c3:eK,(∀b,K1r σ c [n] b->c3.K b)->(∀b,c.K b->c3.K b)/\∀b,fa c n (.row el ex xs) b->c3.K b:=λhg c3 h=>⟨λb hb=>h b (.inl hb),λb hb=>h b (.inr ⟨_,aZ.2 rfl,_,hg,hb⟩)⟩
 have fst:∀{n el:aG} {ex:aY} {xs:aX},σ (cW n)= .o (.row el ex xs)->∀m∈[n],∃el ex xs,σ (cW m)= .o (.row el ex xs):=λhg m hm=>by rw[aZ]at hm;subst hm;exact⟨_,_,_,hg⟩
 cases x with
 |i k n=>cases h;exact SH _ _ Rl (λ_ _ _ h=>by cases h) (λ_ h=>by cases h) (λc3 _ _=>hx)
 |b y=>cases h;exact SH _ _ Rl (λ_ _ _ h=>by cases h) (λ_ h=>by cases h) (λc3 _ _=>hx)
 |s y=>cases h;exact SH _ _ Rl (λ_ _ _ h=>by cases h) (λ_ h=>by cases h) (λc3 _ _=>hx)
 |sh e xs=>
  cases om with
  |own=>cases h
  |nat=>cases h;exact SH _ _ Rl (λ_ _ _ h=>by cases h) (λ_ h=>by cases h) (λc3 h3 _=>cY.frame hx (λ_ _=>rfl) (λb hb=>h3 b (.inl hb)))
  |sh=>cases h;exact SH _ _ Rl (λ_ _ _ h=>by cases h) (λ_ h=>by cases h) (λc3 h3 _=>cY.frame hx (λ_ _=>rfl) (λb hb=>h3 b (.inl hb)))
 |nl=>
  have hx:u= .slice ao 0 0:=hx;cases om with
  |own e=>
   have h:(bif yU E e then aj (AA.ow e ak [],([]:az aG),([]:az aG))else ao)=aj (aa,tk,fz):=h;cases ht:yU E e with
   |false=>rw[ht]at h;cases h
   |true=>rw[ht]at h;cases h;exact OW e ak [] [] rfl (HT e ht)
  |sh e=>cases h;exact SH _ _ Rl (λ_ _ _ h=>by cases h) (λ_ h=>by cases h) (λc3 _ _=>by rw[hx];exact cY.nl _ _ _)
  |nat=>
   cases k with
   |l e=>
    have h:(bif yU E e then aj (AA.ow e ak [],([]:az aG),([]:az aG))else ao)=aj (aa,tk,fz):=h;cases ht:yU E e with
    |false=>rw[ht]at h;cases h
    |true=>rw[ht]at h;cases h;exact OW e ak [] [] rfl (HT e ht)
   |_=>cases h;exact SH _ _ Rl (λ_ _ _ h=>by cases h) (λ_ h=>by cases h) (λc3 _ _=>hx)
 |own n=>
  unfold yT at h;dsimp only at h;cases ho:σ (cW n)with
  |v=>rw[ho]at h;cases h
  |jE=>rw[ho]at h;cases h
  |o ob=>
   rw[ho]at h;have hu:u=lj (c.P n):=hx;cases ob with
   |row e ex xs=>
    obtain⟨_,_,ti,ht,_⟩:=kL b8 ho;have hb:(vG e (.own n)).val σ=aj (ex,xs,[n]):=by simp[vG,jl,ho]
    cases om with
    |sh e'=>cases h;refine SH _ _ (fst ho) (λ_ _ _ h=>by cases h) (λ_ h=>by cases h) (λc3 h3 _=> ?_);obtain⟨r1,r2⟩:=frz ho c3 h3;rw[hu];exact rh b8 ho r1 r2
    |nat=>cases h;exact OW e ex xs [n] hb ⟨ti,ht⟩
    |own=>cases h;exact OW e ex xs [n] hb ⟨ti,ht⟩
   |fE e xs=>
    have hh:cY E w c.K u (.l e xs):=by rw[hu];exact(b8.obj n _ ho).1
    cases om with
    |own=>cases h
    |nat=>cases h;exact SH _ _ Rl (λ_ _ _ h=>by cases h) (λ_ h=>by cases h) (λc3 h3 _=>cY.frame hh (λ_ _=>rfl) (λb hb=>h3 b (.inl hb)))
    |sh=>cases h;exact SH _ _ Rl (λ_ _ _ h=>by cases h) (λ_ h=>by cases h) (λc3 h3 _=>cY.frame hh (λ_ _=>rfl) (λb hb=>h3 b (.inl hb)))
   |_=>cases h
 |vw n lo hi=>
  unfold yT at h;dsimp only at h;cases ho:σ (cW n)with
  |v=>rw[ho]at h;cases h
  |jE=>rw[ho]at h;cases h
  |o ob=>
   rw[ho]at h;cases ob with
   |row e ex xs=>
    obtain⟨_,_,ti,ht,_⟩:=kL b8 ho;have hb:(vG e (.vw n lo hi)).val σ=aj (ex,eP xs lo hi,[n]):=by simp[vG,jl,ho]
    cases om with
    |sh e'=>cases h;refine SH _ _ (fst ho) (λ_ _ _ h=>by cases h) (λ_ h=>by cases h) (λc3 h3 _=> ?_);obtain⟨r1,r2⟩:=frz ho c3 h3;exact DO b8 ho r1 r2 hx
    |nat=>cases h;exact OW e ex _ [n] hb ⟨ti,ht⟩
    |own=>cases h;exact OW e ex _ [n] hb ⟨ti,ht⟩
   |fE e xs=>
    have hh:cY E w c.K u (.l e (eP xs lo hi)):=oO b8 ho hx;cases om with
    |own=>cases h
    |nat=>cases h;exact SH _ _ Rl (λ_ _ _ h=>by cases h) (λ_ h=>by cases h) (λc3 h3 _=>cY.frame hh (λ_ _=>rfl) (λb hb=>h3 b (.inl hb)))
    |sh=>cases h;exact SH _ _ Rl (λ_ _ _ h=>by cases h) (λ_ h=>by cases h) (λc3 h3 _=>cY.frame hh (λ_ _=>rfl) (λb hb=>h3 b (.inl hb)))
   |_=>cases h
 |_=>simp[yT]at h
theorem Dl(b8:Ok E σ w c){q:aG}:∀{xs:az AV} {j0:aG} {ks:az Ck} {l:az AA} {tk fz:az aG} {vals:de bg},sr E q σ j0 ks xs=aj (l,tk,fz)->fM E w c vals xs->
  ∃cs:az ji,l=cs.map (·.aa)/\tk=cs.flatMap (·.tk)/\fz=cs.flatMap (·.fz)/\cs.length=xs.length/\∀(j:aG) (r:ji),cs[j]? =aj r->vals[j]? =aj r.u/\jy E σ w c r:=by
 intro xs;induction xs with
 |nil=>intro j0 ks l tk fz vals h _;cases h;exact⟨[],rfl,rfl,rfl,rfl,λj r h=>by simp at h⟩
 |cons x xs ih=>
  intro j0 ks l tk fz vals h hv;unfold sr at h;split at h
  ·rename_i aa t f as ts fs h1 h2;cases h;obtain⟨u,hu,ha⟩:=hv.2 0 x rfl;obtain⟨p,g,hc⟩:=G6 b8 h1 ha;have LC:fM E w c (vals.extract 1 vals.size) xs:=by
    refine⟨by simp;have:=hv.1;simp at this;omega,λj b hj=> ?_⟩
    obtain⟨u,hu,hb⟩:=hv.2 (j+1) b hj;refine⟨u, ?_,hb⟩
    have:=(dN.1 hu).1;rw[dS,bC (by omega),iK];exact hu
   obtain⟨cs,rfl,rfl,rfl,i4,i5⟩:=ih h2 LC;refine⟨⟨aa,t,f,p,g,u⟩::cs,rfl,rfl,rfl,by simp[i4],λj r hj=> ?_⟩
   cases j with
   |zero=>cases hj;exact⟨hu,hc⟩
   |succ j=>
    obtain⟨r1,r2⟩:=i5 j r hj;refine⟨?_,r2⟩
    rw[dS]at r1;split at r1
    ·rw[iK];exact r1
    ·cases r1
  ·cases h
end
end Go.FG

namespace Go.FG
structure kE where
 box:aD aG
 agg:aY
 cs:az ji
 v:bg
def kE.arg(R:kE):eR:=match R.box with|some _=> .pt (R.cs.map (·.aa))|none=> .v R.agg (R.cs.map (·.aa))
def kE.tk(R:kE):az aG:=R.box.toList++R.cs.flatMap (·.tk)
def kE.fz(R:kE):az aG:=R.cs.flatMap (·.fz)
def yt(rv:ResultVar)(tmps:de bg):Sem bg:=match rv with| .tmp t=>pure (tmps.getD t undef)| .cell a t=>do loadVar t (<-asAddr (tmps.getD a undef))
section
variable {P:cQ} {E:fB} {σ:St} {a:Act} {w:bF} {c:eK}
def Aw(T:Tab)(σ:St)(w:bF)(c:eK)(R:kE):Prop:=
 (∃nm xs vals,R.box=aj nm/\σ (cW nm)= .o (.box xs)/\R.v= .pointer (aj (ad (c.P nm).blk 0))/\nr w (c.P nm).blk vals/\vals.size=R.cs.length/\∀(j:aG) (r:ji),R.cs[j]? =aj r->vals[j]? =aj r.u/\jy T σ w c r)\/
 (R.box=ao/\((R.agg=aq/\∃r,R.cs=[r]/\r.u=R.v/\jy T σ w c r)\/(R.agg=ak/\∃vals:de bg,R.v= .agg vals/\vals.size=R.cs.length/\∀(j:aG) (r:ji),R.cs[j]? =aj r->vals[j]? =aj r.u/\jy T σ w c r)))
theorem G7(b8:Ok E σ w c){q:aG}{ks:az Ck}{s:SV}{v:bg}{x:eR}{tk fz:az aG}(h:Ll E q σ ks s=aj (x,tk,fz))(hs:iU E w c s v):∃R:kE,R.arg=x/\R.tk=tk/\R.fz=fz/\R.v=v/\Aw E σ w c R:=by
 have gen:∀g xs,s= .v g xs->(match sr E q σ 0 ks xs with|some (l,ns,ms)=>aj (eR.v g l,ns,ms)|none=>ao)=aj (x,tk,fz)->∃R:kE,R.arg=x/\R.tk=tk/\R.fz=fz/\R.v=v/\Aw E σ w c R:=by
  rintro g xs rfl h;cases hf:sr E q σ 0 ks xs with
  |none=>rw[hf]at h;cases h
  |some t=>
   obtain⟨l,ns,ms⟩:=t;rw[hf]at h;cases h;obtain⟨cs,rfl,rfl,rfl,h4,h5⟩:=Dl b8 hf (pO.cells hs);refine⟨⟨ao,g,cs,v⟩,rfl,by simp[kE.tk],rfl,rfl, .inr ⟨rfl, ?_⟩⟩
   replace hs:pO E w c g xs v:=hs;have vT:∀y,pO E w c aq [y] v->v.cells= #[v]:=λy hy=>Df (ea.one hy);unfold pO at hs;split at hs
   ·rename_i y;obtain⟨r,rfl⟩:=gD.1 (h4.trans rfl);obtain⟨h6,h7⟩:=h5 0 r rfl;rw[vT y hs]at h6;exact .inl ⟨rfl,r,rfl,by simpa using h6.symm,h7⟩
   ·obtain⟨vals,rfl,fT,_⟩:=hs;exact .inr ⟨rfl,vals,rfl,by rw[fT];exact h4.symm,h5⟩
   ·exact hs.elim
 unfold Ll at h;split at h
 ·rename_i nm;cases ho:σ (cW nm)with
  |v=>rw[ho]at h;cases h
  |jE=>rw[ho]at h;cases h
  |o ob=>
   rw[ho]at h;cases ob with
   |box xs=>
    dsimp only at h;cases hf:sr E q σ 0 [] xs with
    |none=>rw[hf]at h;cases h
    |some t=>obtain⟨l,ns,ms⟩:=t;rw[hf]at h;cases h;obtain⟨vals,hb,fT,hv⟩:=b8.obj nm _ ho;obtain⟨cs,rfl,rfl,rfl,h4,h5⟩:=Dl b8 hf ⟨fT,hv⟩;exact⟨⟨aj nm,aq,cs,v⟩,rfl,rfl,rfl,rfl, .inl ⟨nm,xs,vals,rfl,ho,hs,hb,by rw[fT];exact h4.symm,h5⟩⟩
   |_=>cases h
 ·exact gen _ _ rfl h
 ·cases h
theorem HW(hE:dZ P E){t:aG}{ti:TI}(ht:E.ty t=aj ti){b:aG}{vals:de bg}(hb:nr w b vals)(hl:vals.size=ti.ks.length):(loadVar t (ad b 0)).run P w= .ok (if ti.agg=ak then .agg vals else vals.toList.headD .nilIface) w:=by
 have h:=BJ (P:=P) w hE ht (b:=b) (o:=0) (cs:=vals.toList) (by simpa using hl) (λj v hj=>by rw[bT,hb.cell];simpa using hj);have e:(wR t (.pointer (aj (ad b 0)))).run P w=(loadVar t (ad b 0)).run P w:=by simp only[wR,tG,cg,cL,bB]
 rw[<-e,h]
theorem Sb(hE:dZ P E)(b8:Ok E σ w c)(dA:eZ E σ a w c){q:aG}{rv:ResultVar}{t:aG}{x:eR}{tk fz:az aG}(h:Sa E q σ rv t=aj (x,tk,fz)):∃R:kE,R.arg=x/\R.tk=tk/\R.fz=fz/\Aw E σ w c R/\(yt rv a.tmps).run P w= .ok R.v w:=by
 unfold Sa at h;cases ht:E.ty t with
 |none=>rw[ht]at h;cases h
 |some ti=>
  rw[ht]at h;cases rv with
  |tmp s=>obtain⟨R,h1,h2,h3,h4,h5⟩:=G7 b8 h (dA.ok s);exact⟨R,h1,h2,h3,h5,by rw[h4];rfl⟩
  |cell b t'=>
   dsimp only at h;split at h
   ·rename_i Td nm ht' hs;split at h
    ·rename_i xs ho;cases hb:bA xs.length Td.ks.length with
     |false=>rw[hb]at h;cases h
     |true=>
      rw[hb]at h;have hlen:=aW hb;have hv:a.eval (.tmp b)= .pointer (aj (ad (c.P nm).blk 0)):=by have:=dA.ok b;rw[hs]at this;exact this
      obtain⟨vals,hbl,fT,X1⟩:=b8.obj nm _ ho;have QJ:=HW (P:=P) (w:=w) hE ht' hbl (by rw[fT];exact hlen);have am_:iU E w c (.v Td.agg xs) (if Td.agg=ak then .agg vals else vals.toList.headD .nilIface):=by
       show pO E w c Td.agg xs _;cases s_:Td.agg with
       |true=>rw[bC rfl];exact⟨vals,rfl,fT,X1⟩
       |false=>
        obtain⟨d,_,_,hn⟩:=hE.desc t' Td ht';have h1:Td.ks.length=1:=by rcases hn s_ with ⟨k,h,_⟩|⟨h,_⟩|⟨h,_⟩|⟨e',h,_⟩|⟨h,_⟩<;>simp[h]
        obtain⟨y,rfl⟩:=gD.1 (hlen.trans h1);obtain⟨u,hu,ha⟩:=X1 0 y rfl;have rE:vals.toList[0]? =aj u:=by simpa using hu
        have:vals.toList.headD .nilIface=u:=by
         cases hl:vals.toList with
         |nil=>rw[hl]at rE;cases rE
         |cons z l=>rw[hl]at rE;cases rE;rfl
        rw[bL (by simp),this];exact ha
      obtain⟨R,h1,h2,h3,h4,h5⟩:=G7 b8 h am_;refine⟨R,h1,h2,h3,h5, ?_⟩
      rw[h4,<-QJ];have:a.tmps.getD b undef= .pointer (aj (ad (c.P nm).blk 0)):=hv;simp only[yt,this,asAddr,cg,cL,bB]
    ·cases h
   ·cases h
theorem NI(hE:dZ P E)(b8:Ok E σ w c)(dA:eZ E σ a w c):∀{rs:az ResultVar} {q:aG} {ts:az aG} {as:az eR} {tk fz:az aG},BC E σ q rs ts=aj (as,tk,fz)->∃RL:az kE,as=RL.map (·.arg)/\tk=RL.flatMap (·.tk)/\fz=RL.flatMap (·.fz)/\(∀R∈RL,Aw E σ w c R)/\RL.length=rs.length/\(rs.mapM (λrv=>yt rv a.tmps)).run P w= .ok (RL.map (·.v)) w:=by
 intro rs;induction rs with
 |nil=>intro q ts as tk fz h;cases h;exact⟨[],rfl,rfl,rfl,λR h=>(by cases h),rfl,by simp⟩
 |cons rv rs ih=>
  intro q ts as tk fz h;unfold BC at h;split at h
  ·rename_i x l m as' ls ms h1 h2;cases h;obtain⟨R,rfl,rfl,rfl,r4,r5⟩:=Sb hE b8 dA h1;obtain⟨RL,rfl,rfl,rfl,i4,i5,i6⟩:=ih h2;refine⟨R::RL,rfl,rfl,rfl,λR' hR=> ?_,by simp[i5], ?_⟩
   ·rcases cz.1 hR with rfl|hR
    ·exact r4
    ·exact i4 R' hR
   ·simp only[Ui,cg,r5,i6,bB,cL,eW]
  ·cases h
def BD(vs:az bg):bg:=match vs with|[v]=>v|l=> .tuple l.toArray
theorem HX{fn:Func}{vs:az bg}(h:(fn.results.toList.mapM (λrv=>yt rv a.tmps)).run P w= .ok vs w):(results fn a.tmps).run P w= .ok (BD vs) w:=by
 have e:(fn.results.mapM (λrv=>yt rv a.tmps)).run P w= .ok vs.toArray w:=by rw[Array.mapM_eq_mapM_toList];simp[h]
 have:results fn a.tmps=(do let vs<-fn.results.mapM (λrv=>yt rv a.tmps);pure (if h:vs.size=1 then vs[0]else .tuple vs)):=rfl;rw[this];simp only[cg,e,bB,cL];match vs with
 |[]=>rfl
 |[v]=>rfl
 |_::_::_=>rfl
end
end Go.FG

namespace Go.FG
structure mj where
 box:aY
 cs:az ji
def mj.l(O:mj):az AA:=O.cs.map (·.aa)
def mj.ns(O:mj)(p:aG):az aG:=(if O.box=ak then [dL p 900]else [])++O.cs.flatMap (·.tk)
def mj.ms(O:mj):az aG:=O.cs.flatMap (·.fz)
section
variable {P:cQ} {E:fB} {σ:St} {a:Act} {w:bF} {c:eK}
def Kept(σ:St)(p j:aG)(xs:az AA)(r:ji):Prop:=∃e ex z ys,xs[j]? =aj (.ow e ex z)/\r.aa= .kp ys/\r.tk=[dL p j]/\r.fz=[]/\σ (cW (dL p j))= .o (.row e ex ys)
def Gs(T:Tab)(σ:St)(w:bF)(c:eK)(p:aG)(x:eR)(O:mj):Prop:=
 (O.box=aq/\(∀xs,x≠ .pt xs)/\(O.cs=[]\/∃g xs,x= .v g xs/\∀(j:aG) (r:ji),O.cs[j]? =aj r->Kept σ p j xs r\/(r.aa= .nl/\r.tk=[]/\r.fz=[])))\/
 (O.box=ak/\∃xs vs vals,x= .pt xs/\σ (cW (dL p 900))= .o (.box vs)/\nr w (c.P (dL p 900)).blk vals/\vals.size=O.cs.length/\
  ∀(j:aG) (r:ji),O.cs[j]? =aj r->vals[j]? =aj r.u/\((Kept σ p j xs r/\r.u=lj (c.P (dL p j)))\/jy T σ w c r))
theorem H0{a b:aY}(h:HZ a b=ak):a=b:=by cases a<;>cases b<;>first|rfl|cases h
theorem Ws(p j i:aG):dL p j+i=dL p (j+i):=by unfold dL;omega
theorem JG{tk:az aG}{p:aG}:∀{xs:az AA} {j:aG},∃cs:az ji,(pz σ tk (dL p j) xs).1=cs.map (·.aa)/\(pz σ tk (dL p j) xs).2=cs.flatMap (·.tk)/\cs.flatMap (·.fz)=[]/\
  ∀(i:aG) (r:ji),cs[i]? =aj r->((∃e ex z ys,xs[i]? =aj (.ow e ex z)/\r.aa= .kp ys/\r.tk=[dL p (j+i)]/\r.fz=[]/\σ (cW (dL p (j+i)))= .o (.row e ex ys))\/(r.aa= .nl/\r.tk=[]/\r.fz=[])):=by
 intro xs;induction xs with
 |nil=>intro j;exact⟨[],rfl,rfl,rfl,λi r h=>by simp at h⟩
 |cons x xs ih=>
  intro j;obtain⟨cs,h1,h2,h3,h4⟩:=ih (j:=j+1);have e1:dL p j+1=dL p (j+1):=Ws p j 1;let pl:Pl:=⟨ak,0,0,0,0,0⟩
  have one:∃r:ji,mO σ tk (dL p j) x=(r.aa,r.tk)/\r.fz=[]/\((∃e ex z ys,x= .ow e ex z/\r.aa= .kp ys/\r.tk=[dL p j]/\r.fz=[]/\σ (cW (dL p j))= .o (.row e ex ys))\/(r.aa= .nl/\r.tk=[]/\r.fz=[])):=by
   have no:mO σ tk (dL p j) x=(.nl,[])->∃r:ji,mO σ tk (dL p j) x=(r.aa,r.tk)/\r.fz=[]/\((∃e ex z ys,x= .ow e ex z/\r.aa= .kp ys/\r.tk=[dL p j]/\r.fz=[]/\σ (cW (dL p j))= .o (.row e ex ys))\/(r.aa= .nl/\r.tk=[]/\r.fz=[])):=
    λh=>⟨⟨.nl,[],[],pl,λ_ _=>pl,undef⟩,h,rfl, .inr ⟨rfl,rfl,rfl⟩⟩
   cases x with
   |ow e ex z=>
    cases hm:l_ (dL p j) tk with
    |true=>exact no (by simp[mO,hm])
    |false=>
     obtain⟨so,ho⟩:∃so,σ (cW (dL p j))=so:=⟨_,rfl⟩
     cases so with
     |v=>exact no (by simp[mO,hm,ho])
     |jE=>exact no (by simp[mO,hm,ho])
     |o ob=>
      cases ob with
      |row e' s9 ys=>
       cases hb:(bA e e'&&HZ ex s9)with
       |false=>exact no (by simp only[mO,hm,aC,ho,hb])
       |true=>simp only[aK]at hb;have he:=aW hb.1;have hx:=H0 hb.2;subst he;subst hx;exact⟨⟨.kp ys,[dL p j],[],pl,λ_ _=>pl,undef⟩,by simp[mO,hm,ho,hb.2],rfl, .inl ⟨e,ex,z,ys,rfl,rfl,rfl,rfl,ho⟩⟩
      |_=>exact no (by simp[mO,hm,ho])
   |_=>exact no rfl
  obtain⟨r,k1,k2,k3⟩:=one;refine⟨r::cs, ?_, ?_,by simp[k2,h3],λi r' hi=> ?_⟩
  ·show(mO σ tk (dL p j) x).1::(pz σ tk (dL p j+1) xs).1=_;rw[k1,e1,h1];rfl
  ·show(mO σ tk (dL p j) x).2++(pz σ tk (dL p j+1) xs).2=_;rw[k1,e1,h2];rfl
  ·cases i with
   |zero=>
    cases hi;rcases k3 with ⟨e,ex,z,ys,q1,q2⟩|q
    ·exact .inl ⟨e,ex,z,ys,by rw[q1];rfl,q2⟩
    ·exact .inr q
   |succ i=>have:=h4 i r' hi;rw[show j+1+i=j+(i+1)by omega]at this;exact this
theorem MK(b8:Ok E σ w c){q:aG}:∀{xs:az AV} {j:aG} {bs l:az AA} {tk fz:az aG} {vals:de bg},EM E q σ j bs xs=aj (l,tk,fz)->fM E w c vals xs->
  ∃cs:az ji,l=cs.map (·.aa)/\tk=cs.flatMap (·.tk)/\fz=cs.flatMap (·.fz)/\cs.length=xs.length/\∀(i:aG) (r:ji),cs[i]? =aj r->vals[i]? =aj r.u/\
   (((∃e ex z ys,bs[i]? =aj (.ow e ex z)/\r.aa= .kp ys/\r.tk=[dL q (j+i)]/\r.fz=[]/\σ (cW (dL q (j+i)))= .o (.row e ex ys))/\r.u=lj (c.P (dL q (j+i))))\/jy E σ w c r):=by
 intro xs;induction xs with
 |nil=>intro j bs l tk fz vals h _;cases h;exact⟨[],rfl,rfl,rfl,rfl,λi r h=>by simp at h⟩
 |cons x xs ih=>
  intro j bs l tk fz vals h hv;unfold EM at h;split at h
  ·rename_i aa t f as ts fs h1 h2;cases h;obtain⟨u,hu,ha⟩:=hv.2 0 x rfl;have LC:fM E w c (vals.extract 1 vals.size) xs:=by
    refine⟨by simp;have:=hv.1;simp at this;omega,λi b hj=> ?_⟩
    obtain⟨u,hu,hb⟩:=hv.2 (i+1) b hj;refine⟨u, ?_,hb⟩
    have:=(dN.1 hu).1;rw[dS,bC (by omega),iK];exact hu
   obtain⟨cs,rfl,rfl,rfl,i4,i5⟩:=ih h2 LC;have one:∃p g,((∃e ex z ys,bs[0]? =aj (.ow e ex z)/\aa= .kp ys/\t=[dL q j]/\f=[]/\σ (cW (dL q j))= .o (.row e ex ys))/\u=lj (c.P (dL q j)))\/jy E σ w c ⟨aa,t,f,p,g,u⟩:=by
    have other:∀{om k},yT E om σ k x=aj (aa,t,f)->∃p g,((∃e ex z ys,bs[0]? =aj (.ow e ex z)/\aa= .kp ys/\t=[dL q j]/\f=[]/\σ (cW (dL q j))= .o (.row e ex ys))/\u=lj (c.P (dL q j)))\/jy E σ w c ⟨aa,t,f,p,g,u⟩:=λhh=>by obtain⟨p,g,hc⟩:=G6 b8 hh ha;exact⟨p,g, .inr hc⟩
    unfold XT at h1;split at h1
    ·rename_i e ex z n _ hb;cases hn:bA n (dL q j)with
     |false=>rw[hn]at h1;exact other (k:= .o) h1
     |true=>
      rw[hn]at h1;have:=aW hn;subst this;obtain⟨so,ho⟩:∃so,σ (cW (dL q j))=so:=⟨_,rfl⟩
      cases so with
      |v=>simp[ho]at h1
      |jE=>simp[ho]at h1
      |o ob=>
       cases ob with
       |row e' s9 ys=>
        simp only[ho,ay]at h1;cases Du:(bA e e'&&HZ ex s9)with
        |false=>rw[Du]at h1;cases h1
        |true=>
         rw[Du]at h1;cases h1;simp only[aK]at Du;have he:=aW Du.1;have hx:=H0 Du.2;subst he;subst hx;refine⟨⟨ak,0,0,0,0,0⟩,λ_ _=>⟨ak,0,0,0,0,0⟩, .inl ⟨⟨e,ex,z,ys, ?_,rfl,rfl,rfl,ho⟩,ha⟩⟩
         cases bs with
         |nil=>cases hb
         |cons b bs=>rw[show b=_ from hb];rfl
       |_=>simp[ho]at h1
    ·exact other (k:= .o) h1
   obtain⟨p,g,hc⟩:=one;refine⟨⟨aa,t,f,p,g,u⟩::cs,rfl,rfl,rfl,by simp[i4],λi r hi=> ?_⟩
   cases i with
   |zero=>cases hi;exact⟨hu,hc⟩
   |succ i=>
    obtain⟨r1,r2⟩:=i5 i r hi;refine⟨?_, ?_⟩
    ·rw[dS]at r1;split at r1
     ·rw[iK];exact r1
     ·cases r1
    ·rw[show j+1+i=j+(i+1)by omega]at r2;have e1:bs.tail[i]? =bs[i+1]? :=by cases bs<;>simp
     rw[e1]at r2;exact r2
  ·cases h
end
end Go.FG

namespace Go.FG
section
variable {P:cQ} {E:fB} {σ:St} {a:Act} {w:bF} {c:eK}
theorem Nz(b8:Ok E σ w c){tk:az aG}:∀{args:az eR} {p:aG} {l:az (az AA)} {ns ms:az aG},Bv E σ tk p args=aj (l,ns,ms)->
  ∃OL:az mj,l=OL.map (·.l)/\OL.length=args.length/\ns=(OL.zipIdx p).flatMap (λt=>t.1.ns t.2)/\ms=OL.flatMap (·.ms)/\∀(i:aG) (O:mj) (x:eR),OL[i]? =aj O->args[i]? =aj x->Gs E σ w c (p+i) x O:=by
 intro args;induction args with
 |nil=>intro p l ns ms h;cases h;exact⟨[],rfl,rfl,rfl,rfl,λi O x h=>by simp at h⟩
 |cons x args ih=>
  intro p l ns ms h;unfold Bv at h;split at h
  ·cases h
  ·rename_i l' ns' ms' h1;obtain⟨OL,rfl,i2,rfl,rfl,i5⟩:=ih h1;have put:∀O:mj,Gs E σ w c p x O->l=O.l::OL.map (·.l)->ns=O.ns p++(OL.zipIdx (p+1)).flatMap (λt=>t.1.ns t.2)->ms=O.ms++OL.flatMap (·.ms)->∃OL:az mj,l=OL.map (·.l)/\OL.length=(x::args).length/\ns=(OL.zipIdx p).flatMap (λt=>t.1.ns t.2)/\ms=OL.flatMap (·.ms)/\∀(i:aG) (O:mj) (y:eR),OL[i]? =aj O->(x::args)[i]? =aj y->Gs E σ w c (p+i) y O:=by
    intro O hO h1 h2 h3;refine⟨O::OL,h1,by simp[i2],by rw[h2,List.zipIdx_cons,wS],h3,λi O' y hi hy=> ?_⟩
    cases i with
    |zero=>cases hi;cases hy;exact hO
    |succ i=>have:=i5 i O' y hi hy;rwa[show p+1+i=p+(i+1)by omega]at this
   cases x with
   |v g xs=>
    dsimp only at h;cases hh:Qv xs with
    |false=>rw[hh]at h;cases h;exact put ⟨aq,[]⟩ (.inl ⟨rfl,(λ_ h=>by cases h), .inl rfl⟩) rfl rfl rfl
    |true=>rw[hh]at h;cases h;obtain⟨cs,k1,k2,k3,k4⟩:=JG (σ:=σ) (tk:=tk) (p:=p) (xs:=xs) (j:=0);refine put ⟨aq,cs⟩ (.inl ⟨rfl,(λ_ h=>by cases h), .inr ⟨g,xs,rfl,λj r hj=> ?_⟩⟩) (by rw[k1];rfl) (by rw[k2];rfl) (by simp[mj.ms,k3]);have:=k4 j r hj;rw[bT]at this;exact this
   |pt xs=>
    dsimp only at h;split at h
    ·rename_i vs ho;split at h
     ·rename_i as ns2 ms2 hb;cases h;obtain⟨vals,hbl,fT,hv⟩:=b8.obj _ _ ho;obtain⟨cs,rfl,rfl,rfl,k4,k5⟩:=MK b8 hb ⟨fT,hv⟩;refine put ⟨ak,cs⟩ (.inr ⟨rfl,xs,vs,vals,rfl,ho,hbl,by rw[fT];exact k4.symm,λj r hj=> ?_⟩) rfl (by simp[mj.ns]) rfl;obtain⟨r1,r2⟩:=k5 j r hj;rw[bT]at r2;exact⟨r1,r2⟩
     ·cases h
    ·cases h
   |fb xs=>cases h;exact put ⟨aq,[]⟩ (.inl ⟨rfl,(λ_ h=>by cases h), .inl rfl⟩) rfl rfl rfl
theorem yQ:∀{l:az (az AA)} {p:aG},(s8 l).getD p []=l.getD p []:=by
 intro l;induction l with
 |nil=>intro p;rfl
 |cons x l ih=>
  intro p;unfold s8;split
  ·rename_i h;cases p with
   |zero=>rfl
   |succ p=>rw[uC,<-ih,h];rfl
  ·rename_i x' r' _;cases p with
   |zero=>rfl
   |succ p=>rw[uC,uC,ih]
end
end Go.FG

namespace Go.FG
structure Sp where
 res:aY
 i:aG
 j:aD aG
def oT(RL:az kE)(OL:az mj)(s:Sp):az aG:=
 match s.res,s.j with
 |true,ao=>match RL[s.i]? with|some R=>R.box.toList|none=>[]
 |true,aj j=>match RL[s.i]? with|some R=>(match R.cs[j]? with|some r=>r.tk|none=>[])|none=>[]
 |false,ao=>match OL[s.i]? with|some O=>(if O.box=ak then [dL s.i 900]else [])|none=>[]
 |false,aj j=>match OL[s.i]? with|some O=>(match O.cs[j]? with|some r=>r.tk|none=>[])|none=>[]
theorem mR{α:Type}{l:az α}{i:aG}{x:α}{p:aG}(h:l[i]? =aj x):(l.zipIdx p)[i]? =aj (x,p+i):=by rw[List.getElem?_zipIdx,h];rfl
theorem WY{RL:az kE}{OL:az mj}(hn:(RL.flatMap (·.tk)++(OL.zipIdx 0).flatMap (λt=>t.1.ns t.2)).Nodup){s s':Sp}{n:aG}(h:n∈oT RL OL s)(h':n∈oT RL OL s'):s=s':=by
 obtain⟨n1,n2,n3⟩:=dX.1 hn;obtain⟨a1,a2⟩:=lr n1;obtain⟨b1,b2⟩:=lr n2;have R1:∀{i:aG} {j:aD aG},n∈oT RL OL ⟨ak,i,j⟩->∃R,RL[i]? =aj R/\n∈R.tk/\((j=ao/\n∈R.box.toList)\/∃q r,j=aj q/\R.cs[q]? =aj r/\n∈r.tk):=by
  intro i j h;cases j with
  |none=>
   unfold oT at h;dsimp only at h;cases hR:RL[i]? with
   |none=>rw[hR]at h;cases h
   |some R=>rw[hR]at h;exact⟨R,rfl,bN _ h, .inl ⟨rfl,h⟩⟩
  |some q=>
   unfold oT at h;dsimp only at h;cases hR:RL[i]? with
   |none=>rw[hR]at h;cases h
   |some R=>
    rw[hR]at h;dsimp only at h;cases hr:R.cs[q]? with
    |none=>rw[hr]at h;cases h
    |some r=>rw[hr]at h;exact⟨R,rfl,bH _ (bG.2 ⟨r,aQ hr,h⟩), .inr ⟨q,r,rfl,hr,h⟩⟩
 have O1:∀{i:aG} {j:aD aG},n∈oT RL OL ⟨aq,i,j⟩->∃O,OL[i]? =aj O/\n∈O.ns i/\((j=ao/\n∈(if O.box=ak then [dL i 900]else []))\/∃q r,j=aj q/\O.cs[q]? =aj r/\n∈r.tk):=by
  intro i j h;cases j with
  |none=>
   unfold oT at h;dsimp only at h;cases hR:OL[i]? with
   |none=>rw[hR]at h;cases h
   |some R=>rw[hR]at h;exact⟨R,rfl,bN _ h, .inl ⟨rfl,h⟩⟩
  |some q=>
   unfold oT at h;dsimp only at h;cases hR:OL[i]? with
   |none=>rw[hR]at h;cases h
   |some R=>
    rw[hR]at h;dsimp only at h;cases hr:R.cs[q]? with
    |none=>rw[hr]at h;cases h
    |some r=>rw[hr]at h;exact⟨R,rfl,bH _ (bG.2 ⟨r,aQ hr,h⟩), .inr ⟨q,r,rfl,hr,h⟩⟩
 have inn:∀{A:az aG} {cs:az ji} {j j':aD aG},(A++cs.flatMap (·.tk)).Nodup->((j=ao/\n∈A)\/∃q r,j=aj q/\cs[q]? =aj r/\n∈r.tk)->((j'=ao/\n∈A)\/∃q r,j'=aj q/\cs[q]? =aj r/\n∈r.tk)->j=j':=by
  intro A cs j j' Hk k k';obtain⟨m1,m2,m3⟩:=dX.1 Hk;have inC:∀{q:aG} {r:ji},cs[q]? =aj r->n∈r.tk->n∈cs.flatMap (·.tk):=λhq hr=>bG.2 ⟨_,aQ hq,hr⟩;rcases k with ⟨rfl,k⟩|⟨q,r,rfl,k1,k2⟩<;>rcases k' with ⟨rfl,k'⟩|⟨q',r',rfl,k1',k2'⟩
  ·rfl
  ·exact cq rfl (m3 n k n (inC k1' k2'))
  ·exact cq rfl (m3 n k' n (inC k1 k2))
  ·rw[(lr m2).1 q q' r r' n k1 k1' k2 k2']
 obtain⟨b,i,j⟩:=s;obtain⟨b',i',j'⟩:=s';cases b<;>cases b'
 ·obtain⟨O,h1,h2,h3⟩:=O1 h;obtain⟨O',Js,M3,Lt⟩:=O1 h';have:=b1 i i' _ _ n (mR (p:=0) h1) (mR (p:=0) Js) (by rw[bT];exact h2) (by rw[bT];exact M3);subst this;rw[h1]at Js;cases Js;have:=b2 _ (aQ (mR (p:=0) h1));rw[bT]at this;rw[inn this h3 Lt]
 ·obtain⟨O,h1,h2,h3⟩:=O1 h;obtain⟨R,Js,M3,_⟩:=R1 h';exact cq rfl (n3 n (bG.2 ⟨R,aQ Js,M3⟩) n (bG.2 ⟨_,aQ (mR (p:=0) h1),by rw[bT];exact h2⟩))
 ·obtain⟨R,h1,h2,_⟩:=R1 h;obtain⟨O,Js,M3,_⟩:=O1 h';exact cq rfl (n3 n (bG.2 ⟨R,aQ h1,h2⟩) n (bG.2 ⟨_,aQ (mR (p:=0) Js),by rw[bT];exact M3⟩))
 ·obtain⟨R,h1,h2,h3⟩:=R1 h;obtain⟨R',Js,M3,Lt⟩:=R1 h';have:=a1 i i' _ _ n h1 Js h2 M3;subst this;rw[h1]at Js;cases Js;have:=a2 _ (aQ h1);rw[inn this h3 Lt]
end Go.FG

namespace Go.FG
def K5(c:eK)(RL:az kE)(OL:az mj)(m:aG):aD (Pl×(aG->aG->Pl)):=
 if m<900000000 then ao
 else if 500<=(m-900000000)/1000 then(match RL[(m-900000000)/1000-500]? with
  |none=>ao
  |some R=>if(m-900000000)%1000=900 then R.box.map (λn=>(c.P n,c.G n))else(R.cs[(m-900000000)%1000]?).map λr=>(r.p,r.g))
 else if 100<=(m-900000000)%1000/\(m-900000000)%1000≠900 then(match OL[(m-900000000)/1000]? with
  |none=>ao
  |some O=>(O.cs[(m-900000000)%1000-100]?).map λr=>(r.p,r.g))
 else ao
def mN(σ:St)(c:eK)(RL:az kE)(OL:az mj):eK:=
 ⟨λm=>match K5 c RL OL m with|some pg=>pg.1|none=>c.P m,λm=>match K5 c RL OL m with|some pg=>pg.2|none=>c.G m,K1r σ c (RL.flatMap (·.fz)++OL.flatMap (·.ms))⟩
theorem zK{σ:St}{c:eK}{RL:az kE}{OL:az mj}{m:aG}{p:Pl}{g:aG->aG->Pl}(h:K5 c RL OL m=aj (p,g)):(mN σ c RL OL).P m=p/\(mN σ c RL OL).G m=g:=by unfold mN;simp only[h];exact⟨trivial,trivial⟩
theorem zJ{σ:St}{c:eK}{RL:az kE}{OL:az mj}{m:aG}(h:K5 c RL OL m=ao):(mN σ c RL OL).P m=c.P m/\(mN σ c RL OL).G m=c.G m:=by unfold mN;simp only[h];exact⟨trivial,trivial⟩
section
variable {c:eK} {RL:az kE} {OL:az mj}
theorem P4{q n:aG}{R:kE}(h:RL[q]? =aj R)(hb:R.box=aj n):K5 c RL OL (dL (500+q) 900)=aj (c.P n,c.G n):=by obtain⟨h1,h2⟩:=tl (p:=500+q) (j:=900) (by omega);have h0:=Bm (500+q) 900;unfold K5;rw[bL (by omega),h1,h2,bC (by omega),show 500+q-500=q by omega,h];simp[hb]
theorem EK{q j:aG}{R:kE}{r:ji}(h:RL[q]? =aj R)(hj:R.cs[j]? =aj r)(hl:j<900):K5 c RL OL (dL (500+q) j)=aj (r.p,r.g):=by obtain⟨h1,h2⟩:=tl (p:=500+q) (j:=j) (by omega);have h0:=Bm (500+q) j;unfold K5;rw[bL (by omega),h1,h2,bC (by omega),show 500+q-500=q by omega,h];dsimp only;rw[bL (by omega),hj];rfl
theorem zH{p j:aG}(hp:p<500)(hl:j<100\/j=900):K5 c RL OL (dL p j)=none:=by obtain⟨h1,h2⟩:=tl (p:=p) (j:=j) (by omega);have h0:=Bm p j;unfold K5;rw[bL (by omega),h1,h2,bL (by omega),bL (by omega)]
theorem K6{p j:aG}{O:mj}{r:ji}(hp:p<500)(h:OL[p]? =aj O)(hj:O.cs[j]? =aj r)(hl:j<=100):K5 c RL OL (dL p (100+j))=aj (r.p,r.g):=by obtain⟨h1,h2⟩:=tl (p:=p) (j:=100+j) (by omega);have h0:=Bm p (100+j);unfold K5;rw[bL (by omega),h1,h2,bL (by omega),bC (by omega),h];dsimp only;rw[show 100+j-100=j by omega,hj];rfl
end
end Go.FG

namespace Go.FG
def afQ(OL:az mj)(s:Sp):aG:=
 match s.res,s.j with
 |true,ao=>dL (500+s.i) 900
 |true,aj j=>dL (500+s.i) j
 |false,ao=>dL s.i 900
 |false,aj j=>match OL[s.i]? with|some O=>(match O.cs[j]? with|some r=>(match r.aa with| .kp _=>dL s.i j|_=>dL s.i (100+j))|none=>0)|none=>0
section
variable {P:cQ} {E:fB} {σ:St} {a:Act} {w:bF} {c:eK} {RL:az kE} {OL:az mj}
theorem zM{r:ji}(h:jy E σ w c r)(hf:∀n∈r.fz,n∈RL.flatMap (·.fz)++OL.flatMap (·.ms)){x:aG}(hx:K5 c RL OL x=aj (r.p,r.g)):ea E w (mN σ c RL OL) (kQ x r.aa) r.u:=by
 rcases h with ⟨e,ex,ys,te,h1,h2,h3,h4,_⟩|⟨h1,h2,h3,h4,h5⟩
 ·rw[h1];show r.u=lj ((mN σ c RL OL).P x);rw[(zK hx).1];exact h4
 ·exact h5 _ (λb hb=>hb.imp id (λ⟨n,hn,hh⟩=>⟨n,hf n hn,hh⟩)) x
theorem GP{r:ji}(h:jy E σ w c r){e:aG}{ex:aY}{ys:aX}(ha:r.aa= .ow e ex ys){x:aG}(hx:K5 c RL OL x=aj (r.p,r.g)):
  pk E w (mN σ c RL OL) x (.row e ex ys)/\∀b,fa (mN σ c RL OL) x (.row e ex ys) b->∃n ob,n∈r.tk/\σ (cW n)= .o ob/\fa c n ob b:=by
 obtain⟨e1,e2⟩:=zK (σ:=σ) hx;rcases h with ⟨e',s9,Cb,te,h1,h2,h3,h4,h5,h6,h7,h8,h9,N_⟩|⟨_,_,h3,_⟩
 ·rw[ha]at h1;cases h1;refine⟨⟨⟨te,h3,by rw[e1];exact h5,h6⟩, ?_,λoZ=>by rw[e1,e2];exact h8 oZ⟩,λb hb=> ?_⟩
  ·rw[e1,e2];refine h7.frame (λ_=>rfl) (λi j y xx u hy TU hr=> ?_);split at hr
   ·rename_i oZ;rw[bC oZ];exact hr
   ·rename_i oZ;rw[bL oZ];exact hr.frame (λ_ _=>rfl) (λb hb=> .inl hb)
  ·rcases hb with ⟨hn,rfl⟩|⟨oZ,i,j,hh,hn,rfl⟩
   ·rw[e1]at hn⊢;exact h9 hn
   ·rw[e2]at hn⊢;exact N_ oZ i j hh hn
 ·exact cq ha (h3 _ _ _)
structure CS (T:Tab) (σ:St) (w:bF) (c:eK) (RL:az kE) (OL:az mj) (args:az eR) (r:dM):Prop where
 rl:∀R∈RL,Aw T σ w c R
 ol:∀(i:aG) (O:mj) (x:eR),OL[i]? =aj O->args[i]? =aj x->Gs T σ w c i x O
 len:OL.length=args.length
 nd:(RL.flatMap (·.tk)++(OL.zipIdx 0).flatMap (λt=>t.1.ns t.2)).Nodup
 ap:∀n∈RL.flatMap (·.tk)++(OL.zipIdx 0).flatMap (λt=>t.1.ns t.2),n∉RL.flatMap (·.fz)++OL.flatMap (·.ms)
 sm:Small args r
 rs:r.rs=RL.map (·.arg)
 outs:∀p,r.outs.getD p []=(OL.map (·.l)).getD p []
theorem PY{R:kE}{xs:az AA}(h:Kx R.arg xs):xs=R.cs.map (·.aa):=by
 unfold kE.arg at h;split at h
 ·rcases h with ⟨g,h⟩|h<;>cases h;rfl
 ·rcases h with ⟨g,h⟩|h<;>cases h;rfl
theorem vK(b8:Ok E σ w c){args:az eR}{r:dM}(hE:CS E σ w c RL OL args r){x:aG}{ob:Obj}(h:Ah args r x (.o ob)):
  pk E w (mN σ c RL OL) x ob/\∃s,x=afQ OL s/\∀b,fa (mN σ c RL OL) x ob b->∃n o,n∈oT RL OL s/\σ (cW n)= .o o/\fa c n o b:=by
 have ahf:∀{q:aG} {y:eR},r.rs[q]? =aj y->∃R,RL[q]? =aj R/\y=R.arg:=by
  intro q y hq;rw[hE.rs,bE]at hq;cases hR:RL[q]? with
  |none=>rw[hR]at hq;cases hq
  |some R=>rw[hR]at hq;cases hq;exact⟨R,rfl,rfl⟩
 have fzR:∀{q:aG} {R:kE} {j:aG} {t:ji},RL[q]? =aj R->R.cs[j]? =aj t->∀n∈t.fz,n∈RL.flatMap (·.fz)++OL.flatMap (·.ms):=λhR hj n hn=>bN _ (bG.2 ⟨_,aQ hR,bG.2 ⟨_,aQ hj,hn⟩⟩);have fzO:∀{q:aG} {O:mj} {j:aG} {t:ji},OL[q]? =aj O->O.cs[j]? =aj t->∀n∈t.fz,n∈RL.flatMap (·.fz)++OL.flatMap (·.ms):=λhR hj n hn=>bH _ (bG.2 ⟨_,aQ hR,bG.2 ⟨_,aQ hj,hn⟩⟩);have acr:∀{p:aG} {y:eR},args[p]? =aj y->∃O,OL[p]? =aj O/\Gs E σ w c p y O/\r.outs.getD p []=O.cs.map (·.aa):=by
  intro p y hp;have rD:p<OL.length:=by rw[hE.len];exact(aU.1 hp).1
  have hO:OL[p]? =aj OL[p]:=by simp[rD]
  refine⟨OL[p],hO,hE.ol p _ y hO hp, ?_⟩
  rw[hE.outs,cK,bE,hO];rfl
 have csJ:∀{cs:az ji} {j:aG} {y:AA},(cs.map (·.aa))[j]? =aj y->∃t,cs[j]? =aj t/\t.aa=y:=by
  intro cs j y hj;rw[bE]at hj;cases ht:cs[j]? with
  |none=>rw[ht]at hj;cases hj
  |some t=>rw[ht]at hj;cases hj;exact⟨t,rfl,rfl⟩
 have X_:∀p j,dL p 0+j=dL p j:=λp j=>by unfold dL;omega
 cases h with
 |rb q xs h0=>
  obtain⟨R,hR,hy⟩:=ahf h0;rcases hE.rl R (aQ hR)with ⟨nm,zs,vals,h1,h2,h3,h4,h5,h6⟩|⟨h1,_⟩
  ·have Yf:=PY (R:=R) (xs:=xs) (.inr hy.symm);obtain⟨e1,e2⟩:=zK (σ:=σ) (P4 (c:=c) (OL:=OL) hR h1);refine⟨⟨vals,by rw[e1];exact h4,by rw[iy,Yf,bP];exact h5,λj y hj=> ?_⟩,⟨ak,q,ao⟩,rfl,λb hb=>⟨nm,_, ?_,h2, ?_⟩⟩
   ·rw[ia,Yf]at hj;cases hx:(R.cs.map (·.aa))[j]? with
    |none=>rw[hx]at hj;cases hj
    |some z=>
     rw[hx]at hj;cases hj;obtain⟨t,ht,rfl⟩:=csJ hx;obtain⟨k1,k2⟩:=h6 j t ht;have jC:j<900:=by have:=hE.sm.rl q _ xs h0 (.inr rfl);have h7:=(aU.1 ht).1;rw[Yf,bP]at this;omega
     rw[X_];exact⟨t.u,k1,zM k2 (fzR hR ht) (EK hR ht jC)⟩
   ·show nm∈(match RL[q]? with|some R=>R.box.toList|none=>[]);rw[hR];dsimp only;rw[h1];exact aZ.2 rfl
   ·rw[show b=_ from hb,e1];rfl
  ·unfold kE.arg at hy;rw[h1]at hy;cases hy
 |rr q y xs j e ex ys h0 hx hj=>
  obtain⟨R,hR,rfl⟩:=ahf h0;have Yf:=PY hx;rw[Yf]at hj;obtain⟨t,ht,Hp⟩:=csJ hj;have jC:j<900:=by have:=hE.sm.rl q _ xs h0 hx;have h7:=(aU.1 ht).1;rw[Yf,bP]at this;omega
  have hc:jy E σ w c t:=by
   rcases hE.rl R (aQ hR)with ⟨nm,zs,vals,_,_,_,_,_,h6⟩|⟨_,⟨_,t',h1,_,h2⟩|⟨_,vals,_,_,h6⟩⟩
   ·exact(h6 j t ht).2
   ·rw[h1]at ht;cases j with
    |zero=>cases ht;exact h2
    |succ j=>simp at ht
   ·exact(h6 j t ht).2
  obtain⟨k1,k2⟩:=GP (RL:=RL) (OL:=OL) hc Hp (EK hR ht jC);refine⟨k1,⟨ak,q,aj j⟩,rfl,λb hb=> ?_⟩
  obtain⟨n,o,h1,h2⟩:=k2 b hb;refine⟨n,o, ?_,h2⟩
  show n∈(match RL[q]? with|some R=>(match R.cs[j]? with|some r=>r.tk|none=>[])|none=>[]);rw[hR];dsimp only;rw[ht];exact h1
 |ob p xs h0=>
  obtain⟨O,hO,hoo,hl⟩:=acr h0;have hp:=hE.sm.a p _ xs h0 (.inr rfl);rcases hoo with ⟨_,h1,_⟩|⟨h1,Kq,vs,vals,U7,h2,h3,h4,h5⟩
  ·exact cq rfl (h1 xs)
  ·cases U7;obtain⟨e1,e2⟩:=zJ (σ:=σ) (zH (c:=c) (RL:=RL) (OL:=OL) hp (.inr rfl));have aeQ:O.cs.length<=100:=by have:=hE.sm.o p;rw[hl,bP]at this;exact this
   rw[hl];refine⟨⟨vals,by rw[e1];exact h3,by rw[ui,bP];exact h4,λj y hj=> ?_⟩,⟨aq,p,ao⟩,rfl,λb hb=>⟨dL p 900,_, ?_,h2, ?_⟩⟩
   ·rw[u9,bT]at hj;cases hx:(O.cs.map (·.aa))[j]? with
    |none=>rw[hx]at hj;cases hj
    |some z=>
     rw[hx]at hj;cases hj;obtain⟨t,ht,rfl⟩:=csJ hx;obtain⟨k1,k2⟩:=h5 j t ht;have jC:=(aU.1 ht).1;refine⟨t.u,k1, ?_⟩
     rcases k2 with ⟨⟨e,ex,z,ys,_,q2,_⟩,q6⟩|k2
     ·rw[q2];show t.u=lj ((mN σ c RL OL).P (dL p j));rw[(zJ (zH hp (.inl (by omega)))).1];exact q6
     ·have hk:∀ys,t.aa≠ .kp ys:=by
       rcases k2 with ⟨_,_,_,_,q,_⟩|⟨_,_,_,q,_⟩
       ·intro ys hh;rw[q]at hh;cases hh
       ·exact q
      have:sI p j t.aa=kQ (dL p (100+j)) t.aa:=by cases hq:t.aa<;>first|rfl|exact cq hq (hk _)
      rw[this];exact zM k2 (fzO hO ht) (K6 hp hO ht (by omega))
   ·show dL p 900∈(match OL[p]? with|some O=>(if O.box=ak then [dL p 900]else [])|none=>[]);rw[hO];dsimp only;rw[bC h1];exact aZ.2 rfl
   ·rw[show b=_ from hb,e1];rfl
 |kp p y xs j e ex z ys h0 hx h2 h3=>
  obtain⟨O,hO,hoo,hl⟩:=acr h0;have hp:=hE.sm.a p _ xs h0 hx;rw[hl]at h3;obtain⟨t,ht,Hp⟩:=csJ h3;have aeQ:O.cs.length<=100:=by have:=hE.sm.o p;rw[hl,bP]at this;exact this
  have jC:=(aU.1 ht).1;have afb:Kept σ p j xs t:=by
   rcases hoo with ⟨_,_,h1|⟨g,Kq,U7,h1⟩⟩|⟨_,Kq,vs,vals,U7,_,_,_,h5⟩
   ·rw[h1]at ht;simp at ht
   ·have:Kq=xs:=by rw[U7]at hx;rcases hx with ⟨g',hx⟩|hx<;>cases hx;rfl
    subst this;rcases h1 j t ht with h|⟨h,_⟩
    ·exact h
    ·rw[Hp]at h;cases h
   ·have:Kq=xs:=by rw[U7]at hx;rcases hx with ⟨g',hx⟩|hx<;>cases hx;rfl
    subst this;rcases(h5 j t ht).2 with ⟨h,_⟩|h
    ·exact h
    ·rcases h with ⟨_,_,_,_,q,_⟩|⟨_,_,_,q,_⟩
     ·rw[Hp]at q;cases q
     ·exact cq Hp (q _)
  obtain⟨e',s9,z',Cb,q1,q2,q3,q4,q5⟩:=afb;rw[h2]at q1;cases q1;rw[Hp]at q2;cases q2;obtain⟨e1,e2⟩:=zJ (σ:=σ) (zH (c:=c) (RL:=RL) (OL:=OL) (p:=p) (j:=j) hp (.inl (by omega)));obtain⟨⟨te,r1,r2,r3⟩,r4,r5⟩:=b8.obj _ _ q5;refine⟨⟨⟨te,r1,by rw[e1];exact r2,r3⟩, ?_,λoZ=>by rw[e1,e2];exact r5 oZ⟩,⟨aq,p,aj j⟩, ?_,λb hb=>⟨dL p j,_, ?_,q5, ?_⟩⟩
  ·rw[e1,e2];refine r4.frame (λ_=>rfl) (λi j y xx u hy TU hr=> ?_);split at hr
   ·rename_i oZ;rw[bC oZ];exact hr
   ·rename_i oZ;rw[bL oZ];exact hr.frame (λ_ _=>rfl) (λb hb=> .inl hb)
  ·show dL p j=(match OL[p]? with|some O=>(match O.cs[j]? with|some r=>(match r.aa with| .kp _=>dL p j|_=>dL p (100+j))|none=>0)|none=>0)
   rw[hO];dsimp only;rw[ht];dsimp only;rw[Hp]
  ·show dL p j∈(match OL[p]? with|some O=>(match O.cs[j]? with|some r=>r.tk|none=>[])|none=>[]);rw[hO];dsimp only;rw[ht];dsimp only;rw[q3];exact aZ.2 rfl
  ·rw[lK (c:=c) (c':=mN σ c RL OL) ⟨e1,e2⟩]at hb;exact hb
 |nw p y xs j e ex ys h0 hx h3=>
  obtain⟨O,hO,hoo,hl⟩:=acr h0;have hp:=hE.sm.a p _ xs h0 hx;rw[hl]at h3;obtain⟨t,ht,Hp⟩:=csJ h3;have aeQ:O.cs.length<=100:=by have:=hE.sm.o p;rw[hl,bP]at this;exact this
  have jC:=(aU.1 ht).1;have hc:jy E σ w c t:=by
   rcases hoo with ⟨_,_,h1|⟨g,Kq,U7,h1⟩⟩|⟨_,Kq,vs,vals,U7,_,_,_,h5⟩
   ·rw[h1]at ht;simp at ht
   ·rcases h1 j t ht with ⟨_,_,_,_,_,h,_⟩|⟨h,_⟩<;>(rw[Hp]at h;cases h)
   ·rcases(h5 j t ht).2 with ⟨⟨_,_,_,_,_,h,_⟩,_⟩|h
    ·rw[Hp]at h;cases h
    ·exact h
  obtain⟨k1,k2⟩:=GP (RL:=RL) (OL:=OL) hc Hp (K6 hp hO ht (by omega));refine⟨k1,⟨aq,p,aj j⟩, ?_,λb hb=> ?_⟩
  ·show dL p (100+j)=(match OL[p]? with|some O=>(match O.cs[j]? with|some r=>(match r.aa with| .kp _=>dL p j|_=>dL p (100+j))|none=>0)|none=>0)
   rw[hO];dsimp only;rw[ht];dsimp only;rw[Hp]
  ·obtain⟨n,o,h1,h2⟩:=k2 b hb;refine⟨n,o, ?_,h2⟩
   show n∈(match OL[p]? with|some O=>(match O.cs[j]? with|some r=>r.tk|none=>[])|none=>[]);rw[hO];dsimp only;rw[ht];exact h1
end
end Go.FG

namespace Go.FG
theorem uR{args:az eR}{r:dM}{m:aG}{o:Obj}(h:Ah args r m (.o o)):nO args r (cW m)≠ .jE:=by
 refine rm (vM.2 h) ?_;rintro ⟨k,d⟩ hd;rcases a_.1 hd with hd|hd
 ·obtain⟨i,a,_,hd⟩:=HC.1 hd;rcases g_.1 hd with ⟨_,_,_,h⟩|⟨_,_,_,_,_,_,_,_,h⟩<;>rw[h]<;>simp
 ·obtain⟨i,a,_,hd⟩:=HB.1 hd;rcases qm.1 hd with ⟨_,_,_,h⟩|⟨_,_,⟨_,_,_,_,_,_,_,_,h⟩|⟨_,_,_,_,_,_,h⟩⟩<;>rw[h]<;>simp
section
variable {P:cQ} {E:fB} {σ:St} {a:Act} {w:bF} {c c0:eK} {RL:az kE} {OL:az mj}
theorem RU{s:Sp}{n:aG}(h:n∈oT RL OL s):n∈RL.flatMap (·.tk)++(OL.zipIdx 0).flatMap (λt=>t.1.ns t.2):=by
 obtain⟨b,i,j⟩:=s;have inO:∀{O:mj},OL[i]? =aj O->n∈O.ns i->n∈(OL.zipIdx 0).flatMap (λt=>t.1.ns t.2):=λhO hn=>bG.2 ⟨_,aQ (mR (p:=0) hO),by rw[bT];exact hn⟩;have inR:∀{R:kE},RL[i]? =aj R->n∈R.tk->n∈RL.flatMap (·.tk):=λhR hn=>bG.2 ⟨_,aQ hR,hn⟩;cases b<;>cases j<;>unfold oT at h<;>dsimp only at h
 ·cases hO:OL[i]? with
  |none=>rw[hO]at h;cases h
  |some O=>rw[hO]at h;exact bH _ (inO hO (bN _ h))
 ·rename_i j;cases hO:OL[i]? with
  |none=>rw[hO]at h;cases h
  |some O=>
   rw[hO]at h;dsimp only at h;cases hr:O.cs[j]? with
   |none=>rw[hr]at h;cases h
   |some r=>rw[hr]at h;exact bH _ (inO hO (bH _ (bG.2 ⟨r,aQ hr,h⟩)))
 ·cases hO:RL[i]? with
  |none=>rw[hO]at h;cases h
  |some O=>rw[hO]at h;exact bN _ (inR hO (bN _ h))
 ·rename_i j;cases hO:RL[i]? with
  |none=>rw[hO]at h;cases h
  |some O=>
   rw[hO]at h;dsimp only at h;cases hr:O.cs[j]? with
   |none=>rw[hr]at h;cases h
   |some r=>rw[hr]at h;exact bN _ (inR hO (bH _ (bG.2 ⟨r,aQ hr,h⟩)))
theorem Sd{args:az eR}{r:dM}(hE:CS E σ w c RL OL args r){q:aG}{R:kE}(hR:RL[q]? =aj R):pO E w (mN σ c RL OL) (EJ (500+q) R.arg).1 (EJ (500+q) R.arg).2 R.v:=by
 have hlen:∀{j:aG} {t:ji},R.cs[j]? =aj t->j<900:=by
  intro j t ht;have h0:r.rs[q]? =aj R.arg:=by rw[hE.rs,bE,hR];rfl
  have hx:Kx R.arg (R.cs.map (·.aa)):=by
   unfold kE.arg;split
   ·exact .inr rfl
   ·exact .inl ⟨_,rfl⟩
  have:=hE.sm.rl q _ _ h0 hx;have h7:=(aU.1 ht).1;rw[bP]at this;omega
 have hf:∀{j:aG} {t:ji},R.cs[j]? =aj t->∀n∈t.fz,n∈RL.flatMap (·.fz)++OL.flatMap (·.ms):=λhj n hn=>bN _ (bG.2 ⟨_,aQ hR,bG.2 ⟨_,aQ hj,hn⟩⟩);have X_:∀p j,dL p 0+j=dL p j:=λp j=>by unfold dL;omega
 rcases hE.rl R (aQ hR)with ⟨nm,zs,vals,h1,h2,h3,h4,h5,h6⟩|⟨h1,⟨h2,t,h3,h4,h5⟩|⟨h2,vals,h3,h4,h5⟩⟩
 ·have:R.arg= .pt (R.cs.map (·.aa)):=by unfold kE.arg;rw[h1]
  rw[this];show R.v= .pointer (aj (ad ((mN σ c RL OL).P (dL (500+q) 900)).blk 0));rw[(zK (P4 hR h1)).1];exact h3
 ·have:R.arg= .v aq [t.aa]:=by unfold kE.arg;rw[h1,h2,h3];rfl
  rw[this,<-h4];have ht:R.cs[0]? =aj t:=by rw[h3];rfl
  have:=zM (OL:=OL) h5 (hf ht) (EK hR ht (by omega));exact this
 ·have:R.arg= .v ak (R.cs.map (·.aa)):=by unfold kE.arg;rw[h1,h2]
  rw[this];refine⟨vals,h3,by show vals.size=(gb _ _).length;rw[iy,bP];exact h4,λj y hj=> ?_⟩
  replace hj:(gb (dL (500+q) 0) (R.cs.map (·.aa)))[j]? =aj y:=hj;rw[ia,bE]at hj;cases ht:R.cs[j]? with
  |none=>rw[ht]at hj;cases hj
  |some t=>
   rw[ht]at hj;cases hj;obtain⟨k1,k2⟩:=h5 j t ht;refine⟨t.u,k1, ?_⟩
   rw[X_];exact zM k2 (hf ht) (EK hR ht (hlen ht))
theorem AY{args:az eR}{r:dM}{q:aG}{y:eR}{xs:az AA}(h0:r.rs[q]? =aj y)(hx:Kx y xs){v:AV}(hv:v∈gb (dL (500+q) 0) xs):iS (nO args r) v:=by
 intro m hm;obtain⟨j,hj⟩:=bZ hv;rw[ia]at hj;cases hy:xs[j]? with
 |none=>rw[hy]at hj;cases hj
 |some z=>
  rw[hy]at hj;cases hj;obtain⟨rfl,e,ex,ys,rfl⟩:=sE hm;have hn:dL (500+q) 0+j=dL (500+q) j:=by unfold dL;omega
  rw[hn];exact uR (.rr q y xs j e ex ys h0 hx hy)
theorem UI(b8:Ok E σ w c){args:az eR}{r:dM}(hE:CS E σ w c RL OL args r):Ok E (nO args r) w (mN σ c RL OL) where
 obj nm o h:=(vK b8 hE (qk h)).1
 sep nm o v7 o' b h h' hf wH:=by
  obtain⟨s,e1,k1⟩:=(vK b8 hE (qk h)).2;obtain⟨s',e1',k1'⟩:=(vK b8 hE (qk h')).2;obtain⟨n,ob,h1,h2,h3⟩:=k1 b hf;obtain⟨n',ob',Js,M3,Lt⟩:=k1' b wH;have:=b8.sep n ob n' ob' b h2 M3 h3 Lt;subst this;rw[e1,e1',WY hE.nd h1 Js]
 kk nm o b h hf hk:=by
  obtain⟨s,e1,k1⟩:=(vK b8 hE (qk h)).2;obtain⟨n,ob,h1,h2,h3⟩:=k1 b hf;rcases hk with hk|⟨n',j9,ob',M3,Lt⟩
  ·exact b8.kk n ob b h2 h3 hk
  ·have:=b8.sep n ob n' ob' b h2 M3 h3 Lt;subst this;exact hE.ap n (RU h1) j9
 lt b hb:=by
  rcases hb with hb|⟨n,hn,ob,h1,h2⟩
  ·exact b8.lt b hb
  ·exact vp.lt b8 ⟨n,ob,h1,h2⟩
 kn nm xs h v hv:=by
  have hx:=qk h;cases hx with
  |rb q xs h0=>exact AY h0 (.inr rfl) hv
  |ob p xs h0=>
   intro m hm;obtain⟨j,hj⟩:=bZ hv;rw[u9,bT]at hj;cases hy:(r.outs.getD p [])[j]? with
   |none=>rw[hy]at hj;cases hj
   |some z=>
    rw[hy]at hj;cases hj;cases z with
    |kp ys=>
     have hm:m=dL p j:=by simpa [sI,bI]using hm
     subst hm;have rD:p<OL.length:=by rw[hE.len];exact(aU.1 h0).1
     have hO:OL[p]? =aj OL[p]:=by simp[rD]
     have hl:r.outs.getD p []=OL[p].cs.map (·.aa):=by rw[hE.outs,cK,bE,hO];rfl
     rw[hl,bE]at hy;cases ht:OL[p].cs[j]? with
     |none=>rw[ht]at hy;cases hy
     |some t=>
      rw[ht]at hy;have Hp:t.aa= .kp ys:=by injection hy
      rcases hE.ol p _ _ hO h0 with ⟨_,h1,_⟩|⟨_,Kq,vs,vals,U7,_,_,_,h5⟩
      ·exact cq rfl (h1 xs)
      ·cases U7;rcases(h5 j t ht).2 with ⟨⟨e,ex,z,Cb,q1,q2,_⟩,_⟩|h
       ·rw[Hp]at q2;cases q2;exact uR (.kp p _ xs j e ex z ys h0 (.inr rfl) q1 (by rw[hl,bE,ht];exact ml aj Hp))
       ·rcases h with ⟨_,_,_,_,q,_⟩|⟨_,_,_,q,_⟩
        ·rw[Hp]at q;cases q
        ·exact cq Hp (q _)
    |ow e ex ys=>
     have hm:m=dL p (100+j):=by simpa [sI,kQ,bI]using hm
     subst hm;exact uR (.nw p _ xs j e ex ys h0 (.inr rfl) hy)
    |_=>simp[sI,kQ,bI]at hm
theorem MU(b8:Ok E σ w c){args:az eR}{r:dM}(hE:CS E σ w c RL OL args r):nR σ c w (nO args r) (mN σ c RL OL) w where
 os:=rfl
 tape:=rfl
 output:=rfl
 size:=cu _
 K b hb:= .inl hb
 same _ _ _:=rfl
 own b hb:=by
  obtain⟨nm,o,h,hf⟩:=hb;obtain⟨s,e1,k1⟩:=(vK b8 hE (qk h)).2;obtain⟨n,ob,h1,h2,h3⟩:=k1 b hf;exact .inl ⟨n,ob,h2,h3⟩
 kn b hb:=by
  rcases hb with hb|⟨n,hn,ob,h1,h2⟩
  ·exact .inl hb
  ·exact .inr (.inl ⟨n,ob,h1,h2⟩)
theorem MV{args:az eR}{r:dM}(hs:Small args r)(ha:∀a∈args,mM a<=100)(hA:Tz c0 c):∀m,inj args (cW m)≠ .jE->(mN σ c RL OL).P m=c0.P m/\(mN σ c RL OL).G m=c0.G m:=by
 intro m hm;have:∃ob,inj args (cW m)= .o ob:=by
  cases h:inj args (cW m)with
  |o ob=>exact⟨ob,rfl⟩
  |jE=>exact cq h hm
  |v x=>
   obtain⟨p,a,h0,h⟩:=ll.1 (ni h (by simp));rcases h with ⟨h,_⟩|h
   ·exact cq h (lM _ _)
   ·rcases g_.1 h with ⟨_,_,_,h⟩|⟨_,_,_,_,_,_,_,_,h⟩<;>cases h
 obtain⟨ob,h⟩:=this;obtain⟨p,a,h0,hh⟩:=zU h;have go:∀j,j<100\/j=900->p<500->(mN σ c RL OL).P (dL p j)=c0.P (dL p j)/\(mN σ c RL OL).G (dL p j)=c0.G (dL p j):=by intro j hj hp;obtain⟨e1,e2⟩:=zJ (σ:=σ) (zH (c:=c) (RL:=RL) (OL:=OL) hp hj);obtain⟨g1,g2⟩:=hA (dL p j) (Bm p j);exact⟨e1.trans g1,e2.trans g2⟩
 rcases hh with ⟨xs,rfl,rfl,_⟩|⟨xs,j,e,ex,ys,hx,hj,rfl,_⟩
 ·exact go 900 (.inr rfl) (hs.a p _ xs h0 (.inr rfl))
 ·refine go j (.inl ?_) (hs.a p _ xs h0 hx);have h1:=ha a (aQ h0);have h2:mM a=xs.length:=by rcases hx with ⟨g,rfl⟩|rfl<;>rfl
  have h3:=(aU.1 hj).1;omega
theorem Qh{args:az eR}{r:dM}(hE:CS E σ w c RL OL args r):iU E w (mN σ c RL OL) (WK r.rs) (BD (RL.map (·.v))):=by
 have jc:∀l:az (aY×az AV),l=kR 500 r.rs->iU E w (mN σ c RL OL) (.jc l) (.tuple (RL.map (·.v)).toArray):=by
  rintro l rfl;refine⟨_,rfl,by rw[vW,hE.rs];simp,λj g xs hj=> ?_⟩
  rw[DI,hE.rs,bE]at hj;cases hR:RL[j]? with
  |none=>rw[hR]at hj;cases hj
  |some R=>
   rw[hR]at hj;have hj:EJ (500+j) R.arg=(g,xs):=by injection hj
   have:=Sd hE hR;rw[hj]at this;exact⟨R.v,by simp[hR],this⟩
 have one:∀x R,kR 500 r.rs=[x]->RL=[R]->iU E w (mN σ c RL OL) (rG [x]) R.v:=by
  intro x R hx hRL;have h0:RL[0]? =aj R:=by rw[hRL];rfl
  have h1:=Sd hE h0;have h2:(kR 500 r.rs)[0]? =aj (EJ (500+0) R.arg):=by rw[DI,hE.rs,bE,h0];rfl
  rw[hx]at h2;have h2:x=EJ (500+0) R.arg:=by injection h2
  subst h2;exact h1
 have hlen:(kR 500 r.rs).length=RL.length:=by rw[vW,hE.rs];simp
 have hL:∀L,L=kR 500 r.rs->L.length=RL.length->iU E w (mN σ c RL OL) (rG L) (BD (RL.map (·.v))):=by
  intro L hL hlen;have jc:=jc L hL;generalize hV:RL.map (·.v)=V at jc⊢;have hlv:L.length=V.length:=by rw[hlen,<-hV];simp
  cases L with
  |nil=>
   cases V with
   |nil=>exact jc
   |cons v V=>simp at hlv
  |cons x L=>
   cases V with
   |nil=>simp at hlv
   |cons v V=>
    cases L with
    |cons y L=>
     cases V with
     |nil=>simp at hlv
     |cons v' V=>exact jc
    |nil=>
     cases V with
     |cons v' V=>simp at hlv
     |nil=>
      cases hR:RL with
      |nil=>rw[hR]at hV;cases hV
      |cons R RL'=>
       cases RL' with
       |nil=>
        have:=one x R hL.symm hR;rw[hR]at hV this;have hV:R.v=v:=by injection hV
        rw[<-hV];exact this
       |cons R' RL'=>rw[hR]at hV;simp at hV
 exact hL _ rfl hlen
end
end Go.FG

namespace Go.FG
theorem Dd{α:Type}{b:aY}{x r:α}(h:(bif b then aj x else ao)=aj r):b=ak/\x=r:=by
 cases b with
 |true=>exact⟨rfl,by injection h⟩
 |false=>cases h
section
variable {P:cQ} {E:fB} {σ:St} {a:Act} {w:bF} {c:eK}
theorem abc(hE:dZ P E)(b8:Ok E σ w c)(dA:eZ E σ a w c){F:Func}{args:az eR}{e:Ex}{r:dM}(h:fin E F args e σ=aj r):
  (e= .normal\/e= .ret)/\(∀x∈args,mM x<=100)/\∃RL OL,CS E σ w c RL OL args r/\(results F a.tmps).run P w= .ok (BD (RL.map (·.v))) w:=by
 have he:e= .normal\/e= .ret:=by
  cases e with
  |normal=>exact .inl rfl
  |ret=>exact .inr rfl
  |exit id=>cases h
 have h:(match BC E σ 500 F.results.toList F.resultTypes.toList with
  |some (rs,tk,fz)=>match Bv E σ (tk++fz) 0 args with
   |some (outs,ns,ms)=>bif sG (tk++ns)&&qP (tk++ns) (fz++ms)&&e9 args.length 500&&(args.all λa=>e9 (mM a) 100)&&(rs.all λa=>e9 (mM a) 100)&&(outs.all λa=>e9 a.length 100)then aj (dM.mk rs (s8 outs))else ao
   |none=>ao
  |none=>ao)=aj r:=by
  rcases he with rfl|rfl<;>exact h
 split at h
 ·rename_i rs tk fz h1;split at h
  ·rename_i outs ns ms h2;obtain⟨RL,rfl,rfl,rfl,r4,r5,r6⟩:=NI hE b8 dA h1;obtain⟨OL,rfl,o2,rfl,rfl,o5⟩:=Nz b8 h2;obtain⟨hb,rfl⟩:=Dd h;simp only[aK,bn]at hb;obtain⟨⟨⟨⟨⟨b1,b2⟩,b3⟩,b4⟩,b5⟩,b6⟩:=hb;refine⟨he,λx hx=>cC (b4 x hx),RL,OL,⟨r4,λi O x hi hx=>by have:=o5 i O x hi hx;rwa[bT]at this,o2,qo b1,oi b2,⟨?_, ?_, ?_⟩,rfl,λp=>yQ⟩,HX r6⟩
   ·intro p x xs hp _;have:=(aU.1 hp).1;have:=cC b3;omega
   ·intro q x xs hq hx;have h1:=cC (b5 x (aQ hq));have h2:mM x=xs.length:=by rcases hx with ⟨g,rfl⟩|rfl<;>rfl
    omega
   ·intro p;show((s8 (OL.map (·.l))).getD p []).length<=100;rw[yQ,cK];cases hp:(OL.map (·.l))[p]? with
    |none=>simp
    |some l=>exact cC (b6 l (aQ hp))
  ·cases h
 ·cases h
end
inductive Fit:CV->Prop
 |i (k n):Fit (.i k n)
 |b (x):Fit (.b x)
 |s (x) (h:Gc x):Fit (.s x)
 |l (e xs) (h:xs.length<=9223372036854775807) (hc:∀y∈xs,∀x∈y,Fit x):Fit (.l e xs)
def uw(xs:aX):Prop:=xs.length<=9223372036854775807/\∀y∈xs,∀x∈y,Fit x
def aeN:AA->Prop
 | .s x=>Gc x| .sh _ xs=>uw xs| .ow _ _ xs=>uw xs|_=>True
def ET:az AA->Prop
 |[]=>True|a::r=>aeN a/\ET r
def aeO:CV->Prop
 | .s x=>Gc x| .l _ xs=>uw xs|_=>True
def Qm:az CV->Prop
 |[]=>True|a::r=>aeO a/\Qm r
def Ql:eR->Prop
 | .v _ xs=>ET xs| .pt xs=>ET xs| .fb xs=>Qm xs
def vR:az eR->Prop
 |[]=>True|a::r=>Ql a/\vR r
theorem Fit.afZ{u:bg}{x:CV}(hl:tc x=aq)(h:Sc u x):Fit x:=by
 cases x with
 |i k n=>exact .i k n
 |b x=>exact .b x
 |s x=>exact .s x h.2
 |l=>simp[tc]at hl
theorem cY.fit{E:Tab}{w:bF}{K:aG->Prop}{v:bg}{x:CV}(h:cY E w K v x):Fit x:=by
 induction h with
 |i k n=>exact .i k n
 |b x=>exact .b x
 |s x h=>exact .s x h
 |nl e A c=>exact .l e [] (bK _) (λy hy=>by cases hy)
 |l e xs b o c ti U ht hc hm hK hs hcell gO ih=>refine .l e xs (c_ hc hm) (λy hy x hx=> ?_);obtain⟨i,hi⟩:=bZ hy;obtain⟨j,hj⟩:=bZ hx;exact ih i j y x hi hj
theorem Fit.row{e:aG}{xs:aX}(h:Fit (.l e xs)):uw xs:=by cases h with|l _ _ h hc=>exact⟨h,hc⟩
theorem Fit.toC{x:CV}(h:Fit x):aeO x:=by
 cases x with
 |s x=>cases h with|s _ h=>exact h
 |l e xs=>exact h.row
 |_=>trivial
theorem y_{w:bF}{p:Pl}{xs:aX}{R:aG->aG->bg->CV->Prop}(h:iT w p xs R){i j:aG}{y:az CV}{x:CV}(hi:xs[i]? =aj y)(hj:y[j]? =aj x):∃u:bg,R i j u x:=by
 cases hn:p.nil with
 |true=>rw[(h.nil hn).1]at hi;simp at hi
 |false=>obtain⟨vals,_,_,_,_,hc⟩:=h.mem hn;obtain⟨u,_,hr⟩:=hc i y j x hi hj;exact⟨u,hr⟩
theorem KK.fit{E:Tab}{w:bF}{c:eK}{nm e:aG}{ex:aY}{xs:aX}(h:KK E w c nm e ex xs):uw xs:=by
 refine⟨tv h.at_,λy hy x hx=> ?_⟩
 obtain⟨i,hi⟩:=bZ hy;obtain⟨j,hj⟩:=bZ hx;obtain⟨u,hr⟩:=y_ h.at_ hi hj;split at hr
 ·cases x with
  |i k n=>exact .i k n
  |b x=>exact .b x
  |s x=>exact .s x (show Sc u (.s x)from hr).2
  |l e2 ys=>obtain⟨_,ti,_,hp,_,mc,fS⟩:=hr;refine .l e2 ys (tv fS) (λy2 hy2 x2 Of=> ?_);obtain⟨i2,E4⟩:=bZ hy2;obtain⟨j2,Ob⟩:=bZ Of;obtain⟨u2,hr2⟩:=y_ fS E4 Ob;exact Fit.afZ (gV hp (mc y2 hy2) Ob) hr2
 ·exact cY.fit hr
theorem Dm{T:Tab}{w:bF}{c:eK}{xs:az AA}{nm:aG}(afo:∀(j e:aG) (ex:aY) (ys:aX),xs[j]? =aj (AA.ow e ex ys)->uw ys)(h:∀(j:aG) (x:AA),xs[j]? =aj x->∃v,ea T w c (kQ (nm+j) x) v):ET xs:=by
 induction xs generalizing nm with
 |nil=>trivial
 |cons x xs ih=>
  refine⟨?_,ih (nm:=nm+1) (λj e ex ys hj=>afo (j+1) e ex ys hj) (λj y hj=> ?_)⟩
  ·obtain⟨v,hv⟩:=h 0 x rfl;cases x with
   |s x=>exact hv.2
   |sh e ys=>exact(cY.fit hv).row
   |ow e ex ys=>exact afo 0 e ex ys rfl
   |_=>trivial
  ·have:=h (j+1) y hj;rw[show nm+1+j=nm+(j+1)by omega];exact this
def yw(args:az eR):aY:=e9 args.length 500&&args.all λa=>e9 (mM a) 100
theorem Vc{args:az eR}(hs:yw args=ak){p j e:aG}{x:eR}{xs:az AA}{ex:aY}{ys:aX}(h0:args[p]? =aj x)(hx:(∃g,x= .v g xs)\/x= .pt xs)(hj:xs[j]? =aj (AA.ow e ex ys)):inj args (cW (dL p j))= .o (.row e ex ys):=by
 simp only[yw,aK,bn]at hs;have len:∀(x:eR) (xs:az AA) (j:aG) (y:AA),x∈args->((∃g,x= .v g xs)\/x= .pt xs)->xs[j]? =aj y->j<100:=by
  intro x xs j y hm hx hj;have h1:=cC (hs.2 x hm);have h2:mM x=xs.length:=by rcases hx with ⟨g,rfl⟩|rfl<;>rfl
  have h3:=(aU.1 hj).1;omega
 have jC:=len x xs j _ (aQ h0) hx hj;refine yA (ll.2 ⟨p,x,h0, .inr (g_.2 (.inr ⟨xs,j,e,ex,ys,hx,hj,by rw[bT],rfl⟩))⟩) (λc' Hc=> ?_);obtain⟨p',a',TN,hh⟩:=ll.1 Hc;rw[bT]at hh;rcases hh with ⟨h,_⟩|hh
 ·exact cq h (lM _ _)
 ·rcases g_.1 hh with ⟨zs,_,h,_⟩|⟨zs,j',e',s9,Cb,oZ,Lx,h,rfl⟩
  ·have:=tn (by omega) (by omega) (jB h);omega
  ·have atJ:=len a' zs j' _ (aQ TN) oZ Lx;obtain⟨rfl,rfl⟩:=tn (by omega) (by omega) (jB h);rw[h0]at TN;cases TN;have:xs=zs:=by rcases hx with ⟨g,rfl⟩|rfl<;>rcases oZ with ⟨g',oZ⟩|oZ<;>cases oZ<;>rfl
   subst this;rw[hj]at Lx;cases Lx;rfl
theorem Jl{T:Tab}{w:bF}{c:eK}:∀{cs:az CV},(∀(q:aG) (x:CV),cs[q]? =aj x->Fit x)->Qm cs:=by
 intro cs;induction cs with
 |nil=>intro _;trivial
 |cons x cs ih=>intro h;exact⟨(h 0 x rfl).toC,ih (λq y hq=>h (q+1) y hq)⟩
theorem Qn{T:Tab}{w:bF}{c:eK}{args:az eR}(hs:yw args=ak)(b8:Ok T (inj args) w c)(h:∀(p:aG) (x:eR),args[p]? =aj x->∃v,iU T w c (sC p x) v):vR args:=by
 have one:∀(p:aG) (x:eR),args[p]? =aj x->Ql x:=by
  intro p x h0;have rows:∀xs,((∃g,x= .v g xs)\/x= .pt xs)->∀(j e:aG) (ex:aY) (ys:aX),xs[j]? =aj (AA.ow e ex ys)->uw ys:=λxs hx j e ex ys hj=>KK.fit (b8.obj _ _ (Vc hs h0 hx hj));obtain⟨v,hv⟩:=h p x h0;cases x with
  |v g xs=>
   refine Dm (T:=T) (w:=w) (c:=c) (nm:=dL p 0) (rows xs (.inl ⟨g,rfl⟩)) (λj y hj=> ?_);replace hv:pO T w c g (gb (dL p 0) xs) v:=hv;have Lx:(gb (dL p 0) xs)[j]? =aj (kQ (dL p 0+j) y):=by rw[ia,hj];rfl
   unfold pO at hv;split at hv
   ·rename_i a he;rw[he]at Lx;cases j with
    |zero=>cases Lx;exact⟨v,hv⟩
    |succ j=>simp at Lx
   ·obtain⟨vals,_,_,hv⟩:=hv;obtain⟨u,_,hu⟩:=hv j _ Lx;exact⟨u,hu⟩
   ·exact hv.elim
  |pt xs=>
   have amo:inj args (cW (dL p 900))= .o (.box (gb (dL p 0) xs)):=by
    refine yA (ll.2 ⟨p,_,h0, .inr (g_.2 (.inl ⟨xs,rfl,by rw[bT],by rw[bT]⟩))⟩) (λc' Hc=> ?_);obtain⟨p',a',TN,hh⟩:=ll.1 Hc;rw[bT]at hh;rcases hh with ⟨h,_⟩|hh
    ·exact cq h (lM _ _)
    ·rcases g_.1 hh with ⟨zs,hx,h,rfl⟩|⟨zs,j',e',s9,Cb,oZ,Lx,h,rfl⟩
     ·obtain⟨rfl,_⟩:=tn (by omega) (by omega) (jB h);rw[h0]at TN;cases TN;cases hx;rfl
     ·exfalso;simp only[yw,aK,bn]at hs;have h1:=cC (hs.2 a' (aQ TN));have h2:mM a'=zs.length:=by rcases oZ with ⟨g,rfl⟩|rfl<;>rfl
      have h3:=(aU.1 Lx).1;have:=tn (by omega) (by omega) (jB h);omega
   obtain⟨vals,_,_,hc⟩:=b8.obj _ _ amo;refine Dm (T:=T) (w:=w) (c:=c) (nm:=dL p 0) (rows xs (.inr rfl)) (λj y hj=> ?_);obtain⟨u,_,hu⟩:=hc j (kQ (dL p 0+j) y) (by rw[ia,hj];rfl);exact⟨u,hu⟩
  |fb xs=>
   obtain⟨b,_,_,hf⟩:∃b,v= .pointer (aj (ad b 0))/\c.K b/\∀(q:aG) (x:CV),xs[q]? =aj x->∃u:bg,w.cell? (ad b q)=aj u/\cY T w c.K u x:=by obtain⟨b,h1,h2,h3⟩:=hv;exact⟨b,h1,h2,h3⟩
   exact Jl (T:=T) (w:=w) (c:=c) (λq x hq=>by obtain⟨u,_,hu⟩:=hf q x hq;exact hu.fit)
 clear h b8 hs;induction args with
 |nil=>trivial
 |cons x args ih=>exact⟨one 0 x rfl,ih (λp y hp=>one (p+1) y hp)⟩
theorem abd{P:cQ}{E:fB}(hE:dZ P E)(hF:∀g,la P E g (E.call g))(hm:P.follows .mixedOrders=ak){g:aG}{F:Func}{code:Code}(hf:P.funcs[g]? =aj F)(hb:F.body=aj code)
  (hc:((F.name== "runtime.NumGoroutine")|| !sj F.ntmps code)=aq) {spec:az eR->aD (aY×dM)} (hs:∀args r,spec args=aj (ak,r)->yw args=ak/\(vR args->args.length<=F.ntmps/\∃(R:Type) (it:It R) (K:Ex->St->aD R) (q:R),(∀c∈jA code,cB E it c)/\sq E it code (inj args) K=aj q/\∀e σ,K e σ=aj q->fin E F args e σ=aj r)):la P E g spec:=by
 intro args r hr w c1 vs b8 fT QN;obtain⟨Yc,hs⟩:=hs args r hr;obtain⟨hlen,R,it,K,q,A_,aeS,amz⟩:=hs (Qn Yc b8 (λp x hp=>(QN p x hp).imp λ_ h=>h.2));simp only[ie,me]at hc;refine⟨⟨F,hf,by rw[hb];rfl,hc.1⟩, ?_⟩
 refine calls_of_wp hf hb ?_;refine aa7 (N:=F.ntmps) (σ0:=inj args) (c0:=c1) (w0:=w) hE hF hm code A_ (inj args) K _ aeS hc.2 (λe σ' a' w' c' hk fS=> ?_) _ w c1 ⟨b8,⟨λn=> ?_,Hs,rfl⟩, ?_,nR.refl _ _ _,Tz.refl _⟩
 ·obtain⟨he,ha,RL,OL,UQ,QJ⟩:=abc hE fS.ok fS.sl (amz _ _ hk)
  have am3:PO E args r c1 w (BD (RL.map (·.v))) w':=
   ⟨mN σ' c' RL OL,UI fS.ok UQ,fS.gr.trans (MU fS.ok UQ),MV UQ.sm ha fS.ag,Qh UQ⟩
  rcases he with rfl|rfl<;>exact⟨fS.sl.df,_,QJ,am3⟩
 ·rcases Ht (args:=args) (n:=n)with ⟨x,h0,h⟩|h
  ·rw[h];obtain⟨v,hv,wK⟩:=QN n x h0;have:(Act.mk (vs++zy (F.ntmps-vs.size) undef) []).eval (.tmp n)=v:=by show(vs++zy (F.ntmps-vs.size) undef).getD n undef=v;have hn:=(dN.1 hv).1;rw[ed,Array.getElem?_append,bC hn,hv];rfl
   rw[this];exact wK
  ·rw[h];trivial
 ·simp;omega
theorem MY{P:cQ}{T:Tab}{g:aG}{spec:az eR->aD (aY×dM)}(h:∀args,spec args=ao):la P T g spec:=λargs r hr=>by rw[h]at hr;cases hr
end Go.FG

namespace Go.FG
structure pn where
 t:aG
 ti:TI
 fs:az (aG×aG)
def zx:az pn->aG->aD TI
 |[],_=>ao
 |r::rs,t=>bif bA t r.t then aj r.ti else zx rs t
def Cy:az pn->aG->aG->aD (aG×aG)
 |[],_,_=>ao
 |r::rs,t,f=>bif bA t r.t then(bif r.ti.agg then r.fs[f]? else ao)else Cy rs t f
def Ta(rows:az pn)(eqs:az aG):Tab:={ty:=zx rows,fo:=Cy rows,eqs:=eqs}
def zB:Ck->bg->aY
 | .i k, .int k' n=>decide (k'=k)&&decide (n=0)
 | .b, .bool x=> !x
 | .s, .string x=>decide (x.size=0)
 | .l _, .slice ao 0 0=>ak
 | .o, .nilIface=>ak
 |_,_=>aq
def zsB:az Ck->az bg->aY
 |[],[]=>ak
 |k::ks,v::vs=>zB k v&&zsB ks vs
 |_,_=>aq
def isAgg:bg->aY| .agg _=>ak|_=>aq
def vP(P:cQ)(n:aG):az Field->az (aG×aG)->aY
 |[],[]=>ak
 |f::r,(o,m)::l=>bA f.offset o&&(match P.info? f.type with|some i=>bA i.size m|none=>aq)&&pZ 0 m&&e9 (o+m) n&&vP P n r l
 |_,_=>aq
def qX:TypeDesc->aY| .struct _=>aq| .array _ _=>aq|_=>ak
def WL(P:cQ)(r:pn):aY:=
 match P.info? r.t,P.underlying r.t with
 |some inf,aj d=>bA inf.size r.ti.ks.length&&bA inf.bytes r.ti.bytes&&pZ 0 r.ti.ks.length&&
  (bif JO r.ti.ks then(match inf.zero with|some z=>zsB r.ti.ks z.cells.toList&&(!r.ti.agg||isAgg z)|none=>aq)else ak)&&
  (match d with
  | .struct fs=>r.ti.agg&&vP P r.ti.ks.length fs.toList r.fs
  | .int k=> !r.ti.agg&&pQ r.ti.ks [.i k]
  | .bool=> !r.ti.agg&&pQ r.ti.ks [.b]
  | .string=> !r.ti.agg&&pQ r.ti.ks [.s]
  | .slice e=> !r.ti.agg&&pQ r.ti.ks [.l e]
  |d=> !r.ti.agg&&pQ r.ti.ks [.o]&&qX d)
 |_,_=>aq
theorem aim{k:Ck}{v:bg}(h:zB k v=ak):v=ik k:=by
 cases k<;>cases v<;>simp_all [zB,ik]
 ·rfl
 ·rename_i a n c;cases a<;>cases n<;>cases c<;>simp_all
theorem Ty:∀{ks:az Ck} {vs:az bg},zsB ks vs=ak->vs=ks.map ik
 |[],[],_=>rfl
 |k::ks,v::vs,h=>by
  simp only[zsB,aK]at h;rw[aim h.1,Ty h.2];rfl
 |[],_::_,h=>by cases h
 |_::_,[],h=>by cases h
theorem aa2:∀{x y:Ck},ckB x y=ak->x=y:=by intro x y h;cases x<;>cases y<;>simp_all [ckB]
theorem nb:∀{a b:az Ck},pQ a b=ak->a=b
 |[],[],_=>rfl
 |x::a,y::b,h=>by
  simp only[pQ,aK]at h;rw[aa2 h.1,nb h.2]
 |[],_::_,h=>by cases h
 |_::_,[],h=>by cases h
theorem uS{P:cQ}{n:aG}:∀{fs:az Field} {l:az (aG×aG)},vP P n fs l=ak->
  fs.mapM (λf=>(P.info? f.type).map λi=>(f.offset,i.size))=aj l/\∀(f o m:aG),l[f]? =aj (o,m)->∃fd,fs[f]? =aj fd/\fd.offset=o/\(P.info? fd.type).map (·.size)=aj m/\m≠0/\o+m<=n
 |[],[],_=>⟨rfl,λf o m h=>by simp at h⟩
 |f::r,(o,m)::l,h=>by
  simp only[vP,aK]at h;obtain⟨⟨⟨⟨h1,h2⟩,h3⟩,h4⟩,h5⟩:=h;obtain⟨i1,i2⟩:=uS h5;have e1:=aW h1;cases hi:P.info? f.type with
  |none=>rw[hi]at h2;cases h2
  |some i=>
   rw[hi]at h2;have e2:i.size=m:=aW h2;have e3:0<m:=by simpa [zh]using h3
   have e4:=cC h4;refine⟨by simp[Ui,hi,i1,e1,e2],λg o' m' hg=> ?_⟩
   cases g with
   |zero=>cases hg;exact⟨f,rfl,e1,by rw[hi];exact ml aj e2,by omega,e4⟩
   |succ g=>exact i2 g o' m' hg
 |[],_::_,h=>by cases h
 |_::_,[],h=>by cases h
theorem H9:∀{rows:az pn} {t:aG} {ti:TI},zx rows t=aj ti->∃r∈rows,r.t=t/\r.ti=ti/\∀f,Cy rows t f=(bif r.ti.agg then r.fs[f]? else ao)
 |[],_,_,h=>by cases h
 |r::rs,t,ti,h=>by
  unfold zx at h;cases hb:bA t r.t with
  |true=>rw[hb]at h;cases h;exact⟨r,du ..,(aW hb).symm,rfl,λf=>by simp[Cy,hb]⟩
  |false=>rw[hb]at h;obtain⟨r',h1,h2,h3,h4⟩:=H9 (rows:=rs) h;exact⟨r',cU _ h1,h2,h3,λf=>by unfold Cy;rw[hb];exact h4 f⟩
theorem Lm:∀{rows:az pn} {t f:aG} {o n:aG},Cy rows t f=aj (o,n)->∃ti,zx rows t=aj ti/\ti.agg=ak
 |[],_,_,_,_,h=>by cases h
 |r::rs,t,f,o,n,h=>by
  unfold Cy at h;unfold zx;cases hb:bA t r.t with
  |true=>
   rw[hb]at h;refine⟨r.ti,rfl, ?_⟩
   cases ha:r.ti.agg with
   |true=>rfl
   |false=>rw[ha]at h;cases h
  |false=>rw[hb]at h;exact Lm (rows:=rs) h
def Fs(P:cQ):aG->az Ck->az Field->aY
 |_,[],[]=>ak
 |j,k::ks,f::fs=>f.name != "_" &&bA f.offset j&&(match P.underlying f.type,k with|some (.int q), .i q'=>decide (q=q')|some .bool, .b=>ak|some .string, .s=>ak|_,_=>aq)&&Fs P (j+1) ks fs
 |_,_,_=>aq
def XW(P:cQ)(rows:az pn)(t:aG):aY:=
 !P.eqGuardType P.depth t&& !P.stoodInHeld t&&(match zx rows t,P.underlying t with|some ti,aj (.struct fs)=>Fs P 0 ti.ks fs.toList|_,_=>aq)
theorem wj{P:cQ}{t:aG}{d:TypeDesc}(hd:P.underlying t=aj d)(hp:qX d=ak){cs:de bg}{j:aG}{v:bg}(hj:cs[j]? =aj v)(w:bF):(part t cs j).run P w= .ok v w:=by cases d<;>simp_all [part,Go.isAgg,run_underlying hd,qX]
theorem yR{P:cQ}(w:bF):∀(fs:az Field) (ks:az Ck) (pre JY xs ys:az AV) (r:aY),Fs P pre.length ks fs=ak->JY.length=pre.length->xs.map Fb=ks->ys.map Fb=ks->UH xs ys=aj r->
  (MB 9999 ((pre++xs).map lA).toArray ((JY++ys).map lA).toArray fs).run P w= .ok r w
 |[],[],pre,JY,xs,ys,r,_,_,hx,hy,he=>by
  have:xs=[]:=by simpa using hx
  subst this;have:ys=[]:=by simpa using hy
  subst this;cases he;rfl
 |f::fs,k::ks,pre,JY,x::xs,y::ys,r,h,hl,hx,hy,he=>by
  simp only[Fs,aK]at h;obtain⟨⟨⟨h1,h2⟩,h3⟩,h4⟩:=h;have h2:=aW h2;have h1:f.name≠ "_" :=by simpa using h1
  simp only[eW,XO]at hx hy;have gx:((pre++x::xs).map lA).toArray[f.offset]? =aj (lA x):=by rw[h2];simp
  have gy:((JY++y::ys).map lA).toArray[f.offset]? =aj (lA y):=by rw[h2,<-hl];simp
  have ih:=λr' he'=>yR w fs ks (pre++[x]) (JY++[y]) xs ys r' (by simpa using h4) (by simp[hl]) hx.2 hy.2 he';simp only[cj,tK]at ih
  have fin:∀{d:TypeDesc} {a b:bg} {q t:aY},P.underlying f.type=aj d->qX d=ak->lA x=a->lA y=b->(Op.equalIn 9999 f.type a b).run P w= .ok q w->UH xs ys=aj t->r=(q&&t)->
    (MB 9999 ((pre++x::xs).map lA).toArray ((JY++y::ys).map lA).toArray (f::fs)).run P w= .ok r w:=by
   intro d a b q t hd hp ha hb hq ht hr
   subst ha;subst hb;subst hr
   simp only[MB,bC h1,cg,wj hd hp gx w,wj hd hp gy w,bB,hq,mF]
   cases q with
   |false=>rfl
   |true=>simpa using ih t ht
  cases hu:P.underlying f.type with
  |none=>rw[hu]at h3;cases h3
  |some d=>
   rw[hu]at h3;cases x<;>cases y<;>simp only[UH]at he<;>try (cases he;done)
   ·rename_i k1 n1 k2 n2;split at he
    ·rename_i QC;subst QC;split at he
     ·rename_i t ht;cases he;have hk:k= .i k1:=hx.1.symm;subst hk;cases d<;>simp at h3;subst h3;exact fin hu rfl rfl rfl (run_equalIn_int w 9998 f.type _ _ _ _ hu) ht rfl
     ·cases he
    ·cases he
   ·split at he
    ·rename_i t ht;cases he;have hk:k= .b:=hx.1.symm;subst hk;cases d<;>simp at h3;exact fin hu rfl rfl rfl (run_equalIn_bool' w 9998 f.type _ _ hu) ht rfl
    ·cases he
   ·split at he
    ·rename_i t ht;cases he;have hk:k= .s:=hx.1.symm;subst hk;cases d<;>simp at h3;exact fin hu rfl rfl rfl (run_equalIn_string w 9998 f.type _ _ hu) ht rfl
    ·cases he
 |[],_::_,_,_,_,_,_,h,_,_,_,_=>by cases h
 |_::_,[],_,_,_,_,_,h,_,_,_,_=>by cases h
 |_::_,_::_,_,_,[],_,_,_,_,hx,_,_=>by cases hx
 |_::_,_::_,_,_,_::_,[],_,_,_,_,hy,_=>by cases hy
theorem aa6{P:cQ}{rows:az pn}{eqs:az aG}(h:rows.all (WL P)=ak)(h2:eqs.all (XW P rows)=ak):dZ P (Ta rows eqs):=by
 have key:∀t ti,zx rows t=aj ti->∃r,r.t=t/\r.ti=ti/\WL P r=ak/\∀f,Cy rows t f=(bif r.ti.agg then r.fs[f]? else ao):=λt ti ht=>by obtain⟨r,h1,h2,h3,h4⟩:=H9 ht;exact⟨r,h2,h3,bn.1 h r h1,h4⟩
 have open_:∀r,WL P r=ak->∃inf d,P.info? r.t=aj inf/\P.underlying r.t=aj d/\inf.size=r.ti.ks.length/\inf.bytes=r.ti.bytes/\0<r.ti.ks.length/\
   (JO r.ti.ks=ak->∃z,inf.zero=aj z/\z.cells.toList=r.ti.ks.map ik/\(r.ti.agg=ak->isAgg z=ak))/\
   ((∃fs,d= .struct fs/\r.ti.agg=ak/\vP P r.ti.ks.length fs.toList r.fs=ak)\/(r.ti.agg=aq/\((∃k,r.ti.ks=[.i k]/\d= .int k)\/(r.ti.ks=[.b]/\d= .bool)\/(r.ti.ks=[.s]/\d= .string)\/(∃e,r.ti.ks=[.l e]/\d= .slice e)\/(r.ti.ks=[.o]/\qX d=ak)))):=by
  intro r hr
  unfold WL at hr
  split at hr
  ·rename_i inf d h1 h2;simp only[aK]at hr;obtain⟨⟨⟨⟨k1,k2⟩,k3⟩,k4⟩,k5⟩:=hr;refine⟨inf,d,h1,h2,aW k1,aW k2,by simpa [zh]using k3,λhn=> ?_, ?_⟩
   ·rw[hn,ay]at k4;split at k4
    ·rename_i z hz;simp only[aK,dE,dD]at k4;exact⟨z,hz,Ty k4.1,λha=>by rcases k4.2 with h|h;(·rw[ha]at h;cases h);exact h⟩
    ·cases k4
   ·cases d<;>simp only[aK,dD]at k5;case struct fs=>exact .inl ⟨fs,rfl,k5⟩
    case int k=>exact .inr ⟨k5.1, .inl ⟨k,nb k5.2,rfl⟩⟩
    case bool=>exact .inr ⟨k5.1, .inr (.inl ⟨nb k5.2,rfl⟩)⟩
    case string=>exact .inr ⟨k5.1, .inr (.inr (.inl ⟨nb k5.2,rfl⟩))⟩
    case slice e=>exact .inr ⟨k5.1, .inr (.inr (.inr (.inl ⟨e,nb k5.2,rfl⟩)))⟩
    all_goals exact .inr ⟨k5.1.1, .inr (.inr (.inr (.inr ⟨nb k5.1.2,k5.2⟩)))⟩
  ·cases hr
 refine⟨λt ti ht=> ?_,λt ti ht=> ?_,λt f o n hf=>Lm hf,λt ti ht ha fs hu=> ?_,λt ti he ht w x y xs ys r hr hx hy=> ?_,λ_ _ h=>by cases h⟩
 ·obtain⟨r,rfl,rfl,hr,_⟩:=key t ti ht;obtain⟨inf,d,h1,h2,h3,h4,h5,h6,h7⟩:=open_ r hr;refine⟨inf,h1,h3,h4,h5,λhn=> ?_⟩
  obtain⟨z,z1,z2,z3⟩:=h6 hn;have hc:z.cells=(r.ti.ks.map ik).toArray:=by rw[<-z2]
  refine⟨z,z1,hc,λha=> ?_⟩
  have:=z3 ha;cases z<;>simp[isAgg]at this;rw[show _=_ from hc.symm];rfl
 ·obtain⟨r,rfl,rfl,hr,wI⟩:=key t ti ht;obtain⟨inf,d,h1,h2,h3,h4,h5,h6,h7⟩:=open_ r hr;refine⟨d,h2,λha=> ?_,λha=> ?_⟩
  ·rcases h7 with ⟨fs,rfl,_,hb⟩|⟨hn,_⟩
   ·refine⟨fs,rfl,λf o n hf=> ?_⟩
    have hf:Cy rows r.t f=aj (o,n):=hf;rw[wI,ha]at hf;obtain⟨fd,k1,k2⟩:=(uS hb).2 f o n hf;exact⟨fd,by simpa using k1,k2⟩
   ·rw[ha]at hn;cases hn
  ·rcases h7 with ⟨fs,_,hn,_⟩|⟨_,h|h|h|h|⟨h,hb⟩⟩
   ·rw[ha]at hn;cases hn
   ·exact .inl h
   ·exact .inr (.inl h)
   ·exact .inr (.inr (.inl h))
   ·exact .inr (.inr (.inr (.inl h)))
   ·refine .inr (.inr (.inr (.inr ⟨h, ?_⟩)));cases d<;>first|rfl|cases hb
 ·obtain⟨r,rfl,rfl,hr,wI⟩:=key t ti ht;obtain⟨inf,d,h1,h2,h3,h4,h5,h6,h7⟩:=open_ r hr;rw[h2]at hu;cases hu;rcases h7 with ⟨fs',he,_,hb⟩|⟨hn,_⟩
  ·cases he;refine⟨r.fs,(uS hb).1,λf o n hf=> ?_⟩
   have hf:Cy rows r.t f=aj (o,n):=hf;rw[wI,ha]at hf;exact hf
  ·rw[ha]at hn;cases hn
 ·have hm:t∈eqs:=by
   have:∀l:az aG,l_ t l=ak->t∈l:=by
    intro l;induction l with
    |nil=>intro h;cases h
    |cons a l ih=>
     intro h;simp only[l_,dE]at h;rcases h with h|h
     ·rw[aW h];exact du
     ·exact cU _ (ih h)
   exact this _ he
  have hb:=bn.1 h2 t hm;simp only[XW,aK,dD]at hb;obtain⟨⟨b1,b2⟩,b3⟩:=hb;rw[show zx rows t=aj ti from ht]at b3;cases hu:P.underlying t with
  |none=>rw[hu]at b3;cases b3
  |some d=>
   rw[hu]at b3;cases d<;>try (cases b3;done)
   rename_i fs;have wI:P.fieldsOf t=fs:=by unfold Program.fieldsOf;rw[hu]
   have rE:P.underlying t=aj (.struct (P.fieldsOf t)):=by rw[wI];exact hu
   have key:(Op.equalIn 10000 t (.agg (xs.map lA).toArray) (.agg (ys.map lA).toArray)).run P w= .ok r w:=by rw[run_equalIn_agg w 9999 t _ _ rE b2,wI];exact yR w fs.toList ti.ks [] [] xs ys r b3 rfl hx hy hr
   refine⟨?_, ?_⟩
   ·simp only[cg,run_eqGuard_agg w .eql t x y _ _ b1,bB,run_eql_struct,key]
   ·simp only[cg,run_eqGuard_agg w .neq t x y _ _ b1,bB,run_neq_struct,key]
def ahZ(rows:az pn)(eqs:az aG)(Qo:az (aG×aG)):Tab:={Ta rows eqs with Qo:=λt f=>Qo.any λp=>bA t p.1&&bA f p.2}
def flB(P:cQ)(p:aG×aG):aY:=
 match P.underlying p.1 with
 |some (.struct fs)=>(match fs[p.2]? with|some fd=>(match P.underlying fd.type with|some d=>qX d|none=>aq)|none=>aq)
 |_=>aq
theorem aaO{P:cQ}{t:aG}{d:TypeDesc}(h:P.underlying t=aj d)(hb:qX d=ak)(w:bF):(Go.isAgg t).run P w= .ok aq w:=by unfold Go.isAgg;rw[cg,run_underlying h,bB];cases d<;>first|rfl|cases hb
theorem UF{P:cQ}{rows:az pn}{eqs:az aG}{Qo:az (aG×aG)}(h:dZ P (Ta rows eqs))(hf:Qo.all (flB P)=ak):dZ P (ahZ rows eqs Qo):=by
 refine⟨h.info,h.desc,h.fo,h.pl,h.eq,λt f hq fs fd hu hd w=> ?_⟩
 obtain⟨p,hp,he⟩:=List.any_eq_true.1 (show(Qo.any λp=>bA t p.1&&bA f p.2)=ak from hq);rw[aK]at he;have hb:=bn.1 hf p hp;unfold flB at hb;rw[<-aW he.1,<-aW he.2,hu]at hb;dsimp only at hb;rw[hd]at hb;dsimp only at hb;split at hb
 ·rename_i d h2;exact aaO h2 hb w
 ·cases hb
end Go.FG

