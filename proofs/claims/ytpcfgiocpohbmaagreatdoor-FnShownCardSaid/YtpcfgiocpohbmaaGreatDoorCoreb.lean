/- An evaluator for the part of the language that this program uses, proved sound over the model: states told as values and lists; what an evaluation tells, the call does. No condition. -/
import Derived.Calls
import Derived.Orders
import Derived.Below
import Derived.Laws.AppendOwn
import Derived.Laws.Slices
import Derived.Laws.StructEq
import Derived.Laws.Tables
import Derived.Laws.MakeOwn
import Derived.Laws.IdiomStrings
import Derived.Laws.BytesArg
import Derived.Laws.NewFold
import Derived.SizedLaws
import Derived.Carry
import Derived.ProofKit
import Derived.KernelRfl
import Derived.Laws.Strings
import Derived.Sort.Grow
import Derived.Deep.Draws
import Derived.Test.YtpcfgiocpohbmaaGreatDoorCorea
set_option linter.unusedVariables false
set_option linter.unusedSimpArgs false
set_option maxRecDepth 100000
open Array renaming ext'->qK,length_toList->dm,getElem?_toList->cz,getElem?_eq_some_iff->c8,getElem?_extract->dF,getElem?_map->KF,getElem?_append_left->Bw,toList_map->xD,eq_empty_of_size_eq_zero->xC,getD_eq_getD_getElem?->dc,getElem?_replicate->Bx,replicate->xY
open Bool renaming true->aj,false->ao,and_eq_true->aJ,and_true->ig,false_eq_true->cN,not_eq_true'->dA,not_eq_false'->vx,or_eq_true->dq,and_false->El,not_false->bO,or_eq_false_iff->gD
open Go renaming Program->cC,World->bw,Oper->eD,Value->a7,IntKind->lU,Operand->cY
open Go.Act renaming put->Q3
open Go.Builtin renaming firstCells->fV,lenOf->rQ,append_->j4,zeroCells->fD
open Go.Exit renaming inBlock->Er
open Go.Instr renaming makeFunc->Q4,loadAt->vG,sureAddr->sr
open Go.IntKind renaming u8->a6
open Go.Op renaming eqFields->KG
open Go.Oper renaming wp->KH,upon_enter->Q5
open Go.Region renaming wanted->sM,binds->ll,ready->uf
open Go.Result renaming andThen_ok->bk
open Go.Sem renaming run_bind->bV,run_pure->cy,run->nv,run_ite->lO
open List renaming map_append->c7,map_cons->eF,map_nil->zb,mem_append->aX,mem_map->cD,mem_singleton->aW,mem_append_left->bL,mem_append_right->bE,getElem?_append_left->dx,getElem?_append_right->cT,length_append->bW,eq_nil_of_length_eq_zero->fj,mem_of_getElem?->aM,length_map->bM,getElem?_eq_some_iff->aP,mem_cons->b7,getElem?_of_mem->bQ,getElem_mem->bH,map_toArray->A3,mem_cons_self->cw,mem_cons_of_mem->cg,not_mem_nil->qE,getElem?_cons_succ->dr,mem_flatMap->bz,length_eq_one_iff->fW,getElem?_cons_zero->qC,flatMap_cons->vH,nodup_append->dQ,getElem?_map->bg,nodup_cons->jy,getD_eq_getElem?_getD->cM,nil_append->eR,all_eq_true->bf,map_map->jr,append_nil->dv,cons_append->mO,length_singleton->bu,head?_drop->Vb,range'->ml,length_cons->bU,getElem?_eq_none->jK,append_assoc->bY,take_append_of_le_length->AJ,take_length->d_,singleton_append->sC,length_nil->lP,getElem?_take->dU,countP_cons->j5,range->ej,find?_eq_none->RQ,find?_some->CG,length_set->dt,mem_or_eq_of_mem_set->iD,mem_filter->cJ,mapM_cons->RR,getD_cons_succ->s8
open List.cons renaming injEq->Va
open Nat renaming lt_of_lt_of_le->gC,mul_le_mul_right->cL,add_mul->dE,add_assoc->rR,eq_of_beq_eq_true->aN,le_refl->bR,zero_le->bC,div_lt_iff_lt_mul->Mg,mod_lt->IQ,mul_comm->KI,zero_add->bG,add_comm->ia,beq->bA,le_of_ble_eq_true->cf,add_zero->rS,blt->o9,blt_eq->xJ,sub_self->Ye,lt_or_ge->oM,le_trans->cm,ble_eq_true_of_le->GZ,ble->eG,sub_zero->Eh
open Option renaming some->ah,none->ai,getD_some->vJ
open Option.some renaming inj->aD,injEq->iF
open Prod.mk renaming inj->bF,injEq->ir
open _root_ renaming Nat->aG,Bool->aU,List->ax,if_pos->ba,if_neg->a_,absurd->b_,Array->cX,Int->ay,decide_eq_true_eq->aZ,Option->aA,cond_true->aw,cond_false->az,decide_eq_true->aE,decide_eq_false->aK,of_decide_eq_true->ca,congrArg->je
namespace Go.FG
section
variable {P:cC} {E:eL} {σ:St} {a:Act} {w:bw} {c:dZ} {o:eD} {nm:aG} {e:qQ}
structure GQ (E:eL) (σ:St) (w:bw) (c:dZ) (te:TI) (v:a7) (AK:aU) (xs:Row) (b:ax aG) (p:Pl) (g:aG->aG->Pl):Prop where
 v:v=mb p
 sz:p.sz=te.ks.length
 sh:∀y∈xs,y.map CV.kd=te.ks
 at_:ij w p xs (λi j u x=>if AK=aj then XC E w g i j u x else cK E w c.K u x)
 la:AK=aj->CF p g xs
 own:p.nil=ao->∃nm ob,nm∈b/\σ (cG nm)= .o ob/\eI c nm ob p.blk
 owni:AK=aj->∀i j,fC xs i j->(g i j).nil=ao->∃nm ob,nm∈b/\σ (cG nm)= .o ob/\eI c nm ob (g i j).blk
 kn:∀nm∈b,∃ob,σ (cG nm)= .o ob
def K1(σ:St)(c:dZ)(D:ax (aG×Obj))(q:aG):Prop:=c.K q\/∃n e xs ob,(n,Obj.eU e xs)∈D/\σ (cG n)= .o ob/\eI c n ob q
structure pR (E:eL) (σ:St) (w:bw) (c:dZ) (te:TI) (b:ax aG) (xS:aU) (ys:Row) (D:ax (aG×Obj)) (news:ax a7) (gx:aG->aG->Pl):Prop where
 sh:∀y∈ys,y.map CV.kd=te.ks
 cellX:xS=aj->∀(i:aG) (y:ax CV) (j:aG) (x:CV),ys[i]? =ah y->y[j]? =ah x->∃u:a7,news[i*te.ks.length+j]? =ah u/\XC E w gx i j u x
 cellH:xS=ao->∀(i:aG) (y:ax CV) (j:aG) (x:CV),ys[i]? =ah y->y[j]? =ah x->∃u:a7,news[i*te.ks.length+j]? =ah u/\cK E w (K1 σ c D) u x
 own:xS=aj->∀i j,fC ys i j->(gx i j).nil=ao->∃n ob,(n,Obj.dead)∈D/\σ (cG n)= .o ob/\eI c n ob (gx i j).blk
 one:xS=aj->∀i j i' j',fC ys i j->fC ys i' j'->(gx i j).nil=ao->(gx i' j').nil=ao->(gx i j).blk=(gx i' j').blk->i=i'/\j=j'
 D:∀n x,(n,x)∈D->n∉b/\(∃ob,σ (cG n)= .o ob)/\(x= .dead\/(xS=ao/\∃e xs,x= .eU e xs/\cK E w (K1 σ c D) (mb (c.P n)) (.l e xs)/\(c.P n).n=xs.length/\∃ti,E.ty e=ah ti/\(c.P n).sz=ti.ks.length))
theorem B1(hok:Ok E σ w c)(dg:eC E σ a w c)(hd:∀d,o.dst=ah d->d<a.tmps.size){ru el:aG}{te:TI}(ht:E.ty el=ah te)(hf:σ (cG ru)= .iN)(jj:ru<900000000)
  {v:a7} {AK xS:aU} {xs ys:Row} {b:ax aG} {p p':Pl} {g gx:aG->aG->Pl} {D2:ax (aG×Obj)} {news:ax a7} {w':bw}
  (hB:GQ E σ w c te v AK xs b p g) (hM:pR E σ w c te b xS ys D2 news gx) (hA:XH w w' p p' ys.length news) (hr:(execOp a.eval o).run P w= .ok (.value (mb p')) w'):
  fO P E σ a w c o (m7 b++(jh D2++[(cG ru,dS.o (.row el (AK&&xS) (xs++ys)))])++dw o (.v ao [.own ru])):=by
 have Y6:(AK&&xS)=aj->AK=aj/\xS=true:=λh=>by simpa using h
 generalize Y5:(AK&&xS)=KX at Y6;let D:ax (aG×Obj):=BR b++(D2++[(ru, .row el KX (xs++ys))])
 have hD:m7 b++(jh D2++[(cG ru,dS.o (.row el KX (xs++ys)))])=jh D:=by rw[zv];simp only[D,jh,c7,eF,zb]
 rw[hD];have mem:∀m x,(m,x)∈D->(m∈b/\x= .dead)\/(m,x)∈D2\/(m=ru/\x= .row el KX (xs++ys)):=by
  intro m x hm;rcases aX.1 hm with hm|hm
  ·obtain⟨q,hq,h⟩:=cD.1 hm;cases h;exact .inl ⟨hq,rfl⟩
  ·rcases aX.1 hm with hm|hm
   ·exact .inr (.inl hm)
   ·rw[aW]at hm;cases hm;exact .inr (.inr ⟨rfl,rfl⟩)
 have Jx:∀m,m∈b->sq D m:=λm hm=>⟨.dead,bL _ (cD.2 ⟨m,hm,rfl⟩)⟩
 have Oe:∀m x,(m,x)∈D2->sq D m:=λm x hm=>⟨x,bE _ (bL _ hm)⟩
 have acg:sq D ru:=⟨_,bE _ (bE _ (aW.2 rfl))⟩
 have F1:p'.nil=ao->p'.blk=w.heap.size\/∃m ob,m∈b/\σ (cG m)= .o ob/\eI c m ob p'.blk:=by
  intro hn;rcases hA.blk hn with ⟨h1,h2⟩|h
  ·rw[h2];exact .inr (hB.own h1)
  ·exact .inl h
 have Dne:∀n x ob q,(n,x)∈D2->σ (cG n)= .o ob->eI c n ob q->¬(p'.nil=ao/\q=p'.blk):=by
  rintro n x ob q hx mc oz ⟨hn,rfl⟩;have SQ:=vq.lt hok ⟨n,ob,mc,oz⟩;rcases F1 hn with h|⟨m,ob',h1,h2,h3⟩
  ·omega
  ·have:=hok.sep n ob m ob' _ mc h2 oz h3;subst this;exact(hM.D n x hx).1 h1
 have Kne:∀q,c.K q->¬(p'.nil=ao/\q=p'.blk):=by
  rintro q hq ⟨hn,rfl⟩;have SQ:=hok.lt _ hq;rcases F1 hn with h|⟨m,ob',h1,h2,h3⟩
  ·omega
  ·exact hok.kk m ob' _ h2 h3 hq
 have Gne:AK=aj->∀i j,fC xs i j->(g i j).nil=ao->¬(p'.nil=ao/\(g i j).blk=p'.blk):=by
  rintro hx i j hh hn ⟨jC,he⟩;obtain⟨m,ob,q1,q2,q3⟩:=hB.owni hx i j hh hn;have SQ:=vq.lt hok ⟨m,ob,q2,q3⟩;rcases hA.blk jC with ⟨h1,h2⟩|h
  ·exact(hB.la hx).out i j hh hn h1 (he.trans h2)
  ·omega
 let K':aG->Prop:=λq=>c.K q\/(KX=ao/\ja (sq D) σ c q/\¬(p'.nil=ao/\q=p'.blk))
 have abO:∀q,K' q->q<w.heap.size:=by
  rintro q (h|⟨_,h,_⟩)
  ·exact hok.lt q h
  ·exact vq.lt hok h.own
 have abP:∀q,K' q->¬(p'.nil=ao/\q=p'.blk):=by
  rintro q (h|⟨_,_,h⟩)
  ·exact Kne q h
  ·exact h
 have F3:∀q,K' q->w'.heap[q]? =w.heap[q]? :=λq hq=>hA.old q (abO q hq) (λhn he=>abP q hq ⟨hn,he⟩);have F4:KX=ao->∀q,K1 σ c D2 q->K' q:=by
  rintro hR q (h|⟨n,e',zs,ob,h1,h2,h3⟩)
  ·exact .inl h
  ·exact .inr ⟨hR,⟨n,ob,Oe n _ h1,h2,h3⟩,Dne n _ ob q h1 h2 h3⟩
 have F5:KX=ao->AK=aj->∀i j,fC xs i j->(g i j).nil=ao->K' (g i j).blk:=by intro hR hx i j hh hn;obtain⟨m,ob,q1,q2,q3⟩:=hB.owni hx i j hh hn;exact .inr ⟨hR,⟨m,ob,Jx m q1,q2,q3⟩,Gne hx i j hh hn⟩
 have F6:KX=ao->xS=aj->∀i j,fC ys i j->(gx i j).nil=ao->K' (gx i j).blk:=by intro hR hx i j hh hn;obtain⟨n,ob,q1,q2,q3⟩:=hM.own hx i j hh hn;exact .inr ⟨hR,⟨n,ob,Oe n _ q1,q2,q3⟩,Dne n _ ob _ q1 q2 q3⟩
 let G':aG->aG->Pl:=λi j=>if i<xs.length then g i j else gx (i-xs.length) j
 have G'l:∀i j,i<xs.length->G' i j=g i j:=λi j h=>ba h;have G'r:∀i j,¬i<xs.length->G' i j=gx (i-xs.length) j:=λi j h=>a_ h;have OA:∀i j,i<xs.length->fC (xs++ys) i j->fC xs i j:=by rintro i j hi ⟨y,x,h1,h2,h3⟩;rw[dx hi]at h1;exact⟨y,x,h1,h2,h3⟩
 have S6:∀i j,¬i<xs.length->fC (xs++ys) i j->fC ys (i-xs.length) j:=by rintro i j hi ⟨y,x,h1,h2,h3⟩;rw[cT (by omega)]at h1;exact⟨y,x,h1,h2,h3⟩
 let c':dZ:=⟨λm=>if m=ru then p' else c.P m,λm=>if m=ru then G' else c.G m,K'⟩
 have hP:c'.P ru=p':=ba rfl;have hG:c'.G ru=G':=ba rfl;have hAg:iH σ c c':=λm hm=>by
  have:m≠ru:=by rintro rfl;rcases hm with h|h;exact h hf;omega
  exact⟨a_ this,a_ this⟩
 have acW:KX=aj->∀i j,fC (xs++ys) i j->(G' i j).nil=ao->¬(p'.nil=ao/\(G' i j).blk=p'.blk)/\ja (sq D) σ c (G' i j).blk:=by
  intro hR i j hh hn;obtain⟨r1,r2⟩:=Y6 hR;by_cases hi:i<xs.length
  ·rw[G'l i j hi]at hn⊢;obtain⟨m,ob,q1,q2,q3⟩:=hB.owni r1 i j (OA i j hi hh) hn;exact⟨Gne r1 i j (OA i j hi hh) hn,m,ob,Jx m q1,q2,q3⟩
  ·rw[G'r i j hi]at hn⊢;obtain⟨n,ob,q1,q2,q3⟩:=hM.own r2 _ j (S6 i j hi hh) hn;exact⟨Dne n _ ob _ q1 q2 q3,n,ob,Oe n _ q1,q2,q3⟩
 have hlen:∀y∈xs++ys,y.map CV.kd=te.ks:=λy hy=>(aX.1 hy).elim (hB.sh y) (hM.sh y);refine Hw hok dg hd (D:=D) (c':=c') (w':=w') hAg ?_ ?_ ?_ ?_ (λq h=> .inl h) ?_ (λq hq=>gC (abO q hq) hA.size) ?_ hA.size hA.os hA.tape hA.output ?_ ?_ hr
 ·intro m x hm;rcases mem m x hm with ⟨_,rfl⟩|Zc|⟨rfl,rfl⟩
  ·trivial
  ·obtain⟨_,⟨ob,mc⟩,hx⟩:=hM.D m x Zc;rcases hx with rfl|⟨Rn,e',zs,rfl,q1,q2,q3⟩
   ·trivial
   ·have hR:KX=false:=by rw[<-Y5,Rn];simp
    obtain⟨a1,a2⟩:=hAg m (.inl (by rw[mc];simp));show cK E w' K' (mb (c'.P m)) _/\(c'.P m).n=_/\_;rw[a1];exact⟨q1.frame (λq hq=>F3 q (F4 hR q hq)) (F4 hR),q2,q3⟩
  ·refine⟨⟨te,ht,by rw[hP,hA.sz];exact hB.sz,hlen⟩, ?_,λhR=> ?_⟩
   ·rw[hP,hG];refine⟨by rw[hA.n,hB.at_.n,bW],λhn=> ?_,λhn=> ?_⟩
    ·obtain⟨n1,n2,n3⟩:=hA.nil hn;refine⟨?_,n1⟩
     have e1:xs.length=0:=by rw[<-hB.at_.n];exact n2
     rw[fj e1,fj n3];rfl
    ·obtain⟨jo,m1,m2,m3,m4,m5,m6⟩:=hA.mem hn;refine⟨jo,m1,m2,m3,m4,λi y j x hy hx=> ?_⟩
     have hj:j<te.ks.length:=by rw[<-hlen y (aM hy),bM];exact(aP.1 hx).1
     by_cases hi:i<xs.length
     ·rw[dx hi]at hy;have hpn:p.nil=false:=by
       cases hq:p.nil with
       |false=>rfl
       |true=>have:=(hB.at_.nil hq).1;subst this;simp at hi
      obtain⟨vals,k1,k2,k3,k4,k5⟩:=hB.at_.mem hpn;obtain⟨u,hu,hR⟩:=k5 i y j x hy hx;have hk:i*p.sz+j<p.n*p.sz:=by have:(i+1)*p.sz<=p.n*p.sz:=cL _ (by rw[hB.at_.n];exact hi);rw[dE]at this;rw[hB.sz]at this⊢;omega
      refine⟨u, ?_, ?_⟩
      ·rw[hA.sz,rR];refine m5 _ u hk ?_;rw[k1.cell,<-rR];exact hu
      ·cases Zo:AK with
       |true=>
        rw[Zo,ba rfl]at hR;cases S0:KX with
        |true=>
         rw[ba rfl];have Rm:XC E w' g i j u x:=hR.frame (λhl jC=>hA.old _ (by obtain⟨m,ob,_,q2,q3⟩:=hB.owni Zo i j ⟨y,x,hy,hx,hl⟩ jC;exact vq.lt hok ⟨m,ob,q2,q3⟩) (λZh he=>Gne Zo i j ⟨y,x,hy,hx,hl⟩ jC ⟨Zh,he⟩));cases x with
         |l e1 z1=>simpa only[XC,G'l i j hi]using Rm
         |_=>exact Rm
        |false=>rw[a_ (by simp)];have:=rN (K:=K') hR (λhl jC=>F5 S0 Zo i j ⟨y,x,hy,hx,hl⟩ jC);exact this.frame F3 (λ_ h=>h)
       |false=>
        have S0:KX=false:=by rw[<-Y5,Zo];rfl
        rw[Zo,a_ (by simp)]at hR;rw[S0,a_ (by simp)];exact hR.frame (λq hq=>F3 q (.inl hq)) (λq hq=> .inl hq)
     ·rw[cT (by omega)]at hy;have GD:i-xs.length<ys.length:=(aP.1 hy).1;have hk:(i-xs.length)*p.sz+j<ys.length*p.sz:=by have:(i-xs.length+1)*p.sz<=ys.length*p.sz:=cL _ GD;rw[dE]at this;rw[hB.sz]at this⊢;omega
      have aj0:p'.off+i*p'.sz+j=p'.off+p.n*p.sz+((i-xs.length)*p.sz+j):=by
       rw[hA.sz,hB.at_.n];have:i*p.sz=xs.length*p.sz+(i-xs.length)*p.sz:=by rw[<-dE];congr 1;omega
       omega
      have got:∀u,news[(i-xs.length)*te.ks.length+j]? =ah u->jo[p'.off+i*p'.sz+j]? =ah u:=λu hu=>by rw[aj0,m6 _ hk,hB.sz];exact hu
      cases Rn:xS with
      |true=>
       obtain⟨u,hu,hX⟩:=hM.cellX Rn _ y j x hy hx;refine⟨u,got u hu, ?_⟩
       cases S0:KX with
       |true=>
        rw[ba rfl];have Rm:XC E w' gx (i-xs.length) j u x:=hX.frame (λhl jC=>hA.old _ (by obtain⟨n,ob,_,q2,q3⟩:=hM.own Rn _ j ⟨y,x,hy,hx,hl⟩ jC;exact vq.lt hok ⟨n,ob,q2,q3⟩) (λZh he=>by obtain⟨n,ob,q1,q2,q3⟩:=hM.own Rn _ j ⟨y,x,hy,hx,hl⟩ jC;exact Dne n _ ob _ q1 q2 q3 ⟨Zh,he⟩));cases x with
        |l e1 z1=>simpa only[XC,G'r i j hi]using Rm
        |_=>exact Rm
       |false=>rw[a_ (by simp)];have:=rN (K:=K') hX (λhl jC=>F6 S0 Rn _ j ⟨y,x,hy,hx,hl⟩ jC);exact this.frame F3 (λ_ h=>h)
      |false=>
       have S0:KX=false:=by rw[<-Y5,Rn];simp
       obtain⟨u,hu,hH⟩:=hM.cellH Rn _ y j x hy hx;refine⟨u,got u hu, ?_⟩
       rw[S0,a_ (by simp)];exact hH.frame (λq hq=>F3 q (F4 S0 q hq)) (F4 S0)
   ·rw[hP,hG];refine⟨λi j hh hn hpn he=>(acW hR i j hh hn).1 ⟨hpn,he⟩,λi j i' j' hh tV hn jC he=> ?_⟩
    obtain⟨r1,r2⟩:=Y6 hR;have Vj:∀i j i' j',i<xs.length->¬i'<xs.length->fC (xs++ys) i j->fC (xs++ys) i' j'->(G' i j).nil=ao->(G' i' j').nil=ao->(G' i j).blk≠(G' i' j').blk:=by intro i j i' j' hi j_ hh tV hn jC he;rw[G'l i j hi]at hn he;rw[G'r i' j' j_]at jC he;obtain⟨m,ob,q1,q2,q3⟩:=hB.owni r1 i j (OA i j hi hh) hn;obtain⟨n,ob',s1,s2,s3⟩:=hM.own r2 _ j' (S6 i' j' j_ tV) jC;rw[he]at q3;have:=hok.sep m ob n ob' _ q2 s2 q3 s3;subst this;exact(hM.D m _ s1).1 q1
    by_cases hi:i<xs.length
    ·by_cases j_:i'<xs.length
     ·rw[G'l i j hi]at hn he;rw[G'l i' j' j_]at jC he;exact(hB.la r1).one i j i' j' (OA i j hi hh) (OA i' j' j_ tV) hn jC he
     ·exact b_ he (Vj i j i' j' hi j_ hh tV hn jC)
    ·by_cases j_:i'<xs.length
     ·exact b_ he.symm (Vj i' j' i j j_ hi tV hh jC hn)
     ·rw[G'r i j hi]at hn he;rw[G'r i' j' j_]at jC he;have:=hM.one r2 _ j _ j' (S6 i j hi hh) (S6 i' j' j_ tV) hn jC he;exact⟨by omega,this.2⟩
 ·intro m x q hm oz;rcases mem m x hm with ⟨_,rfl⟩|Zc|⟨rfl,rfl⟩
  ·exact oz.elim
  ·obtain⟨_,_,hx⟩:=hM.D m x Zc;rcases hx with rfl|⟨_,e',zs,rfl,_⟩
   ·exact oz.elim
   ·exact oz.elim
  ·rcases oz with ⟨hn,rfl⟩|⟨hR,i,j,hh,hn,rfl⟩
   ·rw[hP]at hn⊢;refine⟨?_,λhk=>abP _ hk ⟨hn,rfl⟩⟩
    rcases F1 hn with h|⟨m,ob,h1,h2,h3⟩
    ·right;omega
    ·exact .inl ⟨m,ob,Jx m h1,h2,h3⟩
   ·rw[hG]at hn⊢;obtain⟨q1,q2⟩:=acW hR i j hh hn;refine⟨.inl q2, ?_⟩
    rintro (h|⟨h,_⟩)
    ·exact hok.HU q2.own h
    ·rw[hR]at h;cases h
 ·intro m x m' x' q hm uJ oz Og;have only:∀m x,(m,x)∈D->eI c' m x q->m=ru:=by
   intro m x hm oz;rcases mem m x hm with ⟨_,rfl⟩|Zc|⟨rfl,rfl⟩
   ·exact oz.elim
   ·obtain⟨_,_,hx⟩:=hM.D m x Zc;rcases hx with rfl|⟨_,e',zs,rfl,_⟩
    ·exact oz.elim
    ·exact oz.elim
   ·rfl
  rw[only m x hm oz,only m' x' uJ Og]
 ·intro m zs hm;rcases mem m _ hm with ⟨_,h⟩|Zc|⟨_,h⟩
  ·cases h
  ·obtain⟨_,_,hx⟩:=hM.D m _ Zc;rcases hx with h|⟨_,e',zs,h,_⟩<;>cases h
  ·cases h
 ·rintro q (h|⟨_,h,_⟩)
  ·exact .inl h
  ·exact .inr (.inl h)
 ·intro q hq Oi;refine hA.old q hq (λhn he=>Oi ?_);rcases F1 hn with h|⟨m,ob,h1,h2,h3⟩
  ·omega
  ·rw[he];exact⟨m,ob,Jx m h1,h2,h3⟩
 ·show _=mb (c'.P ru);rw[hP]
 ·intro m hm;have:m=ru:=by simpa [b8,bm]using hm
  subst this;exact .inr acg
end
end Go.FG

namespace Go.FG
theorem FK:∀{l:ax aG} {n:aG},n∈l->ld n l=true:=by
 intro l;induction l with
 |nil=>intro n h;cases h
 |cons m r ih=>
  intro n h;rcases b7.1 h with rfl|h
  ·simp[ld]
  ·simp only[ld,ih h,Bool.or_true]
theorem oX{l:ax aG}{n:aG}(h:ld n l=ao):n∉l:=λhm=>by rw[FK hm]at h;cases h
theorem cK.one{E:eL}{w:bw}{K:aG->Prop}{u:a7}{x:CV}(h:cK E w K u x):u.oneCell'=true:=by cases h<;>rfl
theorem SG(p:Pl):(mb p).oneCell'=true:=by unfold mb;split<;>rfl
theorem XC.one{E:eL}{w:bw}{G:aG->aG->Pl}{i j:aG}{u:a7}{x:CV}(h:XC E w G i j u x):u.oneCell'=true:=by
 cases x with
 |l e ys=>rw[h.1];exact SG _
 |i=>rw[show u=_ from h.1];rfl
 |b=>rw[show u=_ from h.1];rfl
 |s=>rw[show u=_ from h.1];rfl
theorem Qd{x:CV}:(L5 x).oneCell'=true:=by cases x<;>rfl
theorem ur{α:Type}{b:aU}{x y:Rd α}(h:b=aj):(bif b then x else y)=x:=by rw[h];rfl
theorem BO{α:Type}{b:aU}{x y:Rd α}(h:b=ao):(bif b then x else y)=y:=by rw[h];rfl
theorem qJ{α β γ:Type}{σ:St}{a x:α}{b y:β}{c z:γ}(h:(Rd.ret (a,b,c)).val σ=ah (x,y,z)):a=x/\b=y/\c=z:=by obtain⟨h1,h2⟩:=bF (aD h);obtain⟨h2,h3⟩:=bF h2;exact⟨h1,h2,h3⟩
section
variable {P:cC} {E:eL} {σ:St} {a:Act} {w:bw} {c:dZ} {o:eD} {nm:aG} {e:qQ}
theorem zo(hok:Ok E σ w c){el:aG}{te:TI}(ht:E.ty el=ah te){s:AV}{v:a7}(hs:dN E w c s v){AK:aU}{xs:Row}{b:ax aG}(h:(uq el s).val σ=ah (AK,xs,b)):
  ∃p g,GQ E σ w c te v AK xs b p g:=by
 have adh:∀b,(∀m∈b,∃ob,σ (cG m)= .o ob)->v= .slice ai 0 0->∀AK,GQ E σ w c te v AK [] b ⟨aj,0,0,0,0,te.ks.length⟩ (HR E te.ks):=λb hb hv AK=>
  ⟨hv,rfl,λy hy=>(by cases hy),⟨rfl,λ_=>⟨rfl,rfl⟩,λh=>(by cases h)⟩,λ_=>tC (λ_ _=>rfl),λh=>(by cases h),λ_ i j ⟨y,x,h,_⟩=>(by simp at h),hb⟩
 cases s with
 |nl=>obtain⟨rfl,rfl,rfl⟩:=qJ h;exact⟨_,_,adh [] (λm hm=>by cases hm) hs aj⟩
 |own n=>
  obtain⟨ob,hg,h⟩:=Rd.bind_some h;have hg:=cW hg;cases ob with
  |row e' ex ys=>obtain⟨h1,h9⟩:=b9 h;have:=aN h1;subst this;have h:=h9;obtain⟨rfl,rfl,rfl⟩:=qJ h;obtain⟨⟨t2,q1,q2,q3⟩,q4,q5⟩:=hok.obj n _ hg;obtain rfl:te=t2:=aD (ht.symm.trans q1);exact⟨c.P n,c.G n,hs,q2,q3,q4,q5,λhn=>⟨n,_,by simp,hg, .inl ⟨hn,rfl⟩⟩,λhx i j hh hn=>⟨n,_,by simp,hg, .inr ⟨hx,i,j,hh,hn,rfl⟩⟩,λm hm=>by rw[aW]at hm;subst hm;exact⟨_,hg⟩⟩
  |_=>simp at h
 |vw n lo hi=>
  obtain⟨ob,hg,h⟩:=Rd.bind_some h;have hg:=cW hg;cases ob with
  |row e' ex ys=>
   obtain⟨h1,h9⟩:=b9 h;have:=aN h1;subst this;have h:=h9;obtain⟨rfl,rfl,rfl⟩:=qJ h;obtain⟨⟨t2,q1,q2,q3⟩,q4,q5⟩:=hok.obj n _ hg;obtain rfl:te=t2:=aD (ht.symm.trans q1);obtain⟨v1,v2,v3,v4⟩:=hs;have hle:hi<=ys.length:=by rw[<-q4.n];exact v2
   have hvl:=kV (xs:=ys) (lo:=lo) hle;have hb:∀m∈[n],∃ob,σ (cG m)= .o ob:=λm hm=>by rw[aW]at hm;subst hm;exact⟨_,hg⟩
   cases hq:(c.P n).nil with
   |true=>
    have hy:=(q4.nil hq).1;subst hy;have Mo:dR ([]:Row) lo hi=[]:=by unfold dR;simp
    rw[Mo];exact⟨_,_,adh [n] hb (v3 hq) ex⟩
   |false=>
    obtain⟨vals,k1,k2,k3,k4,k5⟩:=q4.mem hq;rcases v4 hq with ⟨u1,hv⟩|⟨u1,oo,u2,hv⟩
    ·have S5:∀i j,fC (dR ys lo hi) i j->fC ys (lo+i) j:=by
      rintro i j ⟨y,x,h1,h2,h3⟩;rw[rL]at h1;split at h1
      ·exact⟨y,x,h1,h2,h3⟩
      ·cases h1
     refine⟨⟨ao,(c.P n).blk,(c.P n).off+lo*(c.P n).sz,(c.P n).cap-lo,hi-lo,(c.P n).sz⟩,λi j=>c.G n (lo+i) j,hv,q2,λy hy=>q3 y (zW hy),⟨hvl.symm,λh=>(by cases h),λ_=>⟨vals,k1,by show hi-lo<=(c.P n).cap-lo;omega,by show(c.P n).cap-lo<=maxLen;omega, ?_,λi y j x h1 h2=> ?_⟩⟩,λhx=>⟨λi j hh hn _=>(q5 hx).out _ j (S5 i j hh) hn hq,λi j i' j' hh tV hn jC he=> ?_⟩,λ_=>⟨n,_,by simp,hg, .inl ⟨hq,rfl⟩⟩,λhx i j hh hn=>⟨n,_,by simp,hg, .inr ⟨hx,lo+i,j,S5 i j hh,hn,rfl⟩⟩,hb⟩
     ·show(c.P n).off+lo*(c.P n).sz+((c.P n).cap-lo)*(c.P n).sz<=vals.size;have:lo*(c.P n).sz+((c.P n).cap-lo)*(c.P n).sz=(c.P n).cap*(c.P n).sz:=by rw[<-dE];congr 1;omega
      omega
     ·rw[rL]at h1;split at h1
      ·obtain⟨u,hu,hr⟩:=k5 (lo+i) y j x h1 h2;refine⟨u, ?_, ?_⟩
       ·show vals[(c.P n).off+lo*(c.P n).sz+i*(c.P n).sz+j]? =ah u;rw[<-hu];congr 1;rw[dE];omega
       ·split at hr
        ·rename_i hx;rw[ba hx];cases x with
         |l e1 z1=>exact hr
         |_=>exact hr
        ·rename_i hx;rw[a_ hx];exact hr
      ·cases h1
     ·have:=(q5 hx).one _ j _ j' (S5 i j hh) (S5 i' j' tV) hn jC he;exact⟨by omega,this.2⟩
    ·have h0:hi-lo=0:=by omega
     have Mo:dR ys lo hi=[]:=fj (hvl.trans h0);rw[Mo];exact⟨⟨ao,(c.P n).blk,oo,0,0,(c.P n).sz⟩,HR E te.ks,hv,q2,λy hy=>(by cases hy),⟨rfl,λh=>(by cases h),λ_=>⟨vals,k1,bR _,bC _,by show oo+0*(c.P n).sz<=vals.size;rw[Nat.zero_mul];omega,λi y j x h=>(by simp at h)⟩⟩,λ_=>tC (λ_ _=>rfl),λ_=>⟨n,_,by simp,hg, .inl ⟨hq,rfl⟩⟩,λ_ i j ⟨y,x,h,_⟩=>(by simp at h),hb⟩
  |_=>simp at h
 |_=>simp[uq]at h
theorem p6{u:aG}(hu:(∃e',P.underlying u=ah (.slice e'))\/P.underlying u=ah .string){z:cX a7}{v:a7}{ys:Row}{ks:ax Ck}(me:0<ks.length){R:aG->aG->a7->CV->Prop}(hs:mZ w v ys ks.length R)(jI:∀y∈ys,y.map CV.kd=ks)(h1:∀i j u x,R i j u x->u.oneCell'=aj):
  ∃news,App P w u v z ks.length ys.length news/\∀(i:aG) (y:ax CV) (j:aG) (x:CV),ys[i]? =ah y->y[j]? =ah x->∃u:a7,news[i*ks.length+j]? =ah u/\R i j u x:=by
 have hl:∀y∈ys,y.length=ks.length:=λy hy=>by rw[<-jI y hy];simp
 obtain⟨A,cp,news,rfl,n1,n2,n3⟩:=hs.list hl;have first:∀W:bw,(∀q,W.cell? q=w.cell? q)->(fV ks.length ys.length (.slice A ys.length cp)).run P W= .ok news.toArray W:=by
  intro W hW;rcases n2 with h|⟨b,oo,rfl,h⟩
  ·subst h;have hn:news=[]:=fj (by rw[n1];simp);subst hn;cases A with
   |none=>exact run_firstCells_none _ _ _ _ _
   |some a=>exact run_firstCells_some W ks.length 0 a _ _ [] (by simp) (λj v hj=>by simp at hj)
  ·exact run_firstCells_some W ks.length ys.length _ _ _ news n1 (λj v hj=>by rw[hW,Addr.mT];exact h j v hj)
 refine⟨news,⟨.inl ⟨hu,by simp[rQ],first w (λ_=>rfl),first w.drew (λ_=>rfl)⟩,n1,λv hv=> ?_⟩,n3⟩
 obtain⟨q,hq⟩:=bQ hv;have SQ:q<ys.length*ks.length:=by rw[<-n1];exact(aP.1 hq).1
 have hi:q/ks.length<ys.length:=by rw[Mg me];exact SQ
 have hj:q%ks.length<ys[q/ks.length].length:=by rw[hl _ (bH hi)];exact IQ _ me
 obtain⟨u',qx,hr⟩:=n3 (q/ks.length) ys[q/ks.length] (q%ks.length) (ys[q/ks.length][q%ks.length]) (by simp[hi]) (by simp[hj]);have:q/ks.length*ks.length+q%ks.length=q:=by have:=Nat.div_add_mod q ks.length;rw[KI]at this;exact this
 rw[this,hq]at qx;cases qx;exact h1 _ _ _ _ hr
theorem O3(hE:dP P E)(hok:Ok E σ w c){ru el:aG}{te:TI}(ht:E.ty el=ah te)(me:0<te.ks.length){u:aG}(hu:(∃e',P.underlying u=ah (.slice e'))\/P.underlying u=ah .string){z:cX a7}{b:ax aG}{x:AV}{v:a7}(hx:dN E w c x v)
  {xS:aU} {ys:Row} {w2:ax (aG×dS)} (h:(O2 E ru el te.ks b x).val σ=ah (xS,ys,w2)):
  ∃D news gx,w2=jh D/\App P w u v z te.ks.length ys.length news/\pR E σ w c te b xS ys D news gx:=by
 have inK:∀D q,c.K q->K1 σ c D q:=λD q h=> .inl h;have PL:plain te.ks=aj->∀ys,mZ w v ys te.ks.length (λ_ _ u x=>Sc u x)->(∀y∈ys,y.map CV.kd=te.ks)->∃D news gx,([]:ax (aG×dS))=jh D/\App P w u v z te.ks.length ys.length news/\pR E σ w c te b aj ys D news gx:=by
  intro hp ys hs jI;obtain⟨news,n1,n2⟩:=p6 (P:=P) (z:=z) hu me hs jI (λi j u x hr=>by rw[hr.1];exact Qd);refine⟨[],news,λ_ _=>⟨aj,0,0,0,0,0⟩,rfl,n1,jI,λ_ i y j x hy hx=> ?_,λh=>(by cases h),λ_ i j _ hn=>(by cases hn),λ_ i j _ _ _ _ hn=>(by cases hn),λn x hn=>(by cases hn)⟩
  obtain⟨u,hu,hr⟩:=n2 i y j x hy hx;exact⟨_,hu,u9 (g9 hp (jI y (aM hy)) hx) hr⟩
 have PLr:plain te.ks=aj->∀ys,(kY E x).val σ=ah (el,ys)->∃D news gx,([]:ax (aG×dS))=jh D/\App P w u v z te.ks.length ys.length news/\pR E σ w c te b aj ys D news gx:=by intro hp ys hr;obtain⟨q1,q2,_⟩:=w_ hok hx hr ht hp;exact PL hp ys q1 q2
 have SH:∀ys,mZ w v ys te.ks.length (λ_ _ u x=>cK E w c.K u x)->(∀y∈ys,y.map CV.kd=te.ks)->∃D news gx,([]:ax (aG×dS))=jh D/\App P w u v z te.ks.length ys.length news/\pR E σ w c te b ao ys D news gx:=by
  intro ys hs jI;obtain⟨news,n1,n2⟩:=p6 (P:=P) (z:=z) hu me hs jI (λi j u x hr=>hr.one);refine⟨[],news,λ_ _=>⟨aj,0,0,0,0,0⟩,rfl,n1,jI,λh=>(by cases h),λ_ i y j x hy hx=> ?_,λh=>(by cases h),λh=>(by cases h),λn x hn=>(by cases hn)⟩
  obtain⟨u,hu,hr⟩:=n2 i y j x hy hx;exact⟨_,hu,hr.frame (λ_ _=>rfl) (inK [])⟩
 have SHv:∀ys,cK E w c.K v (.l el ys)->∃D news gx,([]:ax (aG×dS))=jh D/\App P w u v z te.ks.length ys.length news/\pR E σ w c te b ao ys D news gx:=by intro ys hh;obtain⟨q1,q2⟩:=Cq ht hh;exact SH ys q1 q2
 have HP:∀ys,cK E w c.K v (.l el ys)->(kY E x).val σ=ah (el,ys)->∃D news gx,([]:ax (aG×dS))=jh D/\App P w u v z te.ks.length ys.length news/\pR E σ w c te b (plain te.ks) ys D news gx:=by
  intro ys hh hr;cases hp:plain te.ks with
  |true=>exact PLr hp ys hr
  |false=>exact SHv ys hh
 have FZ:∀n xs lo hi,σ (cG n)= .o (.row el aj xs)->n∉b->tn (c.P n) lo hi v->∃D news gx,[(cG n,dS.o (.eU el xs))]=jh D/\App P w u v z te.ks.length (dR xs lo hi).length news/\pR E σ w c te b ao (dR xs lo hi) D news gx:=by
  intro n xs lo hi hg Vx hv;obtain⟨⟨t2,q1,q2,q3⟩,q4,q5⟩:=hok.obj n _ hg;obtain rfl:te=t2:=aD (ht.symm.trans q1);obtain⟨t3,r1,r2,r3⟩:=uZ hok hg hv;obtain rfl:te=t3:=aD (ht.symm.trans r1);let D:ax (aG×Obj):=[(n, .eU el xs)]
  have kin:∀i j,fC xs i j->(c.G n i j).nil=ao->K1 σ c D (c.G n i j).blk:=λi j hh hn=> .inr ⟨n,el,xs,_,aW.2 rfl,hg, .inr ⟨rfl,i,j,hh,hn,rfl⟩⟩;have fN:ij w (c.P n) xs (λ_ _ u x=>cK E w (K1 σ c D) u x):=q4.frame (λ_=>rfl) (λi j y x u hy hx hr=>by rw[ba rfl]at hr;exact rN hr (λhl hn=>kin i j ⟨y,x,hy,hx,hl⟩ hn));have Lm:mZ w v (dR xs lo hi) te.ks.length (λ_ _ u x=>cK E w (K1 σ c D) u x):=by have:=Ii fN hv;rwa[q2]at this
  obtain⟨news,n1,n2⟩:=p6 (P:=P) (z:=z) hu me Lm r2 (λi j u x hr=>hr.one);refine⟨D,news,λ_ _=>⟨aj,0,0,0,0,0⟩,rfl,n1,r2,λh=>(by cases h),λ_=>n2,λh=>(by cases h),λh=>(by cases h),λm y hm=> ?_⟩
  rw[aW]at hm;cases hm;exact⟨Vx,⟨_,hg⟩, .inr ⟨rfl,el,xs,rfl,mH ht q2 q3 fN (λhn=> .inr ⟨n,el,xs,_,aW.2 rfl,hg, .inl ⟨hn,rfl⟩⟩),q4.n,te,ht,q2⟩⟩
 cases x with
 |s s=>
  obtain⟨h1,h⟩:=b9 h;obtain⟨rfl,rfl,rfl⟩:=qJ h;have hk:te.ks=[.i .u8]:=by
   unfold Z_ at h1;split at h1
   ·assumption
   ·cases h1
  have hv:v= .string s:=hx.1;subst hv;refine⟨[],(s.data.map λb=>Value.int .u8 b.toNat).toList,λ_ _=>⟨aj,0,0,0,0,0⟩,rfl,⟨.inl ⟨hu, ?_, ?_, ?_⟩, ?_, ?_⟩,by rw[hk];exact F8 s,λ_ i y j x hy hx=> ?_,λh=>(by cases h),λ_ i j _ hn=>(by cases hn),λ_ i j _ _ _ _ hn=>(by cases hn),λn x hn=>(by cases hn)⟩
  ·simp[rQ,kG]
  ·simp[fV,kG];apply qK;simp
  ·simp[fV,kG];apply qK;simp
  ·rw[hk,kG];simp
  ·intro v hv;have hv:∃b,b∈s.data/\Value.int a6 (b.toNat:ay)=v:=by simpa using hv
   obtain⟨b,_,rfl⟩:=hv;rfl
  ·obtain⟨rfl,b,hb,rfl⟩:=DY hy hx;refine⟨.int .u8 b.toNat, ?_,rfl,trivial⟩
   rw[hk];simp[hb]
 |nl=>obtain⟨rfl,rfl,rfl⟩:=qJ h;have hv:v= .slice ai 0 0:=hx;subst hv;refine⟨[],[],λ_ _=>⟨aj,0,0,0,0,0⟩,rfl,⟨.inl ⟨hu,by simp[rQ],run_firstCells_none _ _ _ _ _,run_firstCells_none _ _ _ _ _⟩,by simp,λv hv=>(by cases hv)⟩,λy hy=>(by cases hy),λ_ i y j x hy=>(by simp at hy),λh=>(by cases h),λ_ i j _ hn=>(by cases hn),λ_ i j _ _ _ _ hn=>(by cases hn),λn x hn=>(by cases hn)⟩
 |sh e' xs=>obtain⟨h1,h9⟩:=b9 h;have:=aN h1;subst this;have h:=h9;obtain⟨rfl,rfl,rfl⟩:=qJ h;exact HP xs hx rfl
 |own n=>
  obtain⟨ob,hg,h⟩:=Rd.bind_some h;have hg:=cW hg;have hv:v=mb (c.P n):=hx;cases ob with
  |row e' ex xs=>
   obtain⟨h1,h9⟩:=b9 h;have:=aN h1;subst this;have h:=h9;have JA:(kY E (.own n)).val σ=ah (el,xs):=by simp[kY,iy,hg]
   have hvw:tn (c.P n) 0 xs.length v:=by rw[hv];exact tM hok hg
   cases hp:plain te.ks with
   |true=>rw[ur (by rw[hp];rfl)]at h;obtain⟨rfl,rfl,rfl⟩:=qJ h;rw[hp];exact PLr hp xs JA
   |false=>
    cases ex with
    |false=>rw[ur (by simp)]at h;obtain⟨rfl,rfl,rfl⟩:=qJ h;rw[hp];obtain⟨t3,r1,r2,r3⟩:=uZ hok hg hvw;obtain rfl:te=t3:=aD (ht.symm.trans r1);rw[pF]at r2 r3;exact SH xs (r3.imp λi y j x u _ _ hr=>by simpa using hr) r2
    |true=>
     rw[BO (by rw[hp];rfl)]at h;cases hm:ld n b with
     |true=>rw[hm]at h;simp at h
     |false=>
      have Vx:=oX hm;rw[hm]at h;cases DA:E.tk ru with
      |true=>rw[DA]at h;obtain⟨rfl,rfl,rfl⟩:=qJ h;have:=FZ n xs 0 xs.length hg Vx hvw;rwa[pF]at this
      |false=>
       rw[DA]at h;obtain⟨rfl,rfl,rfl⟩:=qJ h;obtain⟨t3,r1,r2,r3⟩:=uZ hok hg hvw;obtain rfl:te=t3:=aD (ht.symm.trans r1);rw[pF]at r2 r3;have r3':=r3.imp (R':=λi j u x=>XC E w (c.G n) i j u x) (λi y j x u _ _ hr=>by rw[ba rfl,bG]at hr;exact hr);obtain⟨news,n1,n2⟩:=p6 (P:=P) (z:=z) hu me r3' r2 (λi j u x hr=>hr.one);refine⟨[(n, .dead)],news,c.G n,rfl,n1,r2,λ_=>n2,λh=>(by cases h),λ_ i j hh hn=>⟨n,_,aW.2 rfl,hg, .inr ⟨rfl,i,j,hh,hn,rfl⟩⟩,λ_=>((hok.obj n _ hg).la rfl).one,λm y hm=> ?_⟩
       rw[aW]at hm;cases hm;exact⟨Vx,⟨_,hg⟩, .inl rfl⟩
  |eU e' xs=>obtain⟨h1,h9⟩:=b9 h;have:=aN h1;subst this;have h:=h9;obtain⟨rfl,rfl,rfl⟩:=qJ h;refine HP xs ?_ (by simp[kY,iy,hg]);rw[hv];exact(hok.obj n _ hg).1
  |_=>simp at h
 |vw n lo hi=>
  obtain⟨ob,hg,h⟩:=Rd.bind_some h;have hg:=cW hg;cases ob with
  |row e' ex xs=>
   obtain⟨h1,h9⟩:=b9 h;have:=aN h1;subst this;have h:=h9;have JA:(kY E (.vw n lo hi)).val σ=ah (el,dR xs lo hi):=by simp[kY,iy,hg]
   cases hp:plain te.ks with
   |true=>rw[ur (by rw[hp];rfl)]at h;obtain⟨rfl,rfl,rfl⟩:=qJ h;rw[hp];exact PLr hp _ JA
   |false=>
    cases ex with
    |false=>rw[ur (by simp)]at h;obtain⟨rfl,rfl,rfl⟩:=qJ h;rw[hp];obtain⟨t3,r1,r2,r3⟩:=uZ hok hg hx;obtain rfl:te=t3:=aD (ht.symm.trans r1);exact SH _ (r3.imp λi y j x u _ _ hr=>by simpa using hr) r2
    |true=>
     rw[BO (by rw[hp];rfl)]at h;cases hm:ld n b with
     |true=>rw[hm]at h;simp at h
     |false=>
      have Vx:=oX hm;rw[hm]at h;cases DA:E.tk ru with
      |true=>rw[DA]at h;obtain⟨rfl,rfl,rfl⟩:=qJ h;exact FZ n xs lo hi hg Vx hx
      |false=>rw[DA]at h;simp at h
  |eU e' xs=>obtain⟨h1,h9⟩:=b9 h;have:=aN h1;subst this;have h:=h9;obtain⟨rfl,rfl,rfl⟩:=qJ h;exact HP _ (nV hok hg hx) (by simp[kY,iy,hg])
  |_=>simp at h
 |la n i j=>obtain⟨h1,h⟩:=b9 h;obtain⟨⟨e',xs⟩,h2,h⟩:=Rd.bind_some h;obtain⟨h3,h9⟩:=b9 h;have:=aN h3;subst this;have h:=h9;obtain⟨rfl,rfl,rfl⟩:=qJ h;exact PLr h1 xs h2
 |_=>simp[O2]at h
theorem LF(hE:dP P E)(hok:Ok E σ w c)(dg:eC E σ a w c)(hd:∀d,o.dst=ah d->d<a.tmps.size){cl:Call}(ho:o.op= .call cl)(hb:cl.callee= .builtin .append)(h:(kH E nm o).val σ=ah e)(hc:e.cond=aj):fO P E σ a w c o e.ws:=by
 simp only[kH,ho,hb]at h;split at h
 ·rename_i s x t u qw Zm;obtain⟨ku,h1,h⟩:=Rd.bind_some h;obtain⟨sv,h2,h⟩:=Rd.bind_some h;obtain⟨xv,h3,h⟩:=Rd.bind_some h;obtain⟨es,_⟩:=h_ dg h2;obtain⟨ex,_⟩:=h_ dg h3;have qw:=Az qw;have Zm:=Az Zm;have exec:∀{r w'},(j4 #[t,u] o.type #[a.eval s,a.eval x]).run P w= .ok r w'->(execOp a.eval o).run P w= .ok (.value r) w':=by intro r w' hr;obtain⟨cs,AL⟩:=lz (P:=P) (a:=a) (w:=w) ho hb;rw[AL,qw,Zm];simp only[builtin,A3,eF,zb];exact gZ hr
  have APP:((∃e',P.underlying u=ah (.slice e'))\/P.underlying u=ah .string)->∀b v wl,(Dc E nm t sv xv).val σ=ah (b,v,wl)->b=aj->fO P E σ a w c o (wl++dw o (.v ao [v])):=by
   intro hu b v wl h hbt;obtain⟨ti,k1,h⟩:=Rd.bind_some h;have k1:=dz k1;split at h
   ·rename_i el rY AM;obtain⟨te,k2,h⟩:=Rd.bind_some h;have k2:=dz k2;obtain⟨xV,h⟩:=b9 h;obtain⟨⟨AK,xs,bl⟩,k3,h⟩:=Rd.bind_some h;obtain⟨⟨xS,ys,w2⟩,k4,h⟩:=Rd.bind_some h;obtain⟨_,k5,h⟩:=Rd.bind_some h;obtain⟨rfl,rfl,rfl⟩:=qJ h;obtain⟨hf,jj⟩:=jA k5;have ht:=nR hE k1 rY AM;obtain⟨inf,hi,hsz,hby,me,hz⟩:=hE.info el te k2;obtain⟨z,HH,Bn,_⟩:=hz xV;obtain⟨p,g,hB⟩:=zo hok k2 es k3;obtain⟨D,news,gx,rfl,hA,hM⟩:=O3 (P:=P) (z:=z.cells) hE hok k2 me hu ex k4;simp only[cF,aJ,aZ]at hbt;obtain⟨p',w',hr,hAd⟩:=xA (P:=P) (w:=w) (ty:=o.type) (p:=p) (x:=a.eval x) ht hi HH (by rw[Bn,hB.sz];simp) (by rw[hsz,hB.sz]) (λhn=>by rw[hB.at_.n,(hB.at_.nil hn).1];rfl) (λhn=>by obtain⟨vals,m1,m2,m3,m4,_⟩:=hB.at_.mem hn;exact⟨vals,m1,m2,m3,m4⟩) (by rw[hB.sz];exact hA) (by rw[hB.at_.n,hby];exact hbt.1) (by rw[hB.at_.n];exact hbt.2);rw[<-hB.v]at hr;exact B1 hok dg hd k2 hf jj hB hM hAd (exec hr)
   ·simp at h
  have ZER:∀k,P.underlying u=ah (.int k)->∀(kn:lU) (n:ay),a.eval x= .int kn n->∀b v wl,(Q0 E nm t sv n).val σ=ah (b,v,wl)->b=aj->fO P E σ a w c o (wl++dw o (.v ao [v])):=by
   intro k hu kn n hxn b v wl h hbt;obtain⟨ti,k1,h⟩:=Rd.bind_some h;have k1:=dz k1;split at h
   ·rename_i el rY AM;obtain⟨te,k2,h⟩:=Rd.bind_some h;have k2:=dz k2;obtain⟨Mm,h⟩:=b9 h;simp only[aJ]at Mm;obtain⟨xV,Ml⟩:=Mm;obtain⟨⟨AK,xs,bl⟩,k3,h⟩:=Rd.bind_some h;obtain⟨_,k5,h⟩:=Rd.bind_some h;obtain⟨rfl,rfl,rfl⟩:=qJ h;obtain⟨hf,jj⟩:=jA k5;have ht:=nR hE k1 rY AM;obtain⟨inf,hi,hsz,hby,me,hz⟩:=hE.info el te k2;obtain⟨z,HH,Bn,_⟩:=hz xV;obtain⟨p,g,hB⟩:=zo hok k2 es k3;simp only[cF,aJ,aZ]at hbt;obtain⟨⟨c0,c1,c2⟩,c3⟩:=hbt;have Lp:(aR te.ks n.toNat).length=n.toNat:=by simp[aR]
    have hzc:fD z.cells n.toNat=madeCells (te.ks.map gF).toArray (n.toNat*te.ks.length):=by rw[Bn];show madeCells _ (n.toNat*(te.ks.map gF).toArray.size)=_;simp
    have hA:App P w u (a.eval x) z.cells te.ks.length (aR te.ks n.toNat).length (fD z.cells n.toNat).toList:=by
     refine⟨.inr ⟨⟨k,hu⟩,⟨kn, ?_⟩, ?_⟩, ?_,λv hv=> ?_⟩
     ·rw[hxn,Lp,Int.toNat_of_nonneg c0]
     ·rw[Lp]
     ·rw[Lp,dm,size_zeroCells,Bn];simp
     ·rw[hzc]at hv;obtain⟨q,hq⟩:=bQ hv;have SQ:q<n.toNat*te.ks.length:=by have:=(aP.1 hq).1;simpa [size_madeCells]using this
      have h1:q/te.ks.length<n.toNat:=by rw[Mg me];exact SQ
      have h2:q%te.ks.length<te.ks.length:=IQ _ me;have:=km (n:=n.toNat) h1 (show te.ks[q%te.ks.length]? =ah te.ks[q%te.ks.length]by simp[h2]);rw[show q/te.ks.length*te.ks.length+q%te.ks.length=q by have:=Nat.div_add_mod q te.ks.length;rw[KI]at this;exact this]at this;rw[cz,this]at hq;cases hq;cases te.ks[q%te.ks.length]<;>rfl
    have hM:pR E σ w c te bl aj (aR te.ks n.toNat) [] (fD z.cells n.toNat).toList (HR E te.ks):=by
     refine⟨vm xV _,λ_ i y j x hy hx=> ?_,λh=>(by cases h),λ_ i j _ hn=>(by cases hn),λ_ i j _ _ _ _ hn=>(by cases hn),λn x hn=>(by cases hn)⟩
     obtain⟨g6,k,hk,rfl⟩:=sj hy hx;refine⟨gF k, ?_,KE Ml xV hk⟩
     rw[hzc,cz];exact km g6 hk
    obtain⟨p',w',hr,hAd⟩:=xA (P:=P) (w:=w) (ty:=o.type) (p:=p) (x:=a.eval x) ht hi HH (by rw[Bn,hB.sz];simp) (by rw[hsz,hB.sz]) (λhn=>by rw[hB.at_.n,(hB.at_.nil hn).1];rfl) (λhn=>by obtain⟨vals,m1,m2,m3,m4,_⟩:=hB.at_.mem hn;exact⟨vals,m1,m2,m3,m4⟩) (by rw[hB.sz];exact hA) (by rw[hB.at_.n,hby,Lp];exact c1) (by rw[hB.at_.n,Lp];exact c2);rw[<-hB.v]at hr;have:=B1 hok dg hd k2 hf jj hB hM hAd (exec hr);rw[ig]at this;exact this
   ·simp at h
  cases ku with
  |i k=>
   cases xv with
   |i k' n=>obtain⟨⟨b,v,wl⟩,h4,h⟩:=Rd.bind_some h;obtain rfl:=aD h;exact ZER k (wk hE h1) k' n ex b v wl h4 hc
   |_=>simp at h
  |l e'=>obtain⟨⟨b,v,wl⟩,h4,h⟩:=Rd.bind_some h;obtain rfl:=aD h;exact APP (.inl ⟨e',jD hE h1⟩) b v wl h4 hc
  |s=>obtain⟨⟨b,v,wl⟩,h4,h⟩:=Rd.bind_some h;obtain rfl:=aD h;exact APP (.inr (jQ hE h1)) b v wl h4 hc
  |b=>simp at h
  |o=>simp at h
 ·simp at h
end
end Go.FG

namespace Go.FG
section
variable {P:cC} {E:eL} {σ:St} {a:Act} {w:bw} {c:dZ} {o:eD} {nm:aG} {e:qQ}
theorem R7:∀{xs:ax AV} {cs:ax CV},(NM.YB xs).val σ=ah cs->cs.length=xs.length/\∀(vals:cX a7),eQ E w c vals xs->∀(q:aG) (x:CV),cs[q]? =ah x->∃u:a7,vals[q]? =ah u/\cK E w c.K u x:=by
 intro xs;induction xs with
 |nil=>intro cs h;obtain rfl:=aD h;exact⟨rfl,λ_ _ q x hq=>by simp at hq⟩
 |cons a xs ih=>
  intro cs h;obtain⟨l,h1,h⟩:=Rd.bind_some h;obtain⟨i1,i2⟩:=ih h1;have main:∀cv,(∀u,dN E w c a u->cK E w c.K u cv)->cs=cv::l->cs.length=(a::xs).length/\∀(vals:cX a7),eQ E w c vals (a::xs)->∀(q:aG) (x:CV),cs[q]? =ah x->∃u:a7,vals[q]? =ah u/\cK E w c.K u x:=by
   rintro cv Vq rfl;refine⟨by simp[i1],λvals hv q x hq=> ?_⟩
   cases q with
   |zero=>cases hq;obtain⟨u,hu,ha⟩:=hv.2 0 a rfl;exact⟨u,hu,Vq u ha⟩
   |succ q=>
    have Ov:eQ E w c (vals.extract 1 vals.size) xs:=by
     refine⟨by simp;have:=hv.1;simp at this;omega,λj b hj=> ?_⟩
     obtain⟨u,hu,hb⟩:=hv.2 (j+1) b hj;refine⟨u, ?_,hb⟩
     have:=(c8.1 hu).1;rw[dF,ba (by omega),ia];exact hu
    obtain⟨u,r1,r2⟩:=i2 _ Ov q x hq;refine⟨u, ?_,r2⟩
    rw[dF]at r1;split at r1
    ·rw[ia];exact r1
    ·cases r1
  cases a with
  |i k n=>exact main (.i k n) (λu hu=>by rw[show u=_ from hu];exact .i _ _) (aD h).symm
  |b x=>exact main (.b x) (λu hu=>by rw[show u=_ from hu];exact .b _) (aD h).symm
  |s x=>exact main (.s x) (λu hu=>by rw[show u=_ from hu.1];exact .s _ hu.2) (aD h).symm
  |sh e xs=>exact main (.l e xs) (λu hu=>hu) (aD h).symm
  |_=>simp at h
def abo(E:eL)(σ:St)(w:bw)(c:dZ)(D:ax (aG×Obj))(cs:ax CV)(v:a7):Prop:=
 ∃n,v= .pointer (ah (ad (c.P n).blk 0))/\(((n,Obj.mV cs)∈D)\/σ (cG n)= .o (.mV cs))
theorem R8(hok:Ok E σ w c)(dg:eC E σ a w c):∀{xs:ax cY} {l:ax (ax CV)} {ws:ax (aG×dS)},(NM xs).val σ=ah (l,ws)->l.length=xs.length/\∃D,ws=jh D/\
  (∀n x,(n,x)∈D->∃cs ys,x= .mV cs/\σ (cG n)= .o (.box ys)/\∀(q:aG) (y:CV),cs[q]? =ah y->∃u:a7,w.cell? (ad (c.P n).blk q)=ah u/\cK E w c.K u y)/\
  ∀(q:aG) (cs:ax CV),l[q]? =ah cs->∃x,xs[q]? =ah x/\abo E σ w c D cs (a.eval x):=by
 intro xs;induction xs with
 |nil=>intro l ws h;obtain⟨rfl,rfl⟩:=bF (aD h);exact⟨rfl,[],rfl,λn x h=>(by cases h),λq cs h=>by simp at h⟩
 |cons x xs ih=>
  intro l ws h;obtain⟨v,h1,h⟩:=Rd.bind_some h;have hv:=(h_ dg h1).1;split at h
  ·rename_i n;obtain⟨ob,hg,h⟩:=Rd.bind_some h;have hg:=cW hg;have hv:a.eval x= .pointer (ah (ad (c.P n).blk 0)):=hv;cases ob with
   |box ys=>
    obtain⟨cs,h2,h⟩:=Rd.bind_some h;obtain⟨⟨l',Bv⟩,h3,h⟩:=Rd.bind_some h;obtain⟨rfl,rfl⟩:=bF (aD h);obtain⟨i1,D,rfl,i2,i3⟩:=ih h3;obtain⟨_,c2⟩:=R7 (E:=E) (w:=w) (c:=c) h2;obtain⟨vals,hb,hsz,Vq⟩:=hok.obj n _ hg;refine⟨by simp[i1],(n, .mV cs)::D,rfl,λm y hm=> ?_,λq cs' hq=> ?_⟩
    ·rcases b7.1 hm with hm|hm
     ·cases hm;refine⟨cs,ys,rfl,hg,λq y hq=> ?_⟩
      obtain⟨u,hu,hh⟩:=c2 vals ⟨hsz,Vq⟩ q y hq;exact⟨u,(hb.cell q).trans hu,hh⟩
     ·exact i2 m y hm
    ·cases q with
     |zero=>cases hq;exact⟨x,rfl,n,hv, .inl (cw ..)⟩
     |succ q=>obtain⟨x',nX,m,e1,e2⟩:=i3 q cs' hq;exact⟨x',nX,m,e1,e2.imp (cg _) id⟩
   |mV cs=>
    obtain⟨⟨l',Bv⟩,h3,h⟩:=Rd.bind_some h;obtain⟨rfl,rfl⟩:=bF (aD h);obtain⟨i1,D,rfl,i2,i3⟩:=ih h3;refine⟨by simp[i1],D,rfl,i2,λq cs' hq=> ?_⟩
    cases q with
    |zero=>cases hq;exact⟨x,rfl,n,hv, .inr hg⟩
    |succ q=>exact i3 q cs' hq
   |_=>simp at h
  ·simp at h
theorem FU(hok:Ok E σ w c)(dg:eC E σ a w c)(hd:∀d,o.dst=ah d->d<a.tmps.size){fn:Fn}{first gQ:cX cY}(ho:o.op= .makeFunc fn first gQ)(h:(kH E nm o).val σ=ah e):fO P E σ a w c o e.ws:=by
 cases fn with
 |func f=>
  simp only[kH,ho]at h;obtain⟨h1,h⟩:=b9 h;obtain⟨⟨l,ws⟩,h2,h⟩:=Rd.bind_some h;obtain rfl:=aD h;obtain⟨hl,D,rfl,hD,Ld⟩:=R8 hok dg h2;have Jy:first= #[]:=by simpa using h1
  let K':aG->Prop:=λb=>c.K b\/∃n x,(n,x)∈D/\b=(c.P n).blk;let c':dZ:=⟨c.P,c.G,K'⟩
  have kin:∀b,c.K b->K' b:=λb h=> .inl h;have own:∀n x,(n,x)∈D->ja (sq D) σ c (c.P n).blk:=λn x hm=>by obtain⟨cs,ys,_,hg,_⟩:=hD n x hm;exact⟨n,_,⟨x,hm⟩,hg,rfl⟩
  have fb:∀n cs,(n,Obj.mV cs)∈D->FB E w K' (c.P n).blk cs:=λn cs hm=>by obtain⟨cs',ys,hx,hg,hc⟩:=hD n _ hm;cases hx;exact⟨.inr ⟨n,_,hm,rfl⟩,λq x hq=>by obtain⟨u,hu,hh⟩:=hc q x hq;exact⟨u,hu,hh.frame (λ_ _=>rfl) kin⟩⟩
  refine Hw hok dg hd (c':=c') (w':=w) (v:= .func (.func f) #[] (gQ.map a.eval)) (λm _=>⟨rfl,rfl⟩) ?_ ?_ ?_ ?_ kin ?_ ?_ (λb _ _=>rfl) (bR _) rfl rfl rfl ?_ ?_ ?_
  ·intro n x hm;obtain⟨cs,ys,rfl,hg,hc⟩:=hD n x hm;exact fb n cs hm
  ·intro n x b hm hf;obtain⟨cs,ys,rfl,_⟩:=hD n x hm;exact hf.elim
  ·intro n x n' x' b hm _ hf;obtain⟨cs,ys,rfl,_⟩:=hD n x hm;exact hf.elim
  ·intro n xs hm;obtain⟨cs,ys,hx,_⟩:=hD n _ hm;cases hx
  ·rintro b (h|⟨n,x,hm,rfl⟩)
   ·exact .inl h
   ·exact .inr (.inl (own n x hm))
  ·rintro b (h|⟨n,x,hm,rfl⟩)
   ·exact hok.lt b h
   ·exact vq.lt hok (own n x hm).own
  ·refine⟨gQ.map a.eval,rfl,by simp[hl],λq cs hq=> ?_⟩
   obtain⟨x,hx,n,hv,hor⟩:=Ld q cs hq;rw[cz]at hx;refine⟨(c.P n).blk,by rw[KF,hx,<-hv];rfl, ?_⟩
   rcases hor with hm|hg
   ·exact fb n cs hm
   ·exact FB.frame (hok.obj n _ hg) (λ_ _=>rfl) kin
  ·intro n hn;simp[b8,bm]at hn
  ·unfold execOp;rw[ho,Jy];refine gZ (s:=Q4 (.func f) ((#[]:cX cY).map a.eval) (gQ.map a.eval)) ?_;simp[Q4]
 |_=>simp[kH,ho]at h
end
end Go.FG

namespace Go.FG
theorem n7:∀{l:ax (aG×dS)} {k:aG} {c:dS},eJ l k=c->c≠ .iN->(k,c)∈l:=by
 intro l;induction l with
 |nil=>intro k c h hc;exact b_ h.symm hc
 |cons d l ih=>
  obtain⟨k',c'⟩:=d;intro k c h hc;unfold eJ at h;cases hb:bA k k' with
  |true=>rw[hb]at h;have:=aN hb;subst this;have:c'=c:=h;subst this;exact cw ..
  |false=>rw[hb]at h;exact cg _ (ih h hc)
theorem qm:∀{l:ax (aG×dS)} {k:aG} {c:dS},(k,c)∈l->(∀d∈l,d.2≠ .iN)->eJ l k≠ .iN:=by
 intro l;induction l with
 |nil=>intro k c h;cases h
 |cons d l ih=>
  obtain⟨k',c'⟩:=d;intro k c h hn;unfold eJ;cases hb:bA k k' with
  |true=>exact hn _ (cw ..)
  |false=>
   rcases b7.1 h with h|h
   ·cases h;simp at hb
   ·exact ih h (λd hd=>hn d (cg _ hd))
theorem Ly{nm:aG}{a:AA}{k:aG}{c:dS}:(k,c)∈FD nm a↔∃e ex xs,a= .ow e ex xs/\k=cG nm/\c= .o (.row e ex xs):=by
 cases a with
 |ow e ex xs=>simp only[FD,aW,ir];exact⟨λ⟨h1,h2⟩=>⟨e,ex,xs,rfl,h1,h2⟩,λ⟨e',rW,Iu,h,h1,h2⟩=>by cases h;exact⟨h1,h2⟩⟩
 |_=>simp[FD]
theorem zU:∀{xs:ax AA} {nm:aG} {k:aG} {c:dS},(k,c)∈tB nm xs↔∃j e ex ys,xs[j]? =ah (.ow e ex ys)/\k=cG (nm+j)/\c= .o (.row e ex ys):=by
 intro xs;induction xs with
 |nil=>intro nm k c;simp[tB]
 |cons a xs ih=>
  intro nm k c;simp only[tB,aX,Ly,ih];constructor
  ·rintro (⟨e,ex,ys,rfl,h1,h2⟩|⟨j,e,ex,ys,h0,h1,h2⟩)
   ·exact⟨0,e,ex,ys,rfl,h1,h2⟩
   ·exact⟨j+1,e,ex,ys,h0,by rw[h1];congr 1;omega,h2⟩
  ·rintro ⟨j,e,ex,ys,h0,h1,h2⟩;cases j with
   |zero=>cases h0;exact .inl ⟨e,ex,ys,rfl,h1,h2⟩
   |succ j=>exact .inr ⟨j,e,ex,ys,h0,by rw[h1];congr 1;omega,h2⟩
theorem gu{p:aG}{a:eu}{k:aG}{c:dS}:(k,c)∈uK p a↔(∃xs,a= .pt xs/\k=cG (dC p 900)/\c= .o (.box (fB (dC p 0) xs)))\/∃xs j e ex ys,((∃g,a= .v g xs)\/a= .pt xs)/\xs[j]? =ah (.ow e ex ys)/\k=cG (dC p j)/\c= .o (.row e ex ys):=by
 have hn:∀j,dC p 0+j=dC p j:=λj=>by unfold dC;omega
 cases a with
 |v g xs=>
  simp only[uK,zU,hn];constructor
  ·rintro ⟨j,e,ex,ys,h⟩;exact .inr ⟨xs,j,e,ex,ys, .inl ⟨g,rfl⟩,h⟩
  ·rintro (⟨Iu,h,_⟩|⟨Iu,j,e,ex,ys,h,h'⟩)
   ·cases h
   ·rcases h with ⟨g',h⟩|h<;>cases h;exact⟨j,e,ex,ys,h'⟩
 |pt xs=>
  simp only[uK,b7,zU,hn,ir];constructor
  ·rintro (⟨h1,h2⟩|⟨j,e,ex,ys,h⟩)
   ·exact .inl ⟨xs,rfl,h1,h2⟩
   ·exact .inr ⟨xs,j,e,ex,ys, .inr rfl,h⟩
  ·rintro (⟨Iu,h,h1,h2⟩|⟨Iu,j,e,ex,ys,h,h'⟩)
   ·cases h;exact .inl ⟨h1,h2⟩
   ·rcases h with ⟨g',h⟩|h<;>cases h;exact .inr ⟨j,e,ex,ys,h'⟩
 |fb xs=>
  simp only[uK,qE,false_iff];rintro (⟨Iu,h,_⟩|⟨Iu,j,e,ex,ys,h,h'⟩)
  ·cases h
  ·rcases h with ⟨g',h⟩|h<;>cases h
theorem kq:∀{l:ax eu} {q:aG} {k:aG} {c:dS},(k,c)∈HI q l↔∃p a,l[p]? =ah a/\((k=o0 (q+p)/\c= .v (qy (q+p) a))\/(k,c)∈uK (q+p) a):=by
 intro l;induction l with
 |nil=>intro q k c;simp[HI]
 |cons a l ih=>
  intro q k c;simp only[HI,b7,aX,ih,ir];constructor
  ·rintro ((⟨h1,h2⟩|h)|⟨p,b,h0,h⟩)
   ·exact⟨0,a,rfl, .inl ⟨h1,h2⟩⟩
   ·exact⟨0,a,rfl, .inr h⟩
   ·exact⟨p+1,b,h0,by rw[show q+(p+1)=q+1+p by omega];exact h⟩
  ·rintro ⟨p,b,h0,h⟩;cases p with
   |zero=>
    cases h0;rcases h with ⟨h1,h2⟩|h
    ·exact .inl (.inl ⟨h1,h2⟩)
    ·exact .inl (.inr h)
   |succ p=>exact .inr (⟨p,b,h0,by rw[show q+1+p=q+(p+1)by omega];exact h⟩)
theorem FC{l:ax eu}{q:aG}:∀d∈HI q l,d.2≠ .iN:=by
 rintro ⟨k,c⟩ h;obtain⟨p,a,_,h⟩:=kq.1 h;rcases h with ⟨_,h⟩|h
 ·rw[h];simp
 ·rcases gu.1 h with ⟨_,_,_,h⟩|⟨_,_,_,_,_,_,_,_,h⟩<;>rw[h]<;>simp
theorem yL{args:ax eu}{m:aG}{ob:Obj}(h:inj args (cG m)= .o ob):∃p a,args[p]? =ah a/\((∃xs,a= .pt xs/\m=dC p 900/\ob= .box (fB (dC p 0) xs))\/∃xs j e ex ys,((∃g,a= .v g xs)\/a= .pt xs)/\xs[j]? =ah (.ow e ex ys)/\m=dC p j/\ob= .row e ex ys):=by
 obtain⟨p,a,h0,h⟩:=kq.1 (n7 h (by simp));rw[bG]at h;refine⟨p,a,h0, ?_⟩
 rcases h with ⟨h,_⟩|h
 ·exact b_ h (kQ _ _)
 ·rcases gu.1 h with ⟨xs,h1,h2,h3⟩|⟨xs,j,e,ex,ys,h1,h2,h3,h4⟩
  ·cases h3;exact .inl ⟨xs,h1,jk h2,rfl⟩
  ·cases h4;exact .inr ⟨xs,j,e,ex,ys,h1,h2,jk h3,rfl⟩
theorem FF{args:ax eu}{n:aG}:(∃a,args[n]? =ah a/\slot (inj args) n=qy n a)\/slot (inj args) n= .un:=by
 unfold slot;cases h:inj args (o0 n)with
 |v x=>
  obtain⟨p,a,h0,h⟩:=kq.1 (n7 h (by simp));rw[bG]at h;rcases h with ⟨h1,h2⟩|h
  ·have:=D4 h1;subst this;cases h2;exact .inl ⟨a,h0,rfl⟩
  ·rcases gu.1 h with ⟨_,_,h,_⟩|⟨_,_,_,_,_,_,_,h,_⟩<;>exact b_ h (ql _ _)
 |o=>exact .inr rfl
 |iN=>exact .inr rfl
theorem po{args:ax eu}{p:aG}{a:eu}(h:args[p]? =ah a):(∀xs,a= .pt xs->inj args (cG (dC p 900))≠ .iN)/\∀xs j e ex ys,((∃g,a= .v g xs)\/a= .pt xs)->xs[j]? =ah (.ow e ex ys)->inj args (cG (dC p j))≠ .iN:=by
 constructor
 ·intro xs hx;exact qm (kq.2 ⟨p,a,h, .inr (gu.2 (.inl ⟨xs,hx,by rw[bG],rfl⟩))⟩) FC
 ·intro xs j e ex ys hx hj;exact qm (kq.2 ⟨p,a,h, .inr (gu.2 (.inr ⟨xs,j,e,ex,ys,hx,hj,by rw[bG],rfl⟩))⟩) FC
theorem gA:∀{xs:ax AA} {nm j:aG},(fB nm xs)[j]? =(xs[j]?).map (jU (nm+j)):=by
 intro xs;induction xs with
 |nil=>intro nm j;simp[fB]
 |cons a xs ih=>
  intro nm j;cases j with
  |zero=>rfl
  |succ j=>simp only[fB,dr,ih];congr 2;omega
theorem gP:∀{xs:ax AA} {nm:aG},(fB nm xs).length=xs.length:=by
 intro xs;induction xs with
 |nil=>intro nm;rfl
 |cons a xs ih=>intro nm;simp[fB,ih]
theorem rq{nm:aG}{a:AA}{n:aG}(h:n∈bm (jU nm a)):n=nm/\∃e ex ys,a= .ow e ex ys:=by cases a<;>simp[jU,bm]at h;exact⟨h,_,_,_,rfl⟩
theorem FE{args:ax eu}(n:aG):lr (inj args) (slot (inj args) n):=by
 rcases FF (args:=args) (n:=n)with ⟨a,h0,h⟩|h
 ·rw[h];intro m hm;have cells:∀xs,((∃g,a= .v g xs)\/a= .pt xs)->m∈(fB (dC n 0) xs).flatMap bm->inj args (cG m)≠ .iN:=by
   intro xs hx hm;obtain⟨v,hv,hm⟩:=bz.1 hm;obtain⟨j,hj⟩:=bQ hv;rw[gA]at hj;cases hy:xs[j]? with
   |none=>rw[hy]at hj;cases hj
   |some y=>
    rw[hy]at hj;cases hj;obtain⟨rfl,e,ex,ys,rfl⟩:=rq hm;have:=(po h0).2 xs j e ex ys hx hy;have hn:dC n 0+j=dC n j:=by unfold dC;omega
    rw[hn];exact this
  cases a with
  |v g xs=>exact cells xs (.inl ⟨g,rfl⟩) hm
  |pt xs=>
   have:m=dC n 900:=by simpa [qy,b8,bm]using hm
   rw[this];exact(po h0).1 xs rfl
  |fb xs=>simp[qy,b8,bm]at hm
 ·rw[h];intro m hm;simp[b8]at hm
theorem DB{args:ax eu}{nm:aG}{xs:ax AV}(h:inj args (cG nm)= .o (.box xs)):∀a∈xs,iu (inj args) a:=by
 obtain⟨p,a,h0,hh⟩:=yL h;rcases hh with ⟨ys,rfl,_,hb⟩|⟨_,_,_,_,_,_,_,_,hb⟩
 ·cases hb;intro v hv m hm;obtain⟨j,hj⟩:=bQ hv;rw[gA]at hj;cases hy:ys[j]? with
  |none=>rw[hy]at hj;cases hj
  |some y=>
   rw[hy]at hj;cases hj;obtain⟨rfl,e,ex,zs,rfl⟩:=rq hm;have:=(po h0).2 ys j e ex zs (.inr rfl) hy;have hn:dC p 0+j=dC p j:=by unfold dC;omega
   rw[hn];exact this
 ·cases hb
end Go.FG

namespace Go.FG
theorem sa{p j:aG}(h:j<1000):(dC p j-900000000)/1000=p/\(dC p j-900000000)%1000=j:=by unfold dC;omega
theorem z7(p j:aG):900000000<=dC p j:=by unfold dC;omega
theorem sb{p j p' j':aG}(h:j<1000)(h':j'<1000)(e:dC p j=dC p' j'):p=p'/\j=j':=by unfold dC at e;omega
section
variable {P:cC} {E:eL} {σ:St} {a:Act} {w:bw} {c:dZ} {o:eD} {nm:aG} {e:qQ}
theorem qi(hok:Ok E σ w c){n el:aG}{ex:aU}{xs:Row}(hg:σ (cG n)= .o (.row el ex xs)){K:aG->Prop}(hK:∀b,c.K b->K b)(hF:∀b,eI c n (.row el ex xs) b->K b):cK E w K (mb (c.P n)) (.l el xs):=by
 obtain⟨⟨t2,q1,q2,q3⟩,q4,q5⟩:=hok.obj n _ hg;refine mH q1 q2 q3 (q4.frame (λ_=>rfl) (λi j y x u hy hx hr=> ?_)) (λhn=>hF _ (.inl ⟨hn,rfl⟩));split at hr
 ·rename_i nX;exact rN hr (λhl hn=>hF _ (.inr ⟨nX,i,j,⟨y,x,hy,hx,hl⟩,hn,rfl⟩))
 ·exact hr.frame (λ_ _=>rfl) hK
theorem Cs(hok:Ok E σ w c){n el:aG}{ex:aU}{xs:Row}(hg:σ (cG n)= .o (.row el ex xs)){K:aG->Prop}(hK:∀b,c.K b->K b)(hF:∀b,eI c n (.row el ex xs) b->K b){lo hi:aG}{v:a7}(hv:tn (c.P n) lo hi v):cK E w K v (.l el (dR xs lo hi)):=by obtain⟨⟨t2,q1,q2,q3⟩,q4,q5⟩:=hok.obj n _ hg;exact zQ q1 (qi hok hg hK hF) q4.n q2 hv
def XW(σ:St)(c:dZ)(mn:ax aG)(b:aG):Prop:=c.K b\/∃n∈mn,∃o,σ (cG n)= .o o/\eI c n o b
def s_(T:Tab)(σ:St)(w:bw)(c:dZ)(mn:ax aG)(k:Pk)(u:a7):Prop:=
 match k.src with
 | .own nm e ex=>∃xs,σ (cG nm)= .o (.row e ex xs)/\k.a= .ow e ex xs/\u=mb (c.P nm)
 | .no=>(∀c1:dZ,(∀b,XW σ c mn b->c1.K b)->∀nm,dN T w c1 (jU nm k.a) u)/\∀e ex xs,k.a≠ .ow e ex xs
theorem s_.mono{T:Tab}{mn PX:ax aG}{k:Pk}{u:a7}(h:s_ T σ w c mn k u)(hs:∀n∈mn,n∈PX):s_ T σ w c PX k u:=by
 unfold s_ at h⊢;split
 ·rename_i hk;rw[hk]at h;exact h
 ·rename_i hk;rw[hk]at h;exact⟨λc1 h1=>h.1 c1 (λb hb=>h1 b (hb.imp id (λ⟨n,hn,hh⟩=>⟨n,hs n hn,hh⟩))),h.2⟩
theorem Af(hok:Ok E σ w c){mt:aU}{x:AV}{k:Pk}{u:a7}(h:(w8 E mt x).val σ=ah k)(hx:dN E w c x u):s_ E σ w c k.rd k u:=by
 have rd:∀{n el:aG} {ex:aU} {xs:Row},σ (cG n)= .o (.row el ex xs)->∀c1:dZ,(∀b,XW σ c [n] b->c1.K b)->(∀b,c.K b->c1.K b)/\∀b,eI c n (.row el ex xs) b->c1.K b:=λhg c1 h=>⟨λb hb=>h b (.inl hb),λb hb=>h b (.inr ⟨_,aW.2 rfl,_,hg,hb⟩)⟩
 cases x with
 |i=>obtain rfl:=aD h;exact⟨λc1 _ _=>hx,λ_ _ _ hh=>by cases hh⟩
 |b=>obtain rfl:=aD h;exact⟨λc1 _ _=>hx,λ_ _ _ hh=>by cases hh⟩
 |s=>obtain rfl:=aD h;exact⟨λc1 _ _=>hx,λ_ _ _ hh=>by cases hh⟩
 |nl=>obtain rfl:=aD h;exact⟨λc1 _ _=>hx,λ_ _ _ hh=>by cases hh⟩
 |sh e xs=>obtain rfl:=aD h;exact⟨λc1 h1 _=>cK.frame hx (λ_ _=>rfl) (λb hb=>h1 b (.inl hb)),λ_ _ _ hh=>by cases hh⟩
 |fn f gQ=>obtain rfl:=aD h;exact⟨λc1 h1 _=>dN.frame (a:= .fn f gQ) hx (λ_ _=>rfl) (λb hb=>h1 b (.inl hb)) (λn hn=>by simp[bm]at hn),λ_ _ _ hh=>by cases hh⟩
 |own n=>
  obtain⟨ob,hg,h⟩:=Rd.bind_some h;have hg:=cW hg;have hx:u=mb (c.P n):=hx;cases ob with
  |row el ex xs=>
   cases mt with
   |true=>obtain rfl:=aD h;exact⟨xs,hg,rfl,hx⟩
   |false=>
    obtain rfl:=aD h;refine⟨λc1 h1 _=> ?_,λ_ _ _ hh=>by cases hh⟩
    obtain⟨r1,r2⟩:=rd hg c1 h1;rw[hx];exact qi hok hg r1 r2
  |eU el xs=>
   obtain rfl:=aD h;refine⟨λc1 h1 _=> ?_,λ_ _ _ hh=>by cases hh⟩
   rw[hx];exact cK.frame (hok.obj n _ hg).1 (λ_ _=>rfl) (λb hb=>h1 b (.inl hb))
  |_=>simp at h
 |vw n lo hi=>
  cases mt with
  |true=>simp[w8]at h
  |false=>
  obtain⟨ob,hg,h⟩:=Rd.bind_some h;have hg:=cW hg;cases ob with
  |row el ex xs=>
   obtain rfl:=aD h;refine⟨λc1 h1 _=> ?_,λ_ _ _ hh=>by cases hh⟩
   obtain⟨r1,r2⟩:=rd hg c1 h1;exact Cs hok hg r1 r2 hx
  |eU el xs=>
   obtain rfl:=aD h;refine⟨λc1 h1 _=> ?_,λ_ _ _ hh=>by cases hh⟩
   exact cK.frame (nV hok hg hx) (λ_ _=>rfl) (λb hb=>h1 b (.inl hb))
  |_=>simp at h
 |la n i j=>
  obtain⟨ob,hg,h⟩:=Rd.bind_some h;have hg:=cW hg;cases ob with
  |row el ex xs=>
   cases ex with
   |false=>simp at h
   |true=>
   obtain⟨te,ht,h⟩:=Rd.bind_some h;have ht:=dz ht;split at h
   ·rename_i e2 wW;obtain⟨t2,Fy,h⟩:=Rd.bind_some h;obtain⟨_,h⟩:=b9 h;obtain rfl:=aD h;obtain⟨⟨hi,hx⟩,_⟩:=hx;obtain⟨zs,y,t3,q1,q2,q3,q4,q5,q6,q7,q8⟩:=uM hok hg ht wW hi;refine⟨λc1 h1 _=> ?_,λ_ _ _ hh=>by cases hh⟩
    show cK E w c1.K u (.l e2 (kU (au xs i j)));rw[ea q1 q2,hx];obtain⟨r1,r2⟩:=rd hg c1 h1;exact mH q3 q5 q6 (q7.frame (λ_=>rfl) (λi' j' y' x' u' hy' nX hr=>iX (g9 q4 (q6 y' (aM hy')) nX) hr)) (λhn=>r2 _ (.inr ⟨rfl,i,j,⟨y,_,q1,q2,rfl⟩,hn,rfl⟩))
   ·simp at h
  |_=>simp at h
 |_=>simp[w8]at h
theorem Cf(hok:Ok E σ w c){mt:aU}:∀{xs:ax AV} {l:ax Pk},(Ag E mt xs).val σ=ah l->l.length=xs.length/\∀(j:aG) (k:Pk),l[j]? =ah k->∃x,xs[j]? =ah x/\(w8 E mt x).val σ=ah k:=by
 intro xs;induction xs with
 |nil=>intro l h;obtain rfl:=aD h;exact⟨rfl,λj k h=>by simp at h⟩
 |cons x xs ih=>
  intro l h;obtain⟨k,h1,h⟩:=Rd.bind_some h;obtain⟨l',h2,h⟩:=Rd.bind_some h;obtain rfl:=aD h;obtain⟨i1,i2⟩:=ih h2;refine⟨by simp[i1],λj k' hj=> ?_⟩
  cases j with
  |zero=>cases hj;exact⟨x,rfl,h1⟩
  |succ j=>exact i2 j k' hj
structure xL (T:Tab) (σ:St) (w:bw) (c:dZ) (mn:ax aG) (pa:Pa) (v:a7):Prop where
 len:pa.cs.length<=100
 val:pa.box=ai->∃agg,pa.arg= .v agg (pa.cs.map (·.a))/\((agg=ao/\∃k,pa.cs=[k]/\s_ T σ w c mn k v)\/(agg=aj/\∃vals:cX a7,v= .agg vals/\vals.size=pa.cs.length/\∀(j:aG) (k:Pk),pa.cs[j]? =ah k->∃u:a7,vals[j]? =ah u/\s_ T σ w c mn k u))
 box:∀n xs,pa.box=ah (n,xs)->pa.arg= .pt (pa.cs.map (·.a))/\v= .pointer (ah (ad (c.P n).blk 0))/\σ (cG n)= .o (.box xs)/\pa.cs.length=xs.length/\
  (∃vals,o4 w (c.P n).blk vals/\vals.size=xs.length/\∀(j:aG) (k:Pk),pa.cs[j]? =ah k->∃u:a7,vals[j]? =ah u/\s_ T σ w c mn k u)/\
  ∀(j:aG) (k:Pk) (nm e:aG) (ex:aU),pa.cs[j]? =ah k->k.src= .own nm e ex->xs[j]? =ah (.own nm)
theorem DI{pa:Pa}{j:aG}{k:Pk}(h:pa.cs[j]? =ah k):∀n∈k.rd,n∈pa.mn:=λn hn=>bz.2 ⟨k,aM h,hn⟩
theorem LM{mt:aU}{x:AV}{k:Pk}(h:(w8 E mt x).val σ=ah k){nm e:aG}{ex:aU}(hs:k.src= .own nm e ex):x= .own nm:=by
 cases x with
 |own n=>
  obtain⟨ob,hg,h⟩:=Rd.bind_some h;cases ob with
  |row el rW xs=>
   cases mt with
   |true=>obtain rfl:=aD h;cases hs;rfl
   |false=>obtain rfl:=aD h;cases hs
  |eU el xs=>obtain rfl:=aD h;cases hs
  |_=>simp at h
 |vw n lo hi=>
  cases mt with
  |true=>simp[w8]at h
  |false=>
  obtain⟨ob,hg,h⟩:=Rd.bind_some h;cases ob with
  |row=>obtain rfl:=aD h;cases hs
  |eU=>obtain rfl:=aD h;cases hs
  |_=>simp at h
 |la n i j=>
  obtain⟨ob,hg,h⟩:=Rd.bind_some h;cases ob with
  |row el ex xs=>
   cases ex with
   |false=>simp at h
   |true=>
   obtain⟨te,ht,h⟩:=Rd.bind_some h;split at h
   ·obtain⟨t2,Fy,h⟩:=Rd.bind_some h;obtain⟨_,h⟩:=b9 h;obtain rfl:=aD h;cases hs
   ·simp at h
  |_=>simp at h
 |i=>obtain rfl:=aD h;cases hs
 |b=>obtain rfl:=aD h;cases hs
 |s=>obtain rfl:=aD h;cases hs
 |nl=>obtain rfl:=aD h;cases hs
 |sh=>obtain rfl:=aD h;cases hs
 |fn=>obtain rfl:=aD h;cases hs
 |_=>simp[w8]at h
theorem R4(hok:Ok E σ w c){mt:aU}{x:SV}{pa:Pa}{v:a7}(h:(Yo E mt x).val σ=ah pa)(hl:pa.cs.length<=100)(hx:ic E w c x v):xL E σ w c pa.mn pa v:=by
 have gen:∀agg xs,x= .v agg xs->((Ag E mt xs).bind λl=>Rd.ret (⟨.v agg (l.map (·.a)),ai,l⟩:Pa)).val σ=ah pa->xL E σ w c pa.mn pa v:=by
  rintro agg xs rfl h;obtain⟨l,h1,h⟩:=Rd.bind_some h;obtain rfl:=aD h;obtain⟨i1,i2⟩:=Cf hok h1;refine⟨hl,λ_=>⟨agg,rfl, ?_⟩,λn ys hb=>by cases hb⟩
  replace hx:o_ E w c agg xs v:=hx;unfold o_ at hx;split at hx
  ·rename_i y;left;obtain⟨k,rfl⟩:=fW.1 (i1.trans rfl);obtain⟨y',hy,hk⟩:=i2 0 k rfl;cases hy;exact⟨rfl,k,rfl,(Af hok hk hx).mono (DI (j:=0) (pa:=⟨.v ao ([k].map (·.a)),ai,[k]⟩) rfl)⟩
  ·obtain⟨vals,rfl,hs,hv⟩:=hx;right;refine⟨rfl,vals,rfl,by rw[hs];exact i1.symm,λj k hj=> ?_⟩
   obtain⟨y,hy,hk⟩:=i2 j k hj;obtain⟨u,hu,ha⟩:=hv j y hy;exact⟨u,hu,(Af hok hk ha).mono (DI (j:=j) (pa:=⟨.v aj (l.map (·.a)),ai,l⟩) hj)⟩
  ·exact hx.elim
 unfold Yo at h;split at h
 ·rename_i n;obtain⟨_,h⟩:=b9 h;obtain⟨ob,hg,h⟩:=Rd.bind_some h;have hg:=cW hg;cases ob with
  |box xs=>
   obtain⟨l,h1,h⟩:=Rd.bind_some h;obtain rfl:=aD h;obtain⟨i1,i2⟩:=Cf hok h1;obtain⟨vals,hb,hs,hv⟩:=hok.obj n _ hg;refine⟨hl,λhb=>(by cases hb),λm ys Fo=> ?_⟩
   cases Fo;refine⟨rfl,hx,hg,i1,⟨vals,hb,hs,λj k hj=> ?_⟩,λj k nm e ex hj Lm=> ?_⟩
   ·obtain⟨y,hy,hk⟩:=i2 j k hj;obtain⟨u,hu,ha⟩:=hv j y hy;exact⟨u,hu,(Af hok hk ha).mono (DI (j:=j) (pa:=⟨.pt (l.map (·.a)),ah (n,xs),l⟩) hj)⟩
   ·obtain⟨y,hy,hk⟩:=i2 j k hj;rw[hy,LM hk Lm]
  |_=>simp at h
 ·rename_i agg xs _;exact gen _ _ rfl h
 ·simp at h
theorem JM{T:Tab}{k:Ck}{y:AV}{u:a7}(h:dN T w c y u):dN T w c (T3 k y) u:=by
 unfold T3;split
 ·rename_i e;have:u= .slice ai 0 0:=h;subst this;exact .nl _ _ _
 ·exact h
theorem FQ:∀(ks:ax Ck) (xs:ax AV),(z5 ks xs).length=xs.length
 |[],[]=>rfl
 |[],_::_=>rfl
 |_::_,[]=>rfl
 |k::ks,y::r=>by simp[z5,FQ ks r]
theorem JN{T:Tab}:∀(ks:ax Ck) (xs:ax AV) (j:aG) (y:AV),(z5 ks xs)[j]? =ah y->∃z,xs[j]? =ah z/\∀u,dN T w c z u->dN T w c y u
 |[],xs,j,y,h=>⟨y,by simpa [z5]using h,λ_ h=>h⟩
 |_::_,[],j,y,h=>by simp[z5]at h
 |k::ks,x::r,0,y,h=>by
  simp only[z5,qC,iF]at h;subst h;exact⟨x,rfl,λu hu=>JM hu⟩
 |k::ks,x::r,j+1,y,h=>by simp only[z5,dr]at h;exact JN ks r j y h
theorem ZN{T:Tab}{t:aA aG}{s:SV}{v:a7}(h:ic T w c s v):ic T w c (nlz T t s) v:=by
 unfold nlz;split
 ·exact h
 ·split
  ·rename_i ti g xs _;have h:o_ T w c g xs v:=h;show o_ T w c g (z5 ti.ks xs) v;unfold o_ at h;split at h
   ·rename_i y;cases hk:ti.ks with
    |nil=>exact h
    |cons k ks=>
     have e:∀z,z5 (k::ks) [z]=[T3 k z]:=λz=>by cases ks<;>rfl
     rw[e];exact JM h
   ·obtain⟨vals,h1,h2,h3⟩:=h;refine⟨vals,h1,by rw[FQ];exact h2,λj y hj=> ?_⟩
    obtain⟨z,hz,hy⟩:=JN (T:=T) (w:=w) (c:=c) ti.ks _ j y hj;obtain⟨u,hu,ha⟩:=h3 j z hz;exact⟨u,hu,hy u ha⟩
   ·cases h
  ·exact h
theorem ND(hok:Ok E σ w c)(dg:eC E σ a w c){f:aG}{Mq:aA (ax aG)}:∀{xs:ax cY} {p:aG} {ps:ax Pa},(NC E f Mq p xs).val σ=ah ps->ps.length=xs.length/\∀(q:aG) (pa:Pa),ps[q]? =ah pa->∃x,xs[q]? =ah x/\xL E σ w c pa.mn pa (a.eval x):=by
 intro xs;induction xs with
 |nil=>intro p ps h;obtain rfl:=aD h;exact⟨rfl,λq pa h=>by simp at h⟩
 |cons x xs ih=>
  intro p ps h;obtain⟨v,h1,h⟩:=Rd.bind_some h;obtain⟨pa,h2,h⟩:=Rd.bind_some h;obtain⟨hl,h⟩:=b9 h;obtain⟨l,h3,h⟩:=Rd.bind_some h;obtain rfl:=aD h;obtain⟨i1,i2⟩:=ih h3;refine⟨by simp[i1],λq ZU hq=> ?_⟩
  cases q with
  |zero=>
   cases hq;refine⟨x,rfl,R4 hok h2 (cf hl) ?_⟩
   cases E.mode f p with
   |true=>exact(kR dg h1).1
   |false=>exact ZN (kR dg h1).1
  |succ q=>exact i2 q ZU hq
theorem xL.mono{T:Tab}{mn PX:ax aG}{pa:Pa}{v:a7}(h:xL T σ w c mn pa v)(hs:∀n∈mn,n∈PX):xL T σ w c PX pa v:=by
 refine⟨h.len,λhb=> ?_,λn xs hb=> ?_⟩
 ·obtain⟨agg,h1,h2⟩:=h.val hb;refine⟨agg,h1, ?_⟩
  rcases h2 with ⟨h3,k,h4,h5⟩|⟨h3,vals,h4,h5,h6⟩
  ·exact .inl ⟨h3,k,h4,h5.mono hs⟩
  ·exact .inr ⟨h3,vals,h4,h5,λj k hj=>by obtain⟨u,hu,hk⟩:=h6 j k hj;exact⟨u,hu,hk.mono hs⟩⟩
 ·obtain⟨h1,h2,h3,h4,⟨vals,h5,h6,h7⟩,h8⟩:=h.box n xs hb;exact⟨h1,h2,h3,h4,⟨vals,h5,h6,λj k hj=>by obtain⟨u,hu,hk⟩:=h7 j k hj;exact⟨u,hu,hk.mono hs⟩⟩,h8⟩
end
end Go.FG

namespace Go.FG
theorem kA{α:Type}{f:α->ax aG}:∀{l:ax α},(l.flatMap f).Nodup->(∀(i j:aG) (x y:α) (z:aG),l[i]? =ah x->l[j]? =ah y->z∈f x->z∈f y->i=j)/\∀x∈l,(f x).Nodup:=by
 intro l;induction l with
 |nil=>intro _;exact⟨λi j x y z h=>by simp at h,λx h=>by cases h⟩
 |cons a l ih=>
  intro h;rw[vH]at h;obtain⟨h1,h2,h3⟩:=dQ.1 h;obtain⟨i1,i2⟩:=ih h2;refine⟨λi j x y z hi hj hx hy=> ?_,λx hx=> ?_⟩
  ·cases i with
   |zero=>
    cases hi;cases j with
    |zero=>rfl
    |succ j=>exact b_ rfl (h3 z hx z (bz.2 ⟨y,aM hj,hy⟩))
   |succ i=>
    cases j with
    |zero=>cases hj;exact b_ rfl (h3 z hy z (bz.2 ⟨x,aM hi,hx⟩))
    |succ j=>rw[i1 i j x y z hi hj hx hy]
  ·rcases b7.1 hx with rfl|hx
   ·exact h1
   ·exact i2 x hx
def loc(ps:ax Pa)(m:aG):aA aG:=
 match ps[(m-900000000)/1000]? with
 |none=>ai
 |some pa=>if(m-900000000)%1000=900 then pa.box.map (·.1)else(pa.cs[(m-900000000)%1000]?).bind λk=>match k.src with| .own nm _ _=>ah nm| .no=>ai
theorem DG{ps:ax Pa}{p j:aG}{pa:Pa}{k:Pk}{nm e:aG}{ex:aU}(hp:ps[p]? =ah pa)(hj:pa.cs[j]? =ah k)(hs:k.src= .own nm e ex)(hl:j<900):loc ps (dC p j)=ah nm:=by obtain⟨h1,h2⟩:=sa (p:=p) (j:=j) (by omega);unfold loc;rw[h1,h2,hp];simp only;rw[a_ (by omega),hj];simp only[Option.bind_some,hs]
theorem yM{ps:ax Pa}{p n:aG}{pa:Pa}{xs:ax AV}(hp:ps[p]? =ah pa)(hb:pa.box=ah (n,xs)):loc ps (dC p 900)=ah n:=by obtain⟨h1,h2⟩:=sa (p:=p) (j:=900) (by omega);unfold loc;rw[h1,h2,hp];simp[hb]
def pf(σ:St)(c:dZ)(ps:ax Pa):dZ:=
 ⟨λm=>match loc ps m with|some n=>c.P n|none=>⟨aj,0,0,0,0,0⟩,λm=>match loc ps m with|some n=>c.G n|none=>λ_ _=>⟨aj,0,0,0,0,0⟩,XW σ c (ps.flatMap (·.mn))⟩
theorem rU{σ:St}{c:dZ}{ps:ax Pa}{m n:aG}(h:loc ps m=ah n):(pf σ c ps).P m=c.P n/\(pf σ c ps).G m=c.G n:=by unfold pf;simp only[h];exact⟨trivial,trivial⟩
section
variable {P:cC} {E:eL} {σ:St} {a:Act} {w:bw} {c:dZ} {o:eD} {nm:aG} {e:qQ}
structure Handed (T:Tab) (σ:St) (w:bw) (c:dZ) (ps:ax Pa) (yH:ax (ax CV)) (vs:cX a7):Prop where
 size:vs.size=ps.length+yH.length
 at_:∀(q:aG) (pa:Pa),ps[q]? =ah pa->∃v,vs[q]? =ah v/\xL T σ w c (ps.flatMap (·.mn)) pa v
 fb:∀(q:aG) (cs:ax CV),yH[q]? =ah cs->∃b,vs[ps.length+q]? =ah (.pointer (ah (ad b 0)))/\FB T w c.K b cs
 nd:(ps.flatMap (·.r_)).Nodup
 ap:∀n∈ps.flatMap (·.r_),n∉ps.flatMap (·.mn)
def iK(ps:ax Pa)(yH:ax (ax CV)):ax eu:=ps.map (·.arg)++yH.map eu.fb
theorem tq{ps:ax Pa}{yH:ax (ax CV)}{p:aG}{x:eu}(h:(iK ps yH)[p]? =ah x):(∃pa,ps[p]? =ah pa/\x=pa.arg)\/(ps.length<=p/\∃cs,yH[p-ps.length]? =ah cs/\x= .fb cs):=by
 unfold iK at h;by_cases hp:p<ps.length
 ·rw[dx (by simpa using hp),bg]at h;cases hq:ps[p]? with
  |none=>rw[hq]at h;cases h
  |some pa=>rw[hq]at h;cases h;exact .inl ⟨pa,rfl,rfl⟩
 ·rw[cT (by simp;omega),bg,bM]at h;cases hq:yH[p-ps.length]? with
  |none=>rw[hq]at h;cases h
  |some cs=>rw[hq]at h;cases h;exact .inr ⟨by omega,cs,rfl,rfl⟩
theorem PG{T:Tab}{ps:ax Pa}{p j:aG}{pa:Pa}{k:Pk}{u:a7}(hp:ps[p]? =ah pa)(hj:pa.cs[j]? =ah k)(hl:j<900)(h:s_ T σ w c (ps.flatMap (·.mn)) k u):dN T w (pf σ c ps) (jU (dC p j) k.a) u:=by
 unfold s_ at h;split at h
 ·rename_i n e ex hs;obtain⟨xs,h1,h2,h3⟩:=h;rw[h2];show u=mb ((pf σ c ps).P (dC p j));rw[(rU (DG hp hj hs hl)).1];exact h3
 ·exact h.1 _ (λb hb=>hb) _
theorem PE{T:Tab}{mn:ax aG}{pa:Pa}{v:a7}(h:xL T σ w c mn pa v){xs:ax AA}(hx:(∃g,pa.arg= .v g xs)\/pa.arg= .pt xs):xs=pa.cs.map (·.a)/\∀(j:aG) (k:Pk),pa.cs[j]? =ah k->∃u,s_ T σ w c mn k u:=by
 cases hb:pa.box with
 |none=>
  obtain⟨agg,h1,h2⟩:=h.val hb;rw[h1]at hx;have:xs=pa.cs.map (·.a):=by rcases hx with ⟨g,hx⟩|hx<;>cases hx;rfl
  refine⟨this,λj k hj=> ?_⟩
  rcases h2 with ⟨_,k',hk,hp⟩|⟨_,vals,_,_,hp⟩
  ·rw[hk]at hj;cases j with
   |zero=>cases hj;exact⟨_,hp⟩
   |succ j=>simp at hj
  ·obtain⟨u,_,hu⟩:=hp j k hj;exact⟨u,hu⟩
 |some nx=>
  obtain⟨n,ys⟩:=nx;obtain⟨h1,_,_,_,⟨vals,_,_,hp⟩,_⟩:=h.box n ys hb;rw[h1]at hx;have:xs=pa.cs.map (·.a):=by rcases hx with ⟨g,hx⟩|hx<;>cases hx;rfl
  exact⟨this,λj k hj=>by obtain⟨u,_,hu⟩:=hp j k hj;exact⟨u,hu⟩⟩
theorem uL(hok:Ok E σ w c){ps:ax Pa}{yH:ax (ax CV)}{vs:cX a7}(hh:Handed E σ w c ps yH vs){m:aG}{ob:Obj}(h:inj (iK ps yH) (cG m)= .o ob):
  ∃n o p pa,loc ps m=ah n/\ps[p]? =ah pa/\n∈pa.r_/\σ (cG n)= .o o/\ot E w (pf σ c ps) m ob/\(∀b,eI (pf σ c ps) m ob b->eI c n o b)/\
   ((m=dC p 900/\∃xs,pa.box=ah (n,xs))\/∃j k e ex,m=dC p j/\j<900/\pa.cs[j]? =ah k/\k.src= .own n e ex):=by
 obtain⟨p,x,h0,h⟩:=yL h;have aml:∀cs xs,x= .fb cs->¬((∃g,x= .v g xs)\/x= .pt xs):=by rintro cs xs rfl (⟨g,h⟩|h)<;>cases h
 rcases tq h0 with ⟨pa,hp,rfl⟩|⟨_,cs,_,hx⟩
 ·obtain⟨v,hv,HE⟩:=hh.at_ p pa hp;rcases h with ⟨xs,hx,rfl,rfl⟩|⟨xs,j,e,ex,ys,hx,hj,rfl,rfl⟩
  ·cases hb:pa.box with
   |none=>obtain⟨agg,h1,_⟩:=HE.val hb;rw[h1]at hx;cases hx
   |some nx=>
    obtain⟨n,zs⟩:=nx;obtain⟨h1,h2,h3,h4,⟨vals,h5,h6,h7⟩,_⟩:=HE.box n zs hb;rw[h1]at hx;cases hx;have Oh:=yM hp hb;obtain⟨e1,e2⟩:=rU (σ:=σ) (c:=c) Oh;refine⟨n,_,p,pa,Oh,hp,by simp[Pa.r_,hb],h3, ?_,λb hf=>by rw[show b=_ from hf,e1];rfl, .inl ⟨rfl,zs,hb⟩⟩
    refine⟨vals,by rw[e1];exact h5,by rw[gP,bM,h6];exact h4.symm,λj y hj=> ?_⟩
    rw[gA,bg]at hj;cases hk:pa.cs[j]? with
    |none=>rw[hk]at hj;cases hj
    |some k=>
     rw[hk]at hj;cases hj;obtain⟨u,hu,SN⟩:=h7 j k hk;have jB:j<900:=by have:=(aP.1 hk).1;have:=HE.len;omega
     refine⟨u,hu, ?_⟩
     have hn:dC p 0+j=dC p j:=by unfold dC;omega
     rw[hn];exact PG hp hk jB SN
  ·obtain⟨VF,SN⟩:=PE HE hx;rw[VF,bg]at hj;cases hk:pa.cs[j]? with
   |none=>rw[hk]at hj;cases hj
   |some k=>
    rw[hk]at hj;have hka:k.a= .ow e ex ys:=by simpa using hj
    obtain⟨u,hu⟩:=SN j k hk;have jB:j<900:=by have:=(aP.1 hk).1;have:=HE.len;omega
    unfold s_ at hu;split at hu
    ·rename_i n e' rW hs;obtain⟨zs,q1,q2,q3⟩:=hu;rw[hka]at q2;cases q2;have Oh:=DG hp hk hs jB;obtain⟨e1,e2⟩:=rU (σ:=σ) (c:=c) Oh;refine⟨n,_,p,pa,Oh,hp, ?_,q1, ?_,λb hf=>by rw[kP (c:=⟨λ_=>c.P n,λ_=>c.G n,c.K⟩) (c':=pf σ c ps) ⟨e1,e2⟩]at hf;exact hf, .inr ⟨j,k,e,ex,rfl,jB,hk,hs⟩⟩
     ·refine bE _ (bz.2 ⟨k,aM hk, ?_⟩);simp[Pk.r_,hs]
     ·have mc:=hok.obj n _ q1;obtain⟨⟨t2,r1,r2,r3⟩,r4,r5⟩:=mc;refine⟨⟨t2,r1,by rw[e1];exact r2,r3⟩, ?_,λhx=>by rw[e1,e2];exact r5 hx⟩
      rw[e1,e2];refine r4.frame (λ_=>rfl) (λi j y x u hy hx hr=> ?_);split at hr
      ·rename_i nX;rw[ba nX];exact hr
      ·rename_i nX;rw[a_ nX];exact hr.frame (λ_ _=>rfl) (λb hb=> .inl hb)
    ·exact b_ hka (hu.2 _ _ _)
 ·rcases h with ⟨xs,h,_⟩|⟨xs,j,e,ex,ys,h,_⟩
  ·rw[hx]at h;cases h
  ·exact b_ h (aml cs xs hx)
theorem enter(hok:Ok E σ w c){ps:ax Pa}{yH:ax (ax CV)}{vs:cX a7}(hh:Handed E σ w c ps yH vs):
  Ok E (inj (iK ps yH)) w (pf σ c ps)/\(∀(p:aG) (x:eu),(iK ps yH)[p]? =ah x->∃v,vs[p]? =ah v/\ic E w (pf σ c ps) (qy p x) v)/\
  ∀b,vq (inj (iK ps yH)) (pf σ c ps) b->∃n∈ps.flatMap (·.r_),∃o,σ (cG n)= .o o/\eI c n o b:=by
 have FP:∀{p:aG} {pa:Pa} {n:aG},ps[p]? =ah pa->n∈pa.r_->n∈ps.flatMap (·.r_):=λhp hn=>bz.2 ⟨_,aM hp,hn⟩;obtain⟨nd1,nd2⟩:=kA hh.nd;refine⟨⟨λm ob h=> ?_,λm ob m' ob' b h h' hf uI=> ?_,λm ob b h hf hk=> ?_,λb hb=> ?_,λm xs h=>DB h,E.gp.fr hok.gp (λ_ _=>rfl) (λb hb=> .inl hb)⟩,λp x hx=> ?_, ?_⟩
 ·obtain⟨n,o,p,pa,_,_,_,_,h,_⟩:=uL hok hh h;exact h
 ·obtain⟨n,o,p,pa,_,hp,hn,ho,_,oz,me⟩:=uL hok hh h;obtain⟨n',o',p',ZU,_,mE,jC,sQ,_,Og,VA⟩:=uL hok hh h';have:=hok.sep n o n' o' b ho sQ (oz b hf) (Og b uI);subst this;have:=nd1 p p' pa ZU n hp mE hn jC;subst this;rw[hp]at mE;cases mE;have ndm:=nd2 pa (aM hp);unfold Pa.r_ at ndm;obtain⟨_,m2,m3⟩:=dQ.1 ndm;have acV:∀(j:aG) (k:Pk) (e:aG) (ex:aU),pa.cs[j]? =ah k->k.src= .own n e ex->n∈pa.cs.flatMap (·.r_):=λj k e ex hk hs=>bz.2 ⟨k,aM hk,by simp[Pk.r_,hs]⟩;rcases me with ⟨rfl,xs,hb⟩|⟨j,k,e,ex,rfl,hj,hk,hs⟩
  ·rcases VA with ⟨rfl,_⟩|⟨j',k',e',rW,rfl,Dy,sP,hs'⟩
   ·rfl
   ·exact b_ rfl (m3 n (by simp[hb]) n (acV _ _ _ _ sP hs'))
  ·rcases VA with ⟨rfl,xs,hb⟩|⟨j',k',e',rW,rfl,Dy,sP,hs'⟩
   ·exact b_ rfl (m3 n (by simp[hb]) n (acV _ _ _ _ hk hs))
   ·have:=(kA m2).1 j j' k k' n hk sP (by simp[Pk.r_,hs]) (by simp[Pk.r_,hs']);rw[this]
 ·obtain⟨n,o,p,pa,_,hp,hn,ho,_,oz,_⟩:=uL hok hh h;rcases hk with hk|⟨n',jC,o',sQ,uI⟩
  ·exact hok.kk n o b ho (oz b hf) hk
  ·have:=hok.sep n o n' o' b ho sQ (oz b hf) uI;subst this;exact hh.ap n (FP hp hn) jC
 ·rcases hb with hb|⟨n',jC,o',sQ,uI⟩
  ·exact hok.lt b hb
  ·exact vq.lt hok ⟨n',o',sQ,uI⟩
 ·rcases tq hx with ⟨pa,hp,rfl⟩|⟨hle,cs,AL,rfl⟩
  ·obtain⟨v,hv,HE⟩:=hh.at_ p pa hp;refine⟨v,hv, ?_⟩
   have small:∀{j:aG} {k:Pk},pa.cs[j]? =ah k->j<900:=λhj=>by have:=(aP.1 hj).1;have:=HE.len;omega
   cases hb:pa.box with
   |none=>
    obtain⟨agg,h1,h2⟩:=HE.val hb;rw[h1];rcases h2 with ⟨rfl,k,hk,SN⟩|⟨rfl,vals,rfl,hs,hc⟩
    ·rw[hk];have:=PG (j:=0) hp (by rw[hk];rfl) (by omega) SN;exact this
    ·refine⟨vals,rfl,by rw[gP,bM];exact hs,λj y hj=> ?_⟩
     rw[gA,bg]at hj;cases hk:pa.cs[j]? with
     |none=>rw[hk]at hj;cases hj
     |some k=>
      rw[hk]at hj;cases hj;obtain⟨u,hu,SN⟩:=hc j k hk;refine⟨u,hu, ?_⟩
      have hn:dC p 0+j=dC p j:=by unfold dC;omega
      rw[hn];exact PG hp hk (small hk) SN
   |some nx=>obtain⟨n,zs⟩:=nx;obtain⟨h1,h2,_⟩:=HE.box n zs hb;rw[h1];show v= .pointer (ah (ad ((pf σ c ps).P (dC p 900)).blk 0));rw[(rU (yM hp hb)).1];exact h2
  ·obtain⟨b,hv,hf⟩:=hh.fb (p-ps.length) cs AL;rw[show ps.length+(p-ps.length)=p by omega]at hv;exact⟨_,hv,b,rfl,hf.frame (λ_ _=>rfl) (λb hb=> .inl hb)⟩
 ·rintro b ⟨m,ob,h,hf⟩;obtain⟨n,o,p,pa,_,hp,hn,ho,_,oz,_⟩:=uL hok hh h;exact⟨n,FP hp hn,o,ho,oz b hf⟩
end
end Go.FG

namespace Go.FG
def rE(p j:aG)(a:AA):AV:=match a with| .kp _=> .own (dC p j)|a=>jU (dC p (100+j)) a
def mW(p:aG):aG->ax AA->ax AV
 |_,[]=>[]|j,a::r=>rE p j a::mW p (j+1) r
def F2(p j:aG)(a b:AA):ax (aG×dS):=
 match b with
 | .kp ys=>(match a with| .ow e ex _=>[(cG (dC p j), .o (.row e ex ys))]|_=>[])
 | .ow e ex ys=>[(cG (dC p (100+j)), .o (.row e ex ys))]
 |_=>[]
def tK(p:aG):aG->ax AA->ax AA->ax (aG×dS)
 |_,_,[]=>[]|j,as,b::r=>F2 p j (as.headD .nl) b++tK p (j+1) as.tail r
def Cd(p:aG)(a:eu)(l:ax AA):ax (aG×dS):=
 match a with
 | .v _ xs=>tK p 0 xs l
 | .pt xs=>(cG (dC p 900), .o (.box (mW p 0 l)))::tK p 0 xs l
 | .fb _=>[]
def LI:aG->ax eu->ax (ax AA)->ax (aG×dS)
 |_,[],_=>[]|p,a::r,l=>Cd p a (l.headD [])++LI (p+1) r l.tail
def LS:aG->ax eu->ax (aG×dS)
 |_,[]=>[]|q,a::r=>uK q a++LS (q+1) r
def nS(args:ax eu)(r:Res):St:=eJ (LS 500 r.rs++LI 0 args r.outs)
def Dd(q:aG)(a:eu):aU×ax AV:=match a with| .v g xs=>(g,fB (dC q 0) xs)| .pt _=>(ao,[.bp (dC q 900) 0])| .fb xs=>(ao,[.fp xs 0])
def jV:aG->ax eu->ax (aU×ax AV)
 |_,[]=>[]|q,a::r=>Dd q a::jV (q+1) r
def P4(rs:ax eu):SV:=qA (jV 500 rs)
def IU(T:Tab)(args:ax eu)(r:Res)(c1:dZ)(w:bw)(v:a7)(w':bw):Prop:=
 ∃c3,Ok T (nS args r) w' c3/\Grow (inj args) c1 w (nS args r) c3 w'/\(∀m,inj args (cG m)≠ .iN->c3.P m=c1.P m/\c3.G m=c1.G m)/\ic T w' c3 (P4 r.rs) v
def FnOk(P:cC)(T:Tab)(g:aG)(spec:ax eu->aA (aU×Res)):Prop:=
 ∀args r,spec args=ah (aj,r)->∀(w:bw) (c1:dZ) (vs:cX a7),Ok T (inj args) w c1->vs.size=args.length->(∀(p:aG) (x:eu),args[p]? =ah x->∃v,vs[p]? =ah v/\ic T w c1 (qy p x) v)->
  (∃fn,P.funcs[g]? =ah fn/\fn.body.isSome=aj/\(fn.name== "runtime.NumGoroutine")=ao)/\Calls P g vs w (λ| .returned v,w'=>IU T args r c1 w v w'|_,_=>False)
abbrev A1:=aG×aA aG×Obj
def find(L:ax A1)(m:aG):aA aG:=
 match L with
 |[]=>ai
 |(n,t,_)::r=>if m=n then t else find r m
theorem Fg{L:ax A1}{m x:aG}(h:find L m=ah x):∃ob,(m,ah x,ob)∈L:=by
 induction L with
 |nil=>cases h
 |cons d L ih=>
  obtain⟨n,t,ob⟩:=d;unfold find at h;split at h
  ·rename_i hm;subst hm;rw[h];exact⟨ob,cw ..⟩
  ·obtain⟨ob,h⟩:=ih h;exact⟨ob,cg _ h⟩
theorem Sx{L:ax A1}{m:aG}{t:aA aG}{ob:Obj}(h:(m,t,ob)∈L)(hn:(L.map (·.1)).Nodup):find L m=t:=by
 induction L with
 |nil=>cases h
 |cons d L ih=>
  obtain⟨n,t',ob'⟩:=d;rw[eF,jy]at hn;unfold find;rcases b7.1 h with h'|h'
  ·cases h';rw[ba rfl]
  ·have g_:m≠n:=λe=>hn.1 (cD.2 ⟨_,h',e⟩);rw[a_ g_];exact ih h' hn.2
def kD(ok:aU)(L:ax A1)(v v3:AV):Prop:=
 (v=v3/\match v with| .i _ _=>True| .b _=>True| .s _=>True| .nl=>True| .sh _ _=>ok=aj|_=>False)\/∃n x ob,v= .own n/\v3= .own x/\(n,ah x,ob)∈L
def US(L:ax A1)(v v3:AV):Prop:=∃n x ob,v= .bp n 0/\v3= .bp x 0/\(n,ah x,ob)∈L
def mq(ok:aU)(L:ax A1)(vs vs3:ax AV):Prop:=vs.length=vs3.length/\∀(j:aG) (v v3:AV),vs[j]? =ah v->vs3[j]? =ah v3->kD ok L v v3
def ArgRel(ok:aU)(L:ax A1)(s s3:aU×ax AV):Prop:=s.1=s3.1/\s.2.length=s3.2.length/\∀(j:aG) (v v3:AV),s.2[j]? =ah v->s3.2[j]? =ah v3->kD ok L v v3\/US L v v3
def Cv(ok:aU)(L:ax A1)(s s3:ax (aU×ax AV)):Prop:=s.length=s3.length/\∀(j:aG) (x x3:aU×ax AV),s[j]? =ah x->s3[j]? =ah x3->ArgRel ok L x x3
structure UT (σ σ3:St) (c c3:dZ) (ok:aU) (r_:ax aG) (L:ax A1) (n:aG) (t:aA aG) (ob:Obj):Prop where
 old:σ (cG n)≠ .iN->n∈r_
 new:σ (cG n)= .iN->n<900000000
 dead:t=ai->ob= .dead
 some_:∀x,t=ah x->(σ (cG n)≠ .iN->c3.P x=c.P n/\c3.G x=c.G n)/\
  ((∃e ex ys,ob= .row e ex ys/\σ3 (cG x)= .o (.row e ex ys)/\(ex=aj\/ok=aj))\/∃vs vs3,ob= .box vs/\σ3 (cG x)= .o (.box vs3)/\mq ok L vs vs3)
section
variable {P:cC} {E:eL} {σ:St} {a:Act} {w:bw} {c:dZ} {o:eD} {nm:aG} {e:qQ}
theorem leave(hok:Ok E σ w c)(dg:eC E σ a w c)(hd:∀d,o.dst=ah d->d<a.tmps.size){ps:ax Pa}{yH:ax (ax CV)}{vs:cX a7}(hh:Handed E σ w c ps yH vs)
  {r:Res} {v:a7} {w':bw} {c3:dZ} (Dz:Ok E (nS (iK ps yH) r) w' c3) (vu:Grow (inj (iK ps yH)) (pf σ c ps) w (nS (iK ps yH) r) c3 w') (tW:ic E w' c3 (P4 r.rs) v)
  {ok:aU} {L:ax A1} {Fz:ax (aG×Obj)} (hL:∀n t ob,(n,t,ob)∈L->UT σ (nS (iK ps yH) r) c c3 ok (ps.flatMap (·.r_)) L n t ob) (Fv:(L.map (·.1)).Nodup)
  (aj2:∀n n' x ob ob',(n,ah x,ob)∈L->(n',ah x,ob')∈L->n=n') (l_:∀n∈ps.flatMap (·.r_),∃t ob,(n,t,ob)∈L)
  (YV:∀n x,(n,x)∈Fz->ok=aj/\n∈ps.flatMap (·.mn)/\∃el ex xs,σ (cG n)= .o (.row el ex xs)/\x= .eU el xs) (hFa:ok=aj->∀n∈ps.flatMap (·.mn),∃x,(n,x)∈Fz)
  {ss:ax (aU×ax AV)} (hss:Cv ok L ss (jV 500 r.rs)):
  ∃c',Ok E (wr σ (jh (Fz++L.map λt=>(t.1,t.2.2))++dw o (qA ss))) w' c'/\eC E (wr σ (jh (Fz++L.map λt=>(t.1,t.2.2))++dw o (qA ss))) (a.put o.dst v) w' c'/\Grow σ c w (wr σ (jh (Fz++L.map λt=>(t.1,t.2.2))++dw o (qA ss))) c' w'/\iH σ c c':=by
 obtain⟨Ol,_,acL⟩:=enter hok hh;let D:ax (aG×Obj):=Fz++L.map λt=>(t.1,t.2.2)
 have OZ:∀n x,(n,x)∈D->(n,x)∈Fz\/∃t,(n,t,x)∈L:=by
  intro n x hm;rcases aX.1 hm with h|h
  ·exact .inl h
  ·obtain⟨⟨n',t,ob⟩,h1,h2⟩:=cD.1 h;cases h2;exact .inr ⟨t,h1⟩
 have inD:∀n t ob,(n,t,ob)∈L->(n,ob)∈D:=λn t ob h=>bE _ (cD.2 ⟨_,h,rfl⟩);have amj:∀n,n∈ps.flatMap (·.r_)->sq D n:=λn hn=>by obtain⟨t,ob,h⟩:=l_ n hn;exact⟨ob,inD n t ob h⟩
 have Ae:∀b,vq (inj (iK ps yH)) (pf σ c ps) b->ja (sq D) σ c b:=λb hb=>by obtain⟨n,hn,ob,h1,h2⟩:=acL b hb;exact⟨n,ob,amj n hn,h1,h2⟩
 let K':aG->Prop:=λb=>if ok=aj then c3.K b else c.K b
 let c':dZ:=⟨λm=>match find L m with|some x=>c3.P x|none=>c.P m,λm=>match find L m with|some x=>c3.G x|none=>c.G m,K'⟩
 have at_:∀n x ob,(n,ah x,ob)∈L->c'.P n=c3.P x/\c'.G n=c3.G x:=λn x ob h=>by have:=Sx h Fv;simp only[c',this];exact⟨trivial,trivial⟩
 have ade:∀n,find L n=ai->c'.P n=c.P n/\c'.G n=c.G n:=λn h=>by simp only[c',h];exact⟨trivial,trivial⟩
 have hA:iH σ c c':=by
  intro m hm;cases hf:find L m with
  |none=>exact ade m hf
  |some x=>
   obtain⟨ob,hx⟩:=Fg hf;obtain⟨e1,e2⟩:=at_ m x ob hx;have he:=hL m _ ob hx;rw[e1,e2];by_cases hn:σ (cG m)= .iN
   ·have:=he.new hn;rcases hm with h|h
    ·exact b_ hn h
    ·omega
   ·exact(he.some_ x rfl).1 hn
 have XX:ok=aj->∀b,K' b↔c3.K b:=λh b=>by simp only[K',h,if_true]
 have Kno:ok=ao->∀b,K' b↔c.K b:=λh b=>by simp only[K',h];simp
 have K13:∀b,(pf σ c ps).K b->c3.K b:=vu.K;have cK1:∀b,c.K b->(pf σ c ps).K b:=λb hb=> .inl hb;have hK:∀b,c.K b->K' b:=λb hb=>by
  cases h:ok with
  |true=>exact(XX h b).2 (K13 b (cK1 b hb))
  |false=>exact(Kno h b).2 hb
 have Lc:∀b,K' b->c.K b\/ja (sq D) σ c b\/w.heap.size<=b:=λb hb=>by
  cases h:ok with
  |true=>
   rcases vu.kn b ((XX h b).1 hb)with h1|h1|h1
   ·rcases h1 with h1|⟨n,hn,ob,h2,h3⟩
    ·exact .inl h1
    ·obtain⟨x,hx⟩:=hFa h n hn;exact .inr (.inl ⟨n,ob,⟨x,bL _ hx⟩,h2,h3⟩)
   ·exact .inr (.inl (Ae b h1))
   ·exact .inr (.inr h1)
  |false=>exact .inl ((Kno h b).1 hb)
 have Dx:∀b,K' b->b<w'.heap.size:=λb hb=>by
  cases h:ok with
  |true=>exact Dz.lt b ((XX h b).1 hb)
  |false=>exact gC (hok.lt b ((Kno h b).1 hb)) vu.size
 have N_:∀n x ob b,(n,ah x,ob)∈L->eI c' n ob b->∃o3,nS (iK ps yH) r (cG x)= .o o3/\eI c3 x o3 b:=by
  intro n x ob b hm hf;obtain⟨e1,e2⟩:=at_ n x ob hm;rcases((hL n _ ob hm).some_ x rfl).2 with ⟨e,ex,ys,rfl,h3,_⟩|⟨us,Xm,rfl,h3,_⟩
  ·refine⟨_,h3, ?_⟩
   simp only[eI,e1,e2]at hf⊢;exact hf
  ·refine⟨_,h3, ?_⟩
   simp only[eI,e1]at hf⊢;exact hf
 have NQ:∀{v v3:AV} {u:a7},kD ok L v v3->dN E w' c3 v3 u->dN E w' c' v u/\∀n∈bm v,sq D n:=by
  rintro v v3 u (⟨rfl,h⟩|⟨n,x,ob,rfl,rfl,hm⟩) hu
  ·cases v with
   |sh e xs=>exact⟨cK.frame hu (λ_ _=>rfl) (λb hb=>(XX h b).2 hb),λn hn=>by simp[bm]at hn⟩
   |i=>exact⟨hu,λn hn=>by simp[bm]at hn⟩
   |b=>exact⟨hu,λn hn=>by simp[bm]at hn⟩
   |s=>exact⟨hu,λn hn=>by simp[bm]at hn⟩
   |nl=>exact⟨hu,λn hn=>by simp[bm]at hn⟩
   |_=>exact h.elim
  ·refine⟨?_,λm uJ=> ?_⟩
   ·show u=mb (c'.P n);rw[(at_ n x ob hm).1];exact hu
   ·have:m=n:=by simpa [bm]using uJ
    subst this;exact⟨ob,inD _ _ _ hm⟩
 have ajp:∀{v v3:AV} {u:a7},US L v v3->dN E w' c3 v3 u->dN E w' c' v u/\∀n∈bm v,sq D n:=by
  rintro v v3 u ⟨n,x,ob,rfl,rfl,hm⟩ hu;refine⟨?_,λm uJ=> ?_⟩
  ·show u= .pointer (ah (ad (c'.P n).blk 0));rw[(at_ n x ob hm).1];exact hu
  ·have:m=n:=by simpa [bm]using uJ
   subst this;exact⟨ob,inD _ _ _ hm⟩
 have Vg:∀{s s3:aU×ax AV} {u:a7},ArgRel ok L s s3->o_ E w' c3 s3.1 s3.2 u->o_ E w' c' s.1 s.2 u/\∀n∈s.2.flatMap bm,sq D n:=by
  rintro ⟨g,xs⟩ ⟨g3,xs3⟩ u ⟨h1,h2,h3⟩ hu;have h1:g=g3:=h1;subst h1;have one:∀(j:aG) (y:AV) (uu:a7),xs[j]? =ah y->(∀y3,xs3[j]? =ah y3->dN E w' c3 y3 uu)->dN E w' c' y uu/\∀n∈bm y,sq D n:=by
   intro j y uu hj hu3;have jB:j<xs3.length:=by rw[<-h2];exact(aP.1 hj).1
   have Jw:=h3 j y xs3[j] hj (by simp[jB]);have qx:=hu3 xs3[j] (by simp[jB]);rcases Jw with h|h
   ·exact NQ h qx
   ·exact ajp h qx
  replace hu:o_ E w' c3 g xs3 u:=hu;unfold o_ at hu;split at hu
  ·rename_i y3;obtain⟨y,rfl⟩:=fW.1 (show xs.length=1 from h2);obtain⟨k1,k2⟩:=one 0 y u rfl (λy3' h=>by cases h;exact hu);exact⟨k1,λn hn=>k2 n (by simpa using hn)⟩
  ·obtain⟨vals,rfl,hs,hv⟩:=hu;have cell:∀(j:aG) (y:AV),xs[j]? =ah y->∃uu:a7,vals[j]? =ah uu/\dN E w' c' y uu/\∀n∈bm y,sq D n:=by
    intro j y hj;have jB:j<xs3.length:=by rw[<-h2];exact(aP.1 hj).1
    obtain⟨uu,hu,ha⟩:=hv j xs3[j] (by simp[jB]);obtain⟨k1,k2⟩:=one j y uu hj (λy3' h=>by simp[jB]at h;rw[<-h];exact ha);exact⟨uu,hu,k1,k2⟩
   refine⟨⟨vals,rfl,by rw[hs];exact h2.symm,λj y hj=> ?_⟩,λn hn=> ?_⟩
   ·obtain⟨uu,k1,k2,_⟩:=cell j y hj;exact⟨uu,k1,k2⟩
   ·obtain⟨y,hy,hn⟩:=bz.1 hn;obtain⟨j,hj⟩:=bQ hy;obtain⟨uu,_,_,k3⟩:=cell j y hj;exact k3 n hn
  ·exact hu.elim
 have ae8:ic E w' c' (qA ss) v/\∀n∈b8 (qA ss),sq D n:=by
  obtain⟨hl,hr⟩:=hss;have jf:∀(l l3:ax (aU×ax AV)),l=ss->l3=jV 500 r.rs->ic E w' c3 (.jf l3) v->ic E w' c' (.jf l) v/\∀n∈b8 (.jf l),sq D n:=by
   rintro l l3 rfl rfl ⟨us,rfl,hs,hv⟩;have cell:∀(j:aG) (x:aU×ax AV),l[j]? =ah x->∃u:a7,us[j]? =ah u/\o_ E w' c' x.1 x.2 u/\∀n∈x.2.flatMap bm,sq D n:=by
    intro j x hj;have jB:j<(jV 500 r.rs).length:=by rw[<-hl];exact(aP.1 hj).1
    have h3:(jV 500 r.rs)[j]? =ah ((jV 500 r.rs)[j].1,(jV 500 r.rs)[j].2):=by simp[jB]
    obtain⟨u,hu,ha⟩:=hv j _ _ h3;obtain⟨k1,k2⟩:=Vg (hr j x _ hj h3) ha;exact⟨u,hu,k1,k2⟩
   refine⟨⟨us,rfl,by rw[hs];exact hl.symm,λj g xs hj=> ?_⟩,λn hn=> ?_⟩
   ·obtain⟨u,k1,k2,_⟩:=cell j (g,xs) hj;exact⟨u,k1,k2⟩
   ·obtain⟨x,hx,hn⟩:=bz.1 hn;obtain⟨j,hj⟩:=bQ hx;obtain⟨u,_,_,k3⟩:=cell j x hj;exact k3 n hn
  unfold P4 at tW;cases h3:jV 500 r.rs with
  |nil=>rw[h3]at tW hl;have:ss=[]:=fj hl;subst this;exact jf [] [] rfl h3.symm tW
  |cons x l=>
   cases l with
   |nil=>obtain⟨g,xs⟩:=x;rw[h3]at tW hl;obtain⟨⟨g',Iu⟩,rfl⟩:=fW.1 (show ss.length=1 from hl);exact Vg (s3:=(g,xs)) (hr 0 _ _ rfl (by rw[h3];rfl)) tW
   |cons y l=>
    rw[h3]at tW hl;match ss,hl with
    |s1::s2::st,_=>exact jf _ (x::y::l) rfl h3.symm tW
    |[_],hl=>simp at hl
    |[],hl=>simp at hl
 refine⟨c', ?_⟩
 have:=ES hok dg hd (D:=D) (s:=qA ss) (v:=v) (w':=w') (c':=c') hA ?_ ?_ ?_ ?_ hK Lc Dx ?_ vu.size vu.os vu.tape vu.output ae8.1 (λn hn=> .inr (ae8.2 n hn))
 ·exact⟨this.1,this.2.1,this.2.2,hA⟩
 ·intro n x hm;rcases OZ n x hm with hm|⟨t,hm⟩
  ·obtain⟨On,hn,el,ex,xs,hg,rfl⟩:=YV n x hm;have acI:find L n=none:=by
    cases hf:find L n with
    |none=>rfl
    |some x=>obtain⟨ob,hx⟩:=Fg hf;have:=(hL n _ ob hx).old (by rw[hg];simp);exact b_ hn (hh.ap n this)
   obtain⟨e1,_⟩:=ade n acI;obtain⟨h1,h2,ti,h3,h4⟩:=jR hok hg;show cK E w' K' (mb (c'.P n)) _/\(c'.P n).n=_/\_;rw[e1];refine⟨?_,h1,ti,h3,h4.1⟩
   have:=qi hok hg (K:=(pf σ c ps).K) cK1 (λb hb=> .inr ⟨n,hn,_,hg,hb⟩);exact this.frame (vu.UU Ol) (λb hb=>(XX On b).2 (K13 b hb))
  ·have he:=hL n t x hm;cases t with
   |none=>rw[he.dead rfl];trivial
   |some y=>
    obtain⟨e1,e2⟩:=at_ n y x hm;rcases(he.some_ y rfl).2 with ⟨el,ex,ys,rfl,h3,hor⟩|⟨us,Xm,rfl,h3,hl,hc⟩
    ·obtain⟨⟨t2,r1,r2,r3⟩,r4,r5⟩:=Dz.obj y _ h3;refine⟨⟨t2,r1,by rw[e1];exact r2,r3⟩, ?_,λhx=>by rw[e1,e2];exact r5 hx⟩
     rw[e1,e2];refine r4.frame (λ_=>rfl) (λi j yy xx u hy hx hr=> ?_);split at hr
     ·rename_i nX;rw[ba nX];exact hr
     ·rename_i nX;rw[a_ nX];have On:=hor.resolve_left nX;exact hr.frame (λ_ _=>rfl) (λb hb=>(XX On b).2 hb)
    ·obtain⟨vals,hb,hs,hv⟩:=Dz.obj y _ h3;refine⟨vals,by rw[e1];exact hb,by rw[hs];exact hl.symm,λj yy hj=> ?_⟩
     have jB:j<Xm.length:=by rw[<-hl];exact(aP.1 hj).1
     obtain⟨u,hu,ha⟩:=hv j Xm[j] (by simp[jB]);exact⟨u,hu,(NQ (hc j yy Xm[j] hj (by simp[jB])) ha).1⟩
 ·intro n x b hm hf;rcases OZ n x hm with hm|⟨t,hm⟩
  ·obtain⟨_,_,el,ex,xs,_,rfl⟩:=YV n x hm;exact hf.elim
  ·cases t with
   |none=>rw[(hL n _ x hm).dead rfl]at hf;exact hf.elim
   |some y=>
    obtain⟨o3,h3,hf3⟩:=N_ n y x b hm hf;have tz:ja (sq D) σ c b\/w.heap.size<=b:=(vu.own b ⟨y,o3,h3,hf3⟩).imp (Ae b) id;refine⟨tz,λhk=> ?_⟩
    cases h:ok with
    |true=>exact Dz.kk y o3 b h3 hf3 ((XX h b).1 hk)
    |false=>
     have hk:=(Kno h b).1 hk;rcases tz with tz|tz
     ·exact hok.HU tz.own hk
     ·have:=hok.lt b hk;omega
 ·intro n x n' x' b hm uJ hf uI;rcases OZ n x hm with hm|⟨t,hm⟩
  ·obtain⟨_,_,el,ex,xs,_,rfl⟩:=YV n x hm;exact hf.elim
  ·rcases OZ n' x' uJ with uJ|⟨t',uJ⟩
   ·obtain⟨_,_,el,ex,xs,_,rfl⟩:=YV n' x' uJ;exact uI.elim
   ·cases t with
    |none=>rw[(hL n _ x hm).dead rfl]at hf;exact hf.elim
    |some y=>
     cases t' with
     |none=>rw[(hL n' _ x' uJ).dead rfl]at uI;exact uI.elim
     |some y'=>obtain⟨o3,h3,hf3⟩:=N_ n y x b hm hf;obtain⟨o3',Jw,ajN⟩:=N_ n' y' x' b uJ uI;have:=Dz.sep y o3 y' o3' b h3 Jw hf3 ajN;subst this;exact aj2 n n' y x x' hm uJ
 ·intro n xs hm y hy m hmm;rcases OZ n _ hm with hm|⟨t,hm⟩
  ·obtain⟨_,_,el,ex,zs,_,h⟩:=YV n _ hm;cases h
  ·have he:=hL n t _ hm;cases t with
   |none=>have:=he.dead rfl;cases this
   |some z=>
    rcases(he.some_ z rfl).2 with ⟨el,ex,ys,h,_⟩|⟨us,Xm,h,h3,hl,hc⟩
    ·cases h
    ·cases h;obtain⟨j,hj⟩:=bQ hy;have jB:j<Xm.length:=by rw[<-hl];exact(aP.1 hj).1
     rcases hc j y Xm[j] hj (by simp[jB])with ⟨h1,h2⟩|⟨n',x',ob',h1,_,h2⟩
     ·exfalso;subst h1;cases h:Xm[j]<;>rw[h]at hmm h2<;>first|(simp[bm]at hmm;done)|exact h2
     ·rw[h1]at hmm;have:m=n':=by simpa [bm]using hmm
      subst this;exact .inr ⟨ob',inD _ _ _ h2⟩
 ·intro b hb Oi;exact vu.same b hb (λho=>Oi (Ae b ho))
end
end Go.FG

namespace Go.FG
def IA(a:eu)(xs:ax AA):Prop:=(∃g,a= .v g xs)\/a= .pt xs
inductive yX (args:ax eu) (r:Res):aG->dS->Prop
 |rb (q xs):r.rs[q]? =ah (.pt xs)->yX args r (dC (500+q) 900) (.o (.box (fB (dC (500+q) 0) xs)))
 |rr (q a xs j e ex ys):r.rs[q]? =ah a->IA a xs->xs[j]? =ah (.ow e ex ys)->yX args r (dC (500+q) j) (.o (.row e ex ys))
 |ob (p xs):args[p]? =ah (.pt xs)->yX args r (dC p 900) (.o (.box (mW p 0 (r.outs.getD p []))))
 |kp (p a xs j e ex z ys):args[p]? =ah a->IA a xs->xs[j]? =ah (.ow e ex z)->(r.outs.getD p [])[j]? =ah (.kp ys)->yX args r (dC p j) (.o (.row e ex ys))
 |nw (p a xs j e ex ys):args[p]? =ah a->IA a xs->(r.outs.getD p [])[j]? =ah (.ow e ex ys)->yX args r (dC p (100+j)) (.o (.row e ex ys))
theorem FN:∀{l:ax eu} {q:aG} {k:aG} {c:dS},(k,c)∈LS q l↔∃i a,l[i]? =ah a/\(k,c)∈uK (q+i) a:=by
 intro l;induction l with
 |nil=>intro q k c;simp[LS]
 |cons a l ih=>
  intro q k c;simp only[LS,aX,ih];constructor
  ·rintro (h|⟨i,b,h0,h⟩)
   ·exact⟨0,a,rfl,h⟩
   ·exact⟨i+1,b,h0,by rw[show q+(i+1)=q+1+i by omega];exact h⟩
  ·rintro ⟨i,b,h0,h⟩;cases i with
   |zero=>cases h0;exact .inl h
   |succ i=>exact .inr ⟨i,b,h0,by rw[show q+1+i=q+(i+1)by omega];exact h⟩
theorem FM:∀{l:ax eu} {p:aG} {os:ax (ax AA)} {k:aG} {c:dS},(k,c)∈LI p l os↔∃i a,l[i]? =ah a/\(k,c)∈Cd (p+i) a (os.getD i []):=by
 intro l;induction l with
 |nil=>intro p os k c;simp[LI]
 |cons a l ih=>
  intro p os k c;have h0:os.headD []=os.getD 0 []:=by cases os<;>rfl
  have h1:∀i,os.tail.getD i []=os.getD (i+1) []:=λi=>by cases os<;>simp
  simp only[LI,aX,ih,h0,h1];constructor
  ·rintro (h|⟨i,b,hb,h⟩)
   ·exact⟨0,a,rfl,h⟩
   ·exact⟨i+1,b,hb,by rw[show p+(i+1)=p+1+i by omega];exact h⟩
  ·rintro ⟨i,b,hb,h⟩;cases i with
   |zero=>cases hb;exact .inl h
   |succ i=>exact .inr ⟨i,b,hb,by rw[show p+1+i=p+(i+1)by omega];exact h⟩
theorem wx{p j:aG}{a b:AA}{k:aG}{c:dS}:(k,c)∈F2 p j a b↔(∃e ex z ys,a= .ow e ex z/\b= .kp ys/\k=cG (dC p j)/\c= .o (.row e ex ys))\/∃e ex ys,b= .ow e ex ys/\k=cG (dC p (100+j))/\c= .o (.row e ex ys):=by
 cases b with
 |kp ys=>
  cases a with
  |ow e ex z=>
   constructor
   ·intro h;have h:=aW.1 h;cases h;exact .inl ⟨e,ex,z,ys,rfl,rfl,rfl,rfl⟩
   ·rintro (⟨e',rW,z',AX,h1,h2,h3,h4⟩|⟨_,_,_,h,_⟩)
    ·cases h1;cases h2;rw[h3,h4];exact aW.2 rfl
    ·cases h
  |_=>simp[F2]
 |ow e ex ys=>
  constructor
  ·intro h;have h:=aW.1 h;cases h;exact .inr ⟨e,ex,ys,rfl,rfl,rfl⟩
  ·rintro (⟨_,_,_,_,_,h,_⟩|⟨e',rW,AX,h2,h3,h4⟩)
   ·cases h
   ·cases h2;rw[h3,h4];exact aW.2 rfl
 |_=>simp[F2]
theorem HN{p:aG}:∀{l:ax AA} {j:aG} {as:ax AA} {k:aG} {c:dS},(k,c)∈tK p j as l↔∃i b,l[i]? =ah b/\(k,c)∈F2 p (j+i) (as.getD i .nl) b:=by
 intro l;induction l with
 |nil=>intro j as k c;simp[tK]
 |cons b l ih=>
  intro j as k c;have h0:as.headD .nl=as.getD 0 .nl:=by cases as<;>rfl
  have h1:∀i,as.tail.getD i .nl=as.getD (i+1) .nl:=λi=>by cases as<;>simp
  simp only[tK,aX,ih,h0,h1];constructor
  ·rintro (h|⟨i,b',hb,h⟩)
   ·exact⟨0,b,rfl,h⟩
   ·exact⟨i+1,b',hb,by rw[show j+(i+1)=j+1+i by omega];exact h⟩
  ·rintro ⟨i,b',hb,h⟩;cases i with
   |zero=>cases hb;exact .inl h
   |succ i=>exact .inr ⟨i,b',hb,by rw[show j+1+i=j+(i+1)by omega];exact h⟩
theorem Dw{xs:ax AA}{i e:aG}{ex:aU}{z:Row}:xs.getD i .nl= .ow e ex z↔xs[i]? =ah (.ow e ex z):=by
 rw[cM];cases h:xs[i]? with
 |none=>simp
 |some x=>simp
theorem pq{p:aG}{a:eu}{l:ax AA}{k:aG}{c:dS}:(k,c)∈Cd p a l↔(∃xs,a= .pt xs/\k=cG (dC p 900)/\c= .o (.box (mW p 0 l)))\/∃xs,IA a xs/\((∃j e ex z ys,xs[j]? =ah (.ow e ex z)/\l[j]? =ah (.kp ys)/\k=cG (dC p j)/\c= .o (.row e ex ys))\/∃j e ex ys,l[j]? =ah (.ow e ex ys)/\k=cG (dC p (100+j))/\c= .o (.row e ex ys)):=by
 have cells:∀xs,(k,c)∈tK p 0 xs l↔((∃j e ex z ys,xs[j]? =ah (.ow e ex z)/\l[j]? =ah (.kp ys)/\k=cG (dC p j)/\c= .o (.row e ex ys))\/∃j e ex ys,l[j]? =ah (.ow e ex ys)/\k=cG (dC p (100+j))/\c= .o (.row e ex ys)):=by
  intro xs;rw[HN];constructor
  ·rintro ⟨i,b,hb,h⟩;rw[bG]at h;rcases wx.1 h with ⟨e,ex,z,ys,h1,rfl,h2,h3⟩|⟨e,ex,ys,rfl,h2,h3⟩
   ·exact .inl ⟨i,e,ex,z,ys,Dw.1 h1,hb,h2,h3⟩
   ·exact .inr ⟨i,e,ex,ys,hb,h2,h3⟩
  ·rintro (⟨i,e,ex,z,ys,h1,hb,h2,h3⟩|⟨i,e,ex,ys,hb,h2,h3⟩)
   ·exact⟨i,_,hb,wx.2 (.inl ⟨e,ex,z,ys,Dw.2 h1,rfl,by rw[bG];exact h2,h3⟩)⟩
   ·exact⟨i,_,hb,wx.2 (.inr ⟨e,ex,ys,rfl,by rw[bG];exact h2,h3⟩)⟩
 cases a with
 |v g xs=>
  simp only[Cd,cells];constructor
  ·intro h;exact .inr ⟨xs, .inl ⟨g,rfl⟩,h⟩
  ·rintro (⟨ys,h,_⟩|⟨ys,h|h,h'⟩)
   ·cases h
   ·obtain⟨g',h⟩:=h;cases h;exact h'
   ·cases h
 |pt xs=>
  simp only[Cd,b7,cells,ir];constructor
  ·rintro (⟨h1,h2⟩|h)
   ·exact .inl ⟨xs,rfl,h1,h2⟩
   ·exact .inr ⟨xs, .inr rfl,h⟩
  ·rintro (⟨ys,h,h1,h2⟩|⟨ys,h|h,h'⟩)
   ·exact .inl ⟨h1,h2⟩
   ·obtain⟨g',h⟩:=h;cases h
   ·cases h;exact .inr h'
 |fb xs=>
  simp only[Cd,qE,false_iff];rintro (⟨ys,h,_⟩|⟨ys,h|h,_⟩)
  ·cases h
  ·obtain⟨g',h⟩:=h;cases h
  ·cases h
theorem uB{args:ax eu}{r:Res}{m:aG}{c:dS}:(cG m,c)∈LS 500 r.rs++LI 0 args r.outs↔yX args r m c:=by
 rw[aX,FN,FM];constructor
 ·rintro (⟨q,a,h0,h⟩|⟨p,a,h0,h⟩)
  ·rcases gu.1 h with ⟨xs,rfl,h1,rfl⟩|⟨xs,j,e,ex,ys,hx,hj,h1,rfl⟩
   ·rw[jk h1];exact .rb q xs h0
   ·rw[jk h1];exact .rr q a xs j e ex ys h0 hx hj
  ·rw[bG]at h;rcases pq.1 h with ⟨xs,rfl,h1,rfl⟩|⟨xs,hx,⟨j,e,ex,z,ys,h2,h3,h1,rfl⟩|⟨j,e,ex,ys,h3,h1,rfl⟩⟩
   ·rw[jk h1];exact .ob p xs h0
   ·rw[jk h1];exact .kp p a xs j e ex z ys h0 hx h2 h3
   ·rw[jk h1];exact .nw p a xs j e ex ys h0 hx h3
 ·intro h;cases h with
  |rb q xs h0=>exact .inl ⟨q,_,h0,gu.2 (.inl ⟨xs,rfl,rfl,rfl⟩)⟩
  |rr q a xs j e ex ys h0 hx hj=>exact .inl ⟨q,a,h0,gu.2 (.inr ⟨xs,j,e,ex,ys,hx,hj,rfl,rfl⟩)⟩
  |ob p xs h0=>exact .inr ⟨p,_,h0,pq.2 (.inl ⟨xs,rfl,by rw[bG],by rw[bG]⟩)⟩
  |kp p a xs j e ex z ys h0 hx h2 h3=>exact .inr ⟨p,a,h0,pq.2 (.inr ⟨xs,hx, .inl ⟨j,e,ex,z,ys,h2,h3,by rw[bG],rfl⟩⟩)⟩
  |nw p a xs j e ex ys h0 hx h3=>exact .inr ⟨p,a,h0,pq.2 (.inr ⟨xs,hx, .inr ⟨j,e,ex,ys,h3,by rw[bG],rfl⟩⟩)⟩
def Uo:aA AA->aA dS
 |some (.ow e ex ys)=>ah (.o (.row e ex ys))|_=>ai
def kpC(a b:aA AA):aA dS:=
 match a,b with|some (.ow e ex _),ah (.kp ys)=>ah (.o (.row e ex ys))|_,_=>ai
def NA:eu->ax AA| .v _ xs=>xs| .pt xs=>xs| .fb _=>[]
theorem IA.eq{a:eu}{xs:ax AA}(h:IA a xs):NA a=xs:=by rcases h with ⟨g,rfl⟩|rfl<;>rfl
def BT(args:ax eu)(r:Res)(P J:aG):aA dS:=
 if 500<=P then(match r.rs[P-500]? with
  |some a=>if J=900 then ah (.o (.box (fB (dC P 0) (NA a))))else Uo (NA a)[J]?
  |none=>ai)
 else(match args[P]? with
  |some a=>if J=900 then ah (.o (.box (mW P 0 (r.outs.getD P []))))else if J<100 then kpC (NA a)[J]? (r.outs.getD P [])[J]? else Uo (r.outs.getD P [])[J-100]?
  |none=>ai)
structure Small (args:ax eu) (r:Res):Prop where
 a:∀(p:aG) (a:eu) (xs:ax AA),args[p]? =ah a->IA a xs->p<500
 rl:∀(q:aG) (a:eu) (xs:ax AA),r.rs[q]? =ah a->IA a xs->xs.length<=100
 o:∀p:aG,(r.outs.getD p []).length<=100
theorem E_{args:ax eu}{r:Res}(hs:Small args r){m:aG}{c:dS}(h:yX args r m c):∃P J,m=dC P J/\J<1000/\BT args r P J=ah c:=by
 cases h with
 |rb q xs h0=>exact⟨500+q,900,rfl,by omega,by simp[BT,h0,NA]⟩
 |rr q a xs j e ex ys h0 hx hj=>
  have:=hs.rl q a xs h0 hx;have jB:=(aP.1 hj).1;refine⟨500+q,j,rfl,by omega, ?_⟩
  have:j≠900:=by omega
  simp[BT,h0,hx.eq,hj,this,Uo]
 |ob p xs h0=>
  have:=hs.a p _ xs h0 (.inr rfl);have:¬500<=p:=by omega
  exact⟨p,900,rfl,by omega,by simp[BT,h0,this]⟩
 |kp p a xs j e ex z ys h0 hx h2 h3=>
  have:=hs.a p _ xs h0 hx;have h5:¬500<=p:=by omega
  have jB:=(aP.1 h3).1;have:=hs.o p;have GA:j≠900:=by omega
  have Rj:j<100:=by omega
  refine⟨p,j,rfl,by omega, ?_⟩
  simp only[BT,h0,hx.eq,h2,h3,GA,Rj,h5,if_false,if_true,kpC]
 |nw p a xs j e ex ys h0 hx h3=>
  have:=hs.a p _ xs h0 hx;have h5:¬500<=p:=by omega
  have jB:=(aP.1 h3).1;have:=hs.o p;have GA:¬100+j=900:=by omega
  have Rj:¬100+j<100:=by omega
  refine⟨p,100+j,rfl,by omega, ?_⟩
  have hj3:100+j-100=j:=by omega
  simp only[BT,h0,h3,GA,Rj,hj3,h5,if_false,Uo]
theorem wG:∀{l:ax (aG×dS)} {k:aG} {c:dS},(k,c)∈l->(∀c',(k,c')∈l->c'=c)->eJ l k=c:=by
 intro l;induction l with
 |nil=>intro k c h;cases h
 |cons d l ih=>
  obtain⟨k',c'⟩:=d;intro k c h hu;unfold eJ;cases hb:bA k k' with
  |true=>have:=aN hb;subst this;exact hu c' (cw ..)
  |false=>
   rcases b7.1 h with h|h
   ·cases h;simp at hb
   ·exact ih h (λc'' h''=>hu c'' (cg _ h''))
theorem uA{args:ax eu}{r:Res}(hs:Small args r){m:aG}{c:dS}(h:yX args r m c):nS args r (cG m)=c:=by refine wG (uB.2 h) (λc' h'=> ?_);obtain⟨P,J,h1,h2,h3⟩:=E_ hs h;obtain⟨P',J',Hy,K_,Jw⟩:=E_ hs (uB.1 h');obtain⟨rfl,rfl⟩:=sb h2 K_ (h1.symm.trans Hy);rw[h3]at Jw;cases Jw;rfl
theorem ph{args:ax eu}{r:Res}{m:aG}{o:Obj}(h:nS args r (cG m)= .o o):yX args r m (.o o):=uB.1 (n7 h (by simp))
theorem tJ{p:aG}:∀{xs:ax AA} {j i:aG},(mW p j xs)[i]? =(xs[i]?).map (rE p (j+i)):=by
 intro xs;induction xs with
 |nil=>intro j i;simp[mW]
 |cons a xs ih=>
  intro j i;cases i with
  |zero=>rfl
  |succ i=>simp only[mW,dr,ih];congr 2;omega
theorem sS{p:aG}:∀{xs:ax AA} {j:aG},(mW p j xs).length=xs.length:=by
 intro xs;induction xs with
 |nil=>intro j;rfl
 |cons a xs ih=>intro j;simp[mW,ih]
theorem Ci:∀{l:ax eu} {q i:aG},(jV q l)[i]? =(l[i]?).map (Dd (q+i)):=by
 intro l;induction l with
 |nil=>intro q i;simp[jV]
 |cons a l ih=>
  intro q i;cases i with
  |zero=>rfl
  |succ i=>simp only[jV,dr,ih];congr 2;omega
theorem uO:∀{l:ax eu} {q:aG},(jV q l).length=l.length:=by
 intro l;induction l with
 |nil=>intro q;rfl
 |cons a l ih=>intro q;simp[jV,ih]
end Go.FG

namespace Go.FG
def kT(L:ax A1):ax (aG×dS):=jh (L.map λt=>(t.1,t.2.2))
theorem gJ(L R:ax A1):kT (L++R)=kT L++kT R:=by simp[kT,jh]
def Mv(ok:aU)(σ:St)(n:aG)(a:AA):Prop:=
 match a with
 | .ow _ ex _=>(ex=aj\/ok=aj)/\σ (cG n)= .iN/\n<900000000
 | .sh _ _=>ok=aj| .kp _=>False| .fn _ _=>False|_=>True
def LB(n x:aG)(a:AA):ax A1:=match a with| .ow e ex ys=>[(n,ah x, .row e ex ys)]|_=>[]
theorem FL{n x:aG}{a:AA}{m:aG}{t:aA aG}{ob:Obj}:(m,t,ob)∈LB n x a↔∃e ex ys,a= .ow e ex ys/\m=n/\t=ah x/\ob= .row e ex ys:=by
 cases a with
 |ow e ex ys=>
  constructor
  ·intro h;have h:=aW.1 h;cases h;exact⟨e,ex,ys,rfl,rfl,rfl,rfl⟩
  ·rintro ⟨e',rW,AX,h,rfl,rfl,rfl⟩;cases h;exact aW.2 rfl
 |_=>simp[LB]
theorem kD.mono{ok:aU}{L L':ax A1}{v v3:AV}(h:kD ok L v v3)(hs:∀e∈L,e∈L'):kD ok L' v v3:=h.imp id (λ⟨n,x,ob,h1,h2,h3⟩=>⟨n,x,ob,h1,h2,hs _ h3⟩)
theorem mq.mono{ok:aU}{L L':ax A1}{v v3:ax AV}(h:mq ok L v v3)(hs:∀e∈L,e∈L'):mq ok L' v v3:=⟨h.1,λj x y hx hy=>(h.2 j x y hx hy).mono hs⟩
section
variable {P:cC} {E:eL} {σ:St} {a:Act} {w:bw} {c:dZ} {o:eD} {nm:aG} {e:qQ}
theorem BM{ok:aU}{n:aG}{a:AA}{v:AV}{ws:ax (aG×dS)}(h:(p7 ok n a).val σ=ah (v,ws)):Mv ok σ n a/\v=jU n a/\∀x,ws=kT (LB n x a)/\kD ok (LB n x a) v (jU x a):=by
 cases a with
 |i=>obtain⟨rfl,rfl⟩:=bF (aD h);exact⟨trivial,rfl,λx=>⟨rfl, .inl ⟨rfl,trivial⟩⟩⟩
 |b=>obtain⟨rfl,rfl⟩:=bF (aD h);exact⟨trivial,rfl,λx=>⟨rfl, .inl ⟨rfl,trivial⟩⟩⟩
 |s=>obtain⟨rfl,rfl⟩:=bF (aD h);exact⟨trivial,rfl,λx=>⟨rfl, .inl ⟨rfl,trivial⟩⟩⟩
 |nl=>obtain⟨rfl,rfl⟩:=bF (aD h);exact⟨trivial,rfl,λx=>⟨rfl, .inl ⟨rfl,trivial⟩⟩⟩
 |sh e xs=>obtain⟨h1,h⟩:=b9 h;obtain⟨rfl,rfl⟩:=bF (aD h);exact⟨h1,rfl,λx=>⟨rfl, .inl ⟨rfl,h1⟩⟩⟩
 |ow e ex xs=>obtain⟨h1,h⟩:=b9 h;obtain⟨u,h2,h⟩:=Rd.bind_some h;obtain⟨rfl,rfl⟩:=bF (aD h);obtain⟨f1,f2⟩:=jA h2;exact⟨⟨by simpa using h1,f1,f2⟩,rfl,λx=>⟨rfl, .inr ⟨n,x,_,rfl,rfl,aW.2 rfl⟩⟩⟩
 |kp=>simp[p7]at h
 |fn=>simp[p7]at h
theorem zm{ok:aU}{P:aG}:∀{xs:ax AA} {n j:aG} {vs:ax AV} {ws:ax (aG×dS)},(yA ok n xs).val σ=ah (vs,ws)->vs=fB n xs/\(∀(i:aG) (a:AA),xs[i]? =ah a->Mv ok σ (n+i) a)/\
  ∃L,ws=kT L/\(∀m t ob,(m,t,ob)∈L↔∃i e ex ys,xs[i]? =ah (.ow e ex ys)/\m=n+i/\t=ah (dC P (j+i))/\ob= .row e ex ys)/\∀(i:aG) (v:AV) (a:AA),vs[i]? =ah v->xs[i]? =ah a->kD ok L v (jU (dC P (j+i)) a):=by
 intro xs;induction xs with
 |nil=>intro n j vs ws h;obtain⟨rfl,rfl⟩:=bF (aD h);exact⟨rfl,λi a h=>by simp at h,[],rfl,λm t ob=>by simp,λi v a h=>by simp at h⟩
 |cons a xs ih=>
  intro n j vs ws h;obtain⟨⟨v,w1⟩,h1,h⟩:=Rd.bind_some h;obtain⟨⟨vr,w2⟩,h2,h⟩:=Rd.bind_some h;obtain⟨rfl,rfl⟩:=bF (aD h);obtain⟨b1,rfl,b2⟩:=BM h1;obtain⟨rfl,b3⟩:=b2 (dC P j);obtain⟨i1,i2,L,rfl,i3,i4⟩:=ih (j:=j+1) h2;refine⟨by rw[i1];rfl,λi a' hi=> ?_,LB n (dC P j) a++L,by rw[gJ],λm t ob=> ?_,λi v' a' hv ha=> ?_⟩
  ·cases i with
   |zero=>cases hi;exact b1
   |succ i=>have:=i2 i a' hi;rwa[show n+1+i=n+(i+1)by omega]at this
  ·rw[aX,FL,i3];constructor
   ·rintro (⟨e,ex,ys,rfl,rfl,rfl,rfl⟩|⟨i,e,ex,ys,h1,rfl,rfl,rfl⟩)
    ·exact⟨0,e,ex,ys,rfl,rfl,rfl,rfl⟩
    ·exact⟨i+1,e,ex,ys,h1,by omega,by rw[show j+1+i=j+(i+1)by omega],rfl⟩
   ·rintro ⟨i,e,ex,ys,h1,rfl,rfl,rfl⟩;cases i with
    |zero=>cases h1;exact .inl ⟨e,ex,ys,rfl,rfl,rfl,rfl⟩
    |succ i=>exact .inr ⟨i,e,ex,ys,h1,by omega,by rw[show j+1+i=j+(i+1)by omega],rfl⟩
  ·cases i with
   |zero=>cases hv;cases ha;exact b3.mono (λe he=>bL _ he)
   |succ i=>have:=(i4 i v' a' hv ha).mono (L':=LB n (dC P j) a++L) (λe he=>bE _ he);rwa[show j+1+i=j+(i+1)by omega]at this
def Ez(σ:St)(ok:aU)(b P:aG)(x:eu)(L:ax A1)(n:aG)(t:aA aG)(ob:Obj):Prop:=
 (∃xs j e ex ys,IA x xs/\xs[j]? =ah (.ow e ex ys)/\n=b+j/\t=ah (dC P j)/\ob= .row e ex ys/\(ex=aj\/ok=aj)/\σ (cG n)= .iN/\n<900000000)\/
 ∃xs,x= .pt xs/\n=b+30/\t=ah (dC P 900)/\ob= .box (fB b xs)/\σ (cG n)= .iN/\n<900000000/\mq ok L (fB b xs) (fB (dC P 0) xs)
theorem G9{ok:aU}{b P:aG}{x:eu}{s:aU×ax AV}{ws:ax (aG×dS)}(h:(Df ok b x).val σ=ah (s,ws)):∃L,ws=kT L/\(∀n t ob,(n,t,ob)∈L->Ez σ ok b P x L n t ob)/\ArgRel ok L s (Dd P x):=by
 have ru:∀j,dC P (0+j)=dC P 0+j:=λj=>by unfold dC;omega
 cases x with
 |v g xs=>
  obtain⟨⟨vs,w1⟩,h1,h⟩:=Rd.bind_some h;obtain⟨rfl,rfl⟩:=bF (aD h);obtain⟨rfl,i2,L,rfl,i3,i4⟩:=zm (P:=P) (j:=0) h1;refine⟨L,rfl,λn t ob hm=> ?_,rfl,by simp[Dd,gP],λj v v3 hv Bm=> .inl ?_⟩
  ·obtain⟨i,e,ex,ys,h1,rfl,rfl,rfl⟩:=(i3 n t ob).1 hm;have:=i2 i _ h1;exact .inl ⟨xs,i,e,ex,ys, .inl ⟨g,rfl⟩,h1,rfl,by rw[bG],rfl,this⟩
  ·have Bm:(fB (dC P 0) xs)[j]? =ah v3:=Bm;rw[gA]at Bm;cases hx:xs[j]? with
   |none=>rw[hx]at Bm;cases Bm
   |some a=>rw[hx]at Bm;cases Bm;have:=i4 j v a hv hx;rwa[ru]at this
 |pt xs=>
  obtain⟨⟨vs,w1⟩,h1,h⟩:=Rd.bind_some h;obtain⟨u,h2,h⟩:=Rd.bind_some h;obtain⟨rfl,rfl⟩:=bF (aD h);obtain⟨f1,f2⟩:=jA h2;obtain⟨rfl,i2,L,rfl,i3,i4⟩:=zm (P:=P) (j:=0) h1;have cr:mq ok L (fB b xs) (fB (dC P 0) xs):=by
   refine⟨by rw[gP,gP],λj v v3 hv Bm=> ?_⟩
   rw[gA]at Bm;cases hx:xs[j]? with
   |none=>rw[hx]at Bm;cases Bm
   |some a=>rw[hx]at Bm;cases Bm;have:=i4 j v a hv hx;rwa[ru]at this
  refine⟨L++[(b+30,ah (dC P 900), .box (fB b xs))],by rw[gJ];rfl,λn t ob hm=> ?_,rfl,rfl,λj v v3 hv Bm=> .inr ?_⟩
  ·rcases aX.1 hm with hm|hm
   ·obtain⟨i,e,ex,ys,h1,rfl,rfl,rfl⟩:=(i3 n t ob).1 hm;have:=i2 i _ h1;exact .inl ⟨xs,i,e,ex,ys, .inr rfl,h1,rfl,by rw[bG],rfl,this⟩
   ·rw[aW]at hm;cases hm;exact .inr ⟨xs,rfl,rfl,rfl,rfl,f1,f2,cr.mono (λe he=>bL _ he)⟩
  ·cases j with
   |zero=>cases hv;cases Bm;exact⟨_,_,_,rfl,rfl,bE _ (aW.2 rfl)⟩
   |succ j=>simp at hv
 |fb xs=>simp[Df]at h
theorem ArgRel.mono{ok:aU}{L L':ax A1}{s s3:aU×ax AV}(h:ArgRel ok L s s3)(hs:∀e∈L,e∈L'):ArgRel ok L' s s3:=⟨h.1,h.2.1,λj x y hx hy=>(h.2.2 j x y hx hy).imp (λh=>h.mono hs) (λ⟨n,x,ob,h1,h2,h3⟩=>⟨n,x,ob,h1,h2,hs _ h3⟩)⟩
theorem Ez.mono{ok:aU}{b P:aG}{x:eu}{L L':ax A1}{n:aG}{t:aA aG}{ob:Obj}(h:Ez σ ok b P x L n t ob)(hs:∀e∈L,e∈L'):Ez σ ok b P x L' n t ob:=h.imp id (λ⟨xs,h1,h2,h3,h4,h5,h6,h7⟩=>⟨xs,h1,h2,h3,h4,h5,h6,h7.mono hs⟩)
theorem EK{ok:aU}:∀{l:ax eu} {b P:aG} {ss:ax (aU×ax AV)} {ws:ax (aG×dS)},(zn ok b l).val σ=ah (ss,ws)->∃L,ws=kT L/\(∀n t ob,(n,t,ob)∈L->∃q x,l[q]? =ah x/\Ez σ ok (b+40*q) (P+q) x L n t ob)/\Cv ok L ss (jV P l):=by
 intro l;induction l with
 |nil=>intro b P ss ws h;obtain⟨rfl,rfl⟩:=bF (aD h);exact⟨[],rfl,λn t ob h=>(by cases h),rfl,λj x x3 h=>by simp at h⟩
 |cons x l ih=>
  intro b P ss ws h;obtain⟨⟨v,w1⟩,h1,h⟩:=Rd.bind_some h;obtain⟨⟨vr,w2⟩,h2,h⟩:=Rd.bind_some h;obtain⟨rfl,rfl⟩:=bF (aD h);obtain⟨L1,rfl,a1,a2⟩:=G9 (P:=P) h1;obtain⟨L2,rfl,b1,b2,b3⟩:=ih (P:=P+1) h2;refine⟨L1++L2,by rw[gJ],λn t ob hm=> ?_,by simp[jV,b2],λj s s3 hs hs3=> ?_⟩
  ·rcases aX.1 hm with hm|hm
   ·exact⟨0,x,rfl,(a1 n t ob hm).mono (λe he=>bL _ he)⟩
   ·obtain⟨q,y,hq,hr⟩:=b1 n t ob hm;refine⟨q+1,y,hq, ?_⟩
    rw[show b+40*(q+1)=b+40+40*q by omega,show P+(q+1)=P+1+q by omega];exact hr.mono (λe he=>bE _ he)
  ·cases j with
   |zero=>cases hs;cases hs3;exact a2.mono (λe he=>bL _ he)
   |succ j=>exact(b3 j s s3 hs hs3).mono (λe he=>bE _ he)
end
end Go.FG

namespace Go.FG
section
variable {P:cC} {E:eL} {σ:St} {a:Act} {w:bw} {c:dZ} {o:eD} {nm:aG} {e:qQ}
def pJ(σ:St)(ok bx:aU)(b p j:aG)(k:Pk)(a:AA)(n:aG)(t:aA aG)(ob:Obj):Prop:=
 (∃e ex,k.src= .own n e ex/\t=ai/\ob= .dead)\/
 (∃e ex ys,k.src= .own n e ex/\a= .kp ys/\t=ah (dC p j)/\ob= .row e ex ys/\(ex=aj\/ok=aj))\/
 ∃e ex ys,bx=aj/\a= .ow e ex ys/\n=b+j/\t=ah (dC p (100+j))/\ob= .row e ex ys/\(ex=aj\/ok=aj)/\σ (cG n)= .iN/\n<900000000
theorem PC{ok:aU}{b p j:aG}{k:Pk}{a:AA}{ws:ax (aG×dS)}(h:(Ce ok k a).val σ=ah ws):∃L,ws=kT L/\(∀n t ob,(n,t,ob)∈L->pJ σ ok ao b p j k a n t ob)/\∀n e ex,k.src= .own n e ex->∃t ob,(n,t,ob)∈L:=by
 cases hs:k.src with
 |no=>
  have h:(Rd.ret []:Rd (ax (aG×dS))).val σ=ah ws:=by unfold Ce at h;rw[hs]at h;exact h
  obtain rfl:=aD h;exact⟨[],rfl,λn t ob h=>(by cases h),λn e ex h=>by cases h⟩
 |own n e ex=>
  cases a with
  |kp ys=>
   have h:(bif ex||ok then Rd.ret [(cG n,dS.o (.row e ex ys))]else .fail).val σ=ah ws:=by unfold Ce at h;rw[hs]at h;exact h
   obtain⟨h1,h⟩:=b9 h;obtain rfl:=aD h;refine⟨[(n,ah (dC p j), .row e ex ys)],rfl,λm t ob hm=> ?_,λm e' rW h=> ?_⟩
   ·rw[aW]at hm;cases hm;exact .inr (.inl ⟨e,ex,ys,hs,rfl,rfl,rfl,by simpa using h1⟩)
   ·cases h;exact⟨_,_,aW.2 rfl⟩
  |nl=>
   have h:(Rd.ret [(cG n,dS.o .dead)]:Rd (ax (aG×dS))).val σ=ah ws:=by unfold Ce at h;rw[hs]at h;exact h
   obtain rfl:=aD h;refine⟨[(n,ai, .dead)],rfl,λm t ob hm=> ?_,λm e' rW h=> ?_⟩
   ·rw[aW]at hm;cases hm;exact .inl ⟨e,ex,hs,rfl,rfl⟩
   ·cases h;exact⟨_,_,aW.2 rfl⟩
  |_=>unfold Ce at h;rw[hs]at h;simp at h
theorem LK{ok:aU}{b p:aG}:∀{r:ax Pk} {l:ax AA} {j:aG} {ws:ax (aG×dS)},(H3 ok r l).val σ=ah ws->∃L,ws=kT L/\(∀n t ob,(n,t,ob)∈L->∃i k,r[i]? =ah k/\pJ σ ok ao b p (j+i) k (l.getD i .nl) n t ob)/\
  ∀(i:aG) (k:Pk) (n e:aG) (ex:aU),r[i]? =ah k->k.src= .own n e ex->∃t ob,(n,t,ob)∈L:=by
 intro r;induction r with
 |nil=>intro l j ws h;obtain rfl:=aD h;exact⟨[],rfl,λn t ob h=>(by cases h),λi k n e ex h=>by simp at h⟩
 |cons k r ih=>
  intro l j ws h;obtain⟨w1,h1,h⟩:=Rd.bind_some h;obtain⟨w2,h2,h⟩:=Rd.bind_some h;obtain rfl:=aD h;obtain⟨L1,rfl,a1,a2⟩:=PC (b:=b) (p:=p) (j:=j) h1;obtain⟨L2,rfl,b1,b2⟩:=ih (j:=j+1) h2;have e0:l.headD .nl=l.getD 0 .nl:=by cases l<;>rfl
  have e1:∀i,l.tail.getD i .nl=l.getD (i+1) .nl:=λi=>by cases l<;>simp
  refine⟨L1++L2,by rw[gJ],λn t ob hm=> ?_,λi k' n e ex hk hs=> ?_⟩
  ·rcases aX.1 hm with hm|hm
   ·exact⟨0,k,rfl,by rw[<-e0];exact a1 n t ob hm⟩
   ·obtain⟨i,k',hk,hc⟩:=b1 n t ob hm;rw[e1]at hc;exact⟨i+1,k',hk,by rw[show j+(i+1)=j+1+i by omega];exact hc⟩
  ·cases i with
   |zero=>cases hk;obtain⟨t,ob,h⟩:=a2 n e ex hs;exact⟨t,ob,bL _ h⟩
   |succ i=>obtain⟨t,ob,h⟩:=b2 i k' n e ex hk hs;exact⟨t,ob,bE _ h⟩
theorem LH{ok:aU}{b p j:aG}{k:Pk}{v v':AV}{a:AA}{ws:ax (aG×dS)}(hv:∀n e ex,k.src= .own n e ex->v= .own n)(h:(Ab ok (b+j) k v a).val σ=ah (v',ws)):
  ∃L,ws=kT L/\(∀n t ob,(n,t,ob)∈L->pJ σ ok aj b p j k a n t ob)/\(∀n e ex,k.src= .own n e ex->∃t ob,(n,t,ob)∈L)/\kD ok L v' (rE p j a):=by
 have new:∀{v':AV} {ws:ax (aG×dS)},(p7 ok (b+j) a).val σ=ah (v',ws)->∃L,ws=kT L/\(∀n t ob,(n,t,ob)∈L->pJ σ ok aj b p j k a n t ob)/\kD ok L v' (rE p j a):=by
  intro v' ws h;obtain⟨b1,rfl,b2⟩:=BM h;obtain⟨rfl,b3⟩:=b2 (dC p (100+j));refine⟨_,rfl,λn t ob hm=> ?_, ?_⟩
  ·obtain⟨e,ex,ys,rfl,rfl,rfl,rfl⟩:=FL.1 hm;exact .inr (.inr ⟨e,ex,ys,rfl,rfl,rfl,rfl,rfl,b1⟩)
  ·have:rE p j a=jU (dC p (100+j)) a:=by cases a<;>first|rfl|exact b1.elim
   rw[this];exact b3
 cases hs:k.src with
 |no=>
  have h:(p7 ok (b+j) a).val σ=ah (v',ws):=by unfold Ab at h;rw[hs]at h;exact h
  obtain⟨L,rfl,a1,a2⟩:=new h;exact⟨L,rfl,a1,λm e' rW h=>(by cases h),a2⟩
 |own n e ex=>
  have other:((p7 ok (b+j) a).bind λ(x:AV×ax (aG×dS))=>Rd.ret (x.1,(cG n,dS.o .dead)::x.2)).val σ=ah (v',ws)->∃L,ws=kT L/\(∀n t ob,(n,t,ob)∈L->pJ σ ok aj b p j k a n t ob)/\(∀n' e' rW,Src.own n e ex= .own n' e' rW->∃t ob,(n',t,ob)∈L)/\kD ok L v' (rE p j a):=by
   intro h;obtain⟨⟨v1,w1⟩,h1,h⟩:=Rd.bind_some h;obtain⟨rfl,rfl⟩:=bF (aD h);obtain⟨L,rfl,a1,a2⟩:=new h1;refine⟨(n,ai, .dead)::L,rfl,λm t ob hm=> ?_,λm e' rW h=> ?_,a2.mono (λe he=>cg _ he)⟩
   ·rcases b7.1 hm with hm|hm
    ·cases hm;exact .inl ⟨e,ex,hs,rfl,rfl⟩
    ·exact a1 m t ob hm
   ·cases h;exact⟨_,_,cw ..⟩
  cases a with
  |kp ys=>
   have h:(bif ex||ok then Rd.ret (v,[(cG n,dS.o (.row e ex ys))])else .fail).val σ=ah (v',ws):=by unfold Ab at h;rw[hs]at h;exact h
   obtain⟨h1,h⟩:=b9 h;obtain⟨rfl,rfl⟩:=bF (aD h);refine⟨[(n,ah (dC p j), .row e ex ys)],rfl,λm t ob hm=> ?_,λm e' rW h=> ?_, .inr ⟨n,dC p j,_,hv n e ex hs,rfl,aW.2 rfl⟩⟩
   ·rw[aW]at hm;cases hm;exact .inr (.inl ⟨e,ex,ys,hs,rfl,rfl,rfl,by simpa using h1⟩)
   ·cases h;exact⟨_,_,aW.2 rfl⟩
  |_=>exact other (by unfold Ab at h;rw[hs]at h;exact h)
theorem H0{ok:aU}{b p:aG}:∀{r:ax Pk} {vs:ax AV} {l:ax AA} {j:aG} {GL:ax AV} {ws:ax (aG×dS)},(∀(i:aG) (k:Pk) (n e:aG) (ex:aU),r[i]? =ah k->k.src= .own n e ex->vs[i]? =ah (.own n))->(qg ok (b+j) r vs l).val σ=ah (GL,ws)->
  l.length=r.length/\∃L,ws=kT L/\(∀n t ob,(n,t,ob)∈L->∃i k,r[i]? =ah k/\pJ σ ok aj b p (j+i) k (l.getD i .nl) n t ob)/\
  (∀(i:aG) (k:Pk) (n e:aG) (ex:aU),r[i]? =ah k->k.src= .own n e ex->∃t ob,(n,t,ob)∈L)/\GL.length=l.length/\∀(i:aG) (v:AV) (a:AA),GL[i]? =ah v->l[i]? =ah a->kD ok L v (rE p (j+i) a):=by
 intro r;induction r with
 |nil=>
  intro vs l j GL ws hv h;cases vs with
  |cons=>cases l<;>simp[qg]at h
  |nil=>
   cases l with
   |cons=>simp[qg]at h
   |nil=>obtain⟨rfl,rfl⟩:=bF (aD h);exact⟨rfl,[],rfl,λn t ob h=>(by cases h),λi k n e ex h=>by simp at h,rfl,λi v a h=>by simp at h⟩
 |cons k r ih=>
  intro vs l j GL ws hv h;cases vs with
  |nil=>cases l<;>simp[qg]at h
  |cons v vs=>
   cases l with
   |nil=>simp[qg]at h
   |cons a l=>
    obtain⟨⟨v1,w1⟩,h1,h⟩:=Rd.bind_some h;obtain⟨⟨vr,w2⟩,h2,h⟩:=Rd.bind_some h;obtain⟨rfl,rfl⟩:=bF (aD h);obtain⟨L1,rfl,a1,a2,a3⟩:=LH (p:=p) (λn e ex hs=>by have:=hv 0 k n e ex rfl hs;simpa using this) h1;obtain⟨i0,L2,rfl,b1,b2,b3,b4⟩:=ih (j:=j+1) (λi k' n e ex hk hs=>hv (i+1) k' n e ex hk hs) h2;refine⟨by simp[i0],L1++L2,by rw[gJ],λn t ob hm=> ?_,λi k' n e ex hk hs=> ?_,by simp[b3],λi v' a' hv' ha'=> ?_⟩
    ·rcases aX.1 hm with hm|hm
     ·exact⟨0,k,rfl,a1 n t ob hm⟩
     ·obtain⟨i,k',hk,hc⟩:=b1 n t ob hm;exact⟨i+1,k',hk,by rw[show j+(i+1)=j+1+i by omega];exact hc⟩
    ·cases i with
     |zero=>cases hk;obtain⟨t,ob,h⟩:=a2 n e ex hs;exact⟨t,ob,bL _ h⟩
     |succ i=>obtain⟨t,ob,h⟩:=b2 i k' n e ex hk hs;exact⟨t,ob,bE _ h⟩
    ·cases i with
     |zero=>cases hv';cases ha';exact a3.mono (λe he=>bL _ he)
     |succ i=>have:=(b4 i v' a' hv' ha').mono (L':=L1++L2) (λe he=>bE _ he);rwa[show j+1+i=j+(i+1)by omega]at this
def Ew(σ:St)(ok:aU)(b p:aG)(pa:Pa)(l:ax AA)(L:ax A1)(n:aG)(t:aA aG)(ob:Obj):Prop:=
 (∃i k,pa.cs[i]? =ah k/\pJ σ ok pa.box.isSome b p i k (l.getD i .nl) n t ob)\/∃xs GL,pa.box=ah (n,xs)/\t=ah (dC p 900)/\ob= .box GL/\mq ok L GL (mW p 0 l)
theorem PB{T:Tab}{mn:ax aG}{v:a7}{ok:aU}{b p:aG}{pa:Pa}(HE:xL T σ w c mn pa v){l:ax AA}{ws:ax (aG×dS)}(h:(PA ok b pa l).val σ=ah ws):
  ∃L,ws=kT L/\(∀n t ob,(n,t,ob)∈L->Ew σ ok b p pa l L n t ob)/\∀n∈pa.r_,∃t ob,(n,t,ob)∈L:=by
 have cs:∀n,n∈pa.cs.flatMap (·.r_)->∃(i:aG) (k:Pk) (e:aG) (ex:aU),pa.cs[i]? =ah k/\k.src= .own n e ex:=by
  intro n hn;obtain⟨k,hk,hn⟩:=bz.1 hn;obtain⟨i,hi⟩:=bQ hk;unfold Pk.r_ at hn;split at hn
  ·rename_i m e ex hs;have:=aW.1 hn;subst this;exact⟨i,k,e,ex,hi,hs⟩
  ·cases hn
 unfold PA at h;split at h
 ·rename_i n xs hb;obtain⟨⟨GL,w1⟩,h1,h⟩:=Rd.bind_some h;obtain rfl:=aD h;obtain⟨_,_,_,hl,_,tz⟩:=HE.box n xs hb;obtain⟨i0,L,rfl,a1,a2,a3,a4⟩:=H0 (b:=b) (p:=p) (j:=0) tz (by rw[rS];exact h1);have cr:mq ok L GL (mW p 0 l):=by
   refine⟨by rw[sS,a3],λi v v3 hv Bm=> ?_⟩
   rw[tJ]at Bm;cases hx:l[i]? with
   |none=>rw[hx]at Bm;cases Bm
   |some y=>rw[hx]at Bm;cases Bm;exact a4 i v y hv hx
  refine⟨L++[(n,ah (dC p 900), .box GL)],by rw[gJ];rfl,λm t ob hm=> ?_,λm hm=> ?_⟩
  ·rcases aX.1 hm with hm|hm
   ·obtain⟨i,k,hk,hc⟩:=a1 m t ob hm;rw[bG]at hc;exact .inl ⟨i,k,hk,by rw[hb];exact hc⟩
   ·rw[aW]at hm;cases hm;exact .inr ⟨xs,GL,hb,rfl,rfl,cr.mono (λe he=>bL _ he)⟩
  ·unfold Pa.r_ at hm;rw[hb]at hm;rcases aX.1 hm with hm|hm
   ·have:=aW.1 hm;subst this;exact⟨_,_,bE _ (aW.2 rfl)⟩
   ·obtain⟨i,k,e,ex,hk,hs⟩:=cs m hm;obtain⟨t,ob,h⟩:=a2 i k m e ex hk hs;exact⟨t,ob,bL _ h⟩
 ·rename_i hb;obtain⟨L,rfl,a1,a2⟩:=LK (b:=b) (p:=p) (j:=0) h;refine⟨L,rfl,λm t ob hm=> ?_,λm hm=> ?_⟩
  ·obtain⟨i,k,hk,hc⟩:=a1 m t ob hm;rw[bG]at hc;exact .inl ⟨i,k,hk,by rw[hb];exact hc⟩
  ·unfold Pa.r_ at hm;rw[hb,eR]at hm;obtain⟨i,k,e,ex,hk,hs⟩:=cs m hm;exact a2 i k m e ex hk hs
theorem Ew.mono{ok:aU}{b p:aG}{pa:Pa}{l:ax AA}{L L':ax A1}{n:aG}{t:aA aG}{ob:Obj}(h:Ew σ ok b p pa l L n t ob)(hs:∀e∈L,e∈L'):Ew σ ok b p pa l L' n t ob:=
 h.imp id (λ⟨xs,GL,h1,h2,h3,h4⟩=>⟨xs,GL,h1,h2,h3,h4.mono hs⟩)
theorem LJ{T:Tab}{mn:ax aG}{ok:aU}:∀{ps:ax Pa} {b p:aG} {os:ax (ax AA)} {ws:ax (aG×dS)},(∀(q:aG) (pa:Pa),ps[q]? =ah pa->∃v,xL T σ w c mn pa v)->(H2 ok b ps os).val σ=ah ws->
  ∃L,ws=kT L/\(∀n t ob,(n,t,ob)∈L->∃q pa,ps[q]? =ah pa/\Ew σ ok (b+40*q) (p+q) pa (os.getD q []) L n t ob)/\∀n∈ps.flatMap (·.r_),∃t ob,(n,t,ob)∈L:=by
 intro ps;induction ps with
 |nil=>intro b p os ws _ h;obtain rfl:=aD h;exact⟨[],rfl,λn t ob h=>(by cases h),λn h=>(by cases h)⟩
 |cons pa ps ih=>
  intro b p os ws Zj h;obtain⟨w1,h1,h⟩:=Rd.bind_some h;obtain⟨w2,h2,h⟩:=Rd.bind_some h;obtain rfl:=aD h;obtain⟨v,HE⟩:=Zj 0 pa rfl;obtain⟨L1,rfl,a1,a2⟩:=PB (p:=p) HE h1;obtain⟨L2,rfl,b1,b2⟩:=ih (p:=p+1) (λq ZU hq=>Zj (q+1) ZU hq) h2;have e0:os.headD []=os.getD 0 []:=by cases os<;>rfl
  have e1:∀i,os.tail.getD i []=os.getD (i+1) []:=λi=>by cases os<;>simp
  refine⟨L1++L2,by rw[gJ],λn t ob hm=> ?_,λn hn=> ?_⟩
  ·rcases aX.1 hm with hm|hm
   ·exact⟨0,pa,rfl,by rw[<-e0];exact(a1 n t ob hm).mono (λe he=>bL _ he)⟩
   ·obtain⟨q,ZU,hq,hc⟩:=b1 n t ob hm;rw[e1]at hc;refine⟨q+1,ZU,hq, ?_⟩
    rw[show b+40*(q+1)=b+40+40*q by omega,show p+(q+1)=p+1+q by omega];exact hc.mono (λe he=>bE _ he)
  ·rw[vH]at hn;rcases aX.1 hn with hn|hn
   ·obtain⟨t,ob,h⟩:=a2 n hn;exact⟨t,ob,bL _ h⟩
   ·obtain⟨t,ob,h⟩:=b2 n hn;exact⟨t,ob,bE _ h⟩
theorem Oc:∀{l:ax aG} {ws:ax (aG×dS)},(Ob l).val σ=ah ws->∃Fz:ax (aG×Obj),ws=jh Fz/\(∀n x,(n,x)∈Fz->n∈l/\∃el ex xs,σ (cG n)= .o (.row el ex xs)/\x= .eU el xs)/\∀n∈l,∃x,(n,x)∈Fz:=by
 intro l;induction l with
 |nil=>intro ws h;obtain rfl:=aD h;exact⟨[],rfl,λn x h=>(by cases h),λn h=>(by cases h)⟩
 |cons m l ih=>
  intro ws h;obtain⟨ob,hg,h⟩:=Rd.bind_some h;have hg:=cW hg;cases ob with
  |row el ex xs=>
   obtain⟨w1,h1,h⟩:=Rd.bind_some h;obtain rfl:=aD h;obtain⟨Fz,rfl,a1,a2⟩:=ih h1;refine⟨(m, .eU el xs)::Fz,rfl,λn x hm=> ?_,λn hn=> ?_⟩
   ·rcases b7.1 hm with hm|hm
    ·cases hm;exact⟨cw ..,el,ex,xs,hg,rfl⟩
    ·obtain⟨h1,h2⟩:=a1 n x hm;exact⟨cg _ h1,h2⟩
   ·rcases b7.1 hn with rfl|hn
    ·exact⟨_,cw ..⟩
    ·obtain⟨x,h⟩:=a2 n hn;exact⟨x,cg _ h⟩
  |_=>simp at h
end
end Go.FG

namespace Go.FG
section
variable {P:cC} {E:eL} {σ:St} {a:Act} {w:bw} {c:dZ} {o:eD} {nm:aG} {e:qQ}
theorem ad6{T:Tab}{mn:ax aG}{pa:Pa}{v:a7}(h:xL T σ w c mn pa v):∃xs,IA pa.arg xs/\xs=pa.cs.map (·.a)/\∀(j:aG) (k:Pk),pa.cs[j]? =ah k->∃u,s_ T σ w c mn k u:=by
 have h1:IA pa.arg (pa.cs.map (·.a)):=by
  cases hb:pa.box with
  |none=>obtain⟨g,h1,_⟩:=h.val hb;exact .inl ⟨g,h1⟩
  |some nx=>obtain⟨n,xs⟩:=nx;exact .inr (h.box n xs hb).1
 exact⟨_,h1,rfl,(PE h h1).2⟩
theorem SB{l:ax AA}{i:aG}{ys:Row}(h:l.getD i .nl= .kp ys):l[i]? =ah (.kp ys):=by
 rw[cM]at h;cases hx:l[i]? with
 |none=>rw[hx]at h;cases h
 |some x=>rw[hx]at h;rw[<-h];rfl
theorem Cm{f:aG}{fn:Func}{vs Wv:cX a7}{cl:Call}{fx:cY}(ho:o.op= .call cl)(hc:cl.callee= .value fx)(hf:P.funcs[f]? =ah fn)(hb:fn.body.isSome=aj)(hn:(fn.name== "runtime.NumGoroutine")=ao)(he:a.eval fx= .func (.func f) #[] Wv):
  (execOp a.eval o).run P w= .ok (.enter f (cl.args.map a.eval++Wv)) w:=by
 have Fo:fn.body.isNone=false:=by cases h:fn.body<;>simp_all
 unfold execOp;rw[ho];simp only[resolve,hc,he,Deferred.ofValue,bV,cy,bk,invoke,callFunc,program,nv,hf,hn,Fo,cN,if_false,Array.empty_append]
def nameOf(nm:aG)(ps:ax Pa)(P J:aG):aA aG:=
 if 500<=P then ah (if J=900 then nm+1+40*(P-500)+30 else nm+1+40*(P-500)+J)
 else if J<100\/J=900 then loc ps (dC P J)else ah (nm+400+40*P+(J-100))
theorem ny:∀{l r:ax aG},pZ l r=aj->∀n∈l,n∉r
 |[],_,_,n,h=>by cases h
 |m::l,r,h,n,hn=>by
  simp only[pZ,aJ,dA]at h;rcases b7.1 hn with rfl|hn
  ·exact oX h.1
  ·exact ny h.2 n hn
theorem FT(hE:dP P E)(hF:∀g,FnOk P E g (E.call g))(hok:Ok E σ w c)(dg:eC E σ a w c)(hd:∀d,o.dst=ah d->d<a.tmps.size){cl:Call}{fx:cY}(ho:o.op= .call cl)(hb:cl.callee= .value fx){f:aG}{gQ:ax (ax CV)}(ef:dN E w c (.fn f gQ) (a.eval fx)){Mq:aA (ax aG)}(h:(Dh E nm o f cl.args.toList Mq gQ).val σ=ah e)(hc:e.cond=aj):fO P E σ a w c o e.ws:=by
  obtain⟨Wv,he,Zj,acn⟩:=ef;unfold Dh at h;obtain⟨ps,h2,h⟩:=Rd.bind_some h;obtain⟨h3,h⟩:=b9 h;simp only[aJ]at h3;obtain⟨hlen,HE⟩:=ND hok dg h2;split at h
  ·rename_i cnd r Fq;obtain⟨h4,h⟩:=b9 h;simp only[aJ]at h4;obtain⟨w0,h5,h⟩:=Rd.bind_some h;obtain⟨w1,h6,h⟩:=Rd.bind_some h;obtain⟨⟨ss,w2⟩,h7,h⟩:=Rd.bind_some h;obtain⟨h8,h⟩:=b9 h;obtain rfl:=aD h;have hc:cnd=true:=hc;subst hc;have art:=cf h4.1.1;have akp:∀{q:aG} {pa:Pa},ps[q]? =ah pa->∀n∈pa.mn,n∈ps.flatMap (·.mn):=λhq n hn=>bz.2 ⟨_,aM hq,hn⟩;have hh:Handed E σ w c ps gQ (cl.args.map a.eval++Wv):=by
    refine⟨by simp[Zj,hlen],λq pa hq=> ?_,λq cs hq=> ?_,py h3.1,ny h3.2⟩
    ·obtain⟨x,hx,hp⟩:=HE q pa hq;rw[cz]at hx;have SQ:=(c8.1 hx).1;exact⟨a.eval x,by rw[Bw (by simpa using SQ),KF,hx];rfl,hp.mono (akp hq)⟩
    ·obtain⟨b,Fo,hf⟩:=acn q cs hq;refine⟨b, ?_,hf⟩
     rw[Array.getElem?_append_right (by simp[hlen]),<-Fo];congr 1;simp[hlen]
   have Zk:∀(q:aG) (pa:Pa),ps[q]? =ah pa->∃v,xL E σ w c (ps.flatMap (·.mn)) pa v:=λq pa hq=>by obtain⟨v,_,h⟩:=hh.at_ q pa hq;exact⟨v,h⟩
   obtain⟨Ol,akq,_⟩:=enter hok hh;have hsz:(cl.args.map a.eval++Wv).size=(iK ps gQ).length:=by simp[iK,Zj,hlen]
   have Y1:E.call f (iK ps gQ)=ah (aj,r):=Fq;obtain⟨⟨fn,g1,g2,g3⟩,HB⟩:=hF f _ r Y1 w (pf σ c ps) _ Ol hsz akq;obtain⟨Fz,rfl,z1,z2⟩:=Oc h5;obtain⟨Lo,rfl,l1,l2⟩:=LJ (p:=0) Zk h6;obtain⟨Lr,rfl,m1,m2⟩:=EK (P:=500) h7;generalize acJ:(E.tk nm||(ps.flatMap (·.mn)).isEmpty)=ok at l1 m1 m2;have VB:Small (iK ps gQ) r:=by
    refine⟨λp x xs hp hx=> ?_,λq x xs hq hx=> ?_,λp=> ?_⟩
    ·rcases tq hp with ⟨pa,hq,_⟩|⟨_,cs,_,rfl⟩
     ·have:=(aP.1 hq).1;omega
     ·rcases hx with ⟨g,hx⟩|hx<;>cases hx
    ·have:=bf.1 h4.1.2 x (aM hq);have:=cf this;rcases hx with ⟨g,rfl⟩|rfl<;>(simp only[lY]at this;omega)
    ·rw[cM];cases hx:r.outs[p]? with
     |none=>simp
     |some l=>have:=bf.1 h4.2 l (aM hx);exact cf this
   have EJ:∀{q:aG} {pa:Pa},ps[q]? =ah pa->(iK ps gQ)[q]? =ah pa.arg:=λ{q} {pa} hq=>by have:=(aP.1 hq).1;unfold iK;rw[dx (by simpa using this),bg,hq];rfl
   have FP:∀{q:aG} {pa:Pa} {n:aG},ps[q]? =ah pa->n∈pa.r_->n∈ps.flatMap (·.r_):=λhp hn=>bz.2 ⟨_,aM hp,hn⟩;have ab2:∀{q i n e:aG} {ex:aU} {pa:Pa} {k:Pk},ps[q]? =ah pa->pa.cs[i]? =ah k->k.src= .own n e ex->n∈ps.flatMap (·.r_):=λhq hk hs=>FP hq (bE _ (bz.2 ⟨_,aM hk,by simp[Pk.r_,hs]⟩));have small:∀{q i:aG} {pa:Pa} {k:Pk},ps[q]? =ah pa->pa.cs[i]? =ah k->i<100:=λhq hk=>by obtain⟨v,hv⟩:=Zk _ _ hq;have:=(aP.1 hk).1;have:=hv.len;omega
   unfold fO;intro K Q hK;unfold KH;rw[Cm (vs:=cl.args.map a.eval++Wv) ho hb g1 g2 g3 he,Q5];refine Calls.mono HB (λen w'' hR=> ?_);cases en with
   |panicked=>exact hR.elim
   |outgrown=>exact hR.elim
   |returned v=>
    obtain⟨c3,Dz,vu,rY,tW⟩:=hR;have fN:∀m,inj (iK ps gQ) (cG m)≠ .iN->c3.P m=(pf σ c ps).P m/\c3.G m=(pf σ c ps).G m:=rY;have hL:∀n t ob,(n,t,ob)∈Lo++Lr->UT σ (nS (iK ps gQ) r) c c3 ok (ps.flatMap (·.r_)) (Lo++Lr) n t ob/\∀x,t=ah x->∃PP J,x=dC PP J/\J<1000/\nameOf nm ps PP J=ah n:=by
     intro n t ob hm;rcases aX.1 hm with hm|hm
     ·obtain⟨q,pa,hq,sQ⟩:=l1 n t ob hm;obtain⟨v0,Mo⟩:=Zk q pa hq;obtain⟨xs,hx1,Rm,hx3⟩:=ad6 Mo;have SQ:=(aP.1 hq).1;rw[bG]at sQ;rcases sQ with ⟨i,k,hk,hco⟩|⟨ys,GL,hbx,rfl,rfl,hcr⟩
      ·have hi:=small hq hk;rcases hco with ⟨e',ex,hs,rfl,rfl⟩|⟨e',ex,ys,hs,ha,rfl,rfl,hex⟩|⟨e',ex,ys,hbx,ha,rfl,rfl,rfl,hex,hf,jj⟩
       ·refine⟨⟨λ_=>ab2 hq hk hs,λhn=> ?_,λ_=>rfl,λx hx=>(by cases hx)⟩,λx hx=>(by cases hx)⟩
        obtain⟨u,hu⟩:=hx3 i k hk;unfold s_ at hu;rw[hs]at hu;obtain⟨zs,hg,_⟩:=hu;rw[hg]at hn;cases hn
       ·obtain⟨u,hu⟩:=hx3 i k hk;unfold s_ at hu;rw[hs]at hu;obtain⟨zs,hg,hka,_⟩:=hu;refine⟨⟨λ_=>ab2 hq hk hs,λhn=>(by rw[hg]at hn;cases hn),λhx=>(by cases hx),λx hx=> ?_⟩,λx hx=> ?_⟩
        ·cases hx;refine⟨λ_=> ?_, .inl ⟨e',ex,ys,rfl, ?_,hex⟩⟩
         ·obtain⟨q1,q2⟩:=fN (dC q i) ((po (EJ hq)).2 xs i e' ex zs hx1 (by rw[Rm,bg,hk];simp[hka]));obtain⟨q3,q4⟩:=rU (σ:=σ) (c:=c) (DG hq hk hs (by omega));exact⟨q1.trans q3,q2.trans q4⟩
         ·exact uA VB (.kp q pa.arg xs i e' ex zs ys (EJ hq) hx1 (by rw[Rm,bg,hk];simp[hka]) (SB ha))
        ·cases hx;refine⟨q,i,rfl,by omega, ?_⟩
         unfold nameOf;rw[a_ (by omega),ba (.inl hi)];exact DG hq hk hs (by omega)
       ·have hla:=Dw.1 ha;refine⟨⟨λhn=>b_ hf hn,λ_=>jj,λhx=>(by cases hx),λx hx=> ?_⟩,λx hx=> ?_⟩
        ·cases hx;exact⟨λhn=>b_ hf hn, .inl ⟨e',ex,ys,rfl,uA VB (.nw q pa.arg xs i e' ex ys (EJ hq) hx1 hla),hex⟩⟩
        ·cases hx;refine⟨q,100+i,rfl,by omega, ?_⟩
         unfold nameOf;rw[a_ (by omega),a_ (by omega)];congr 1;omega
      ·obtain⟨p1,p2,p3,_⟩:=Mo.box n ys hbx;refine⟨⟨λ_=>FP hq (by simp[Pa.r_,hbx]),λhn=>(by rw[p3]at hn;cases hn),λhx=>(by cases hx),λx hx=> ?_⟩,λx hx=> ?_⟩
       ·cases hx;refine⟨λ_=> ?_, .inr ⟨GL,_,rfl,uA VB (.ob q _ (by rw[EJ hq,p1])),hcr.mono (λe he=>bL _ he)⟩⟩
        obtain⟨q1,q2⟩:=fN (dC q 900) ((po (EJ hq)).1 _ p1);obtain⟨q3,q4⟩:=rU (σ:=σ) (c:=c) (yM hq hbx);exact⟨q1.trans q3,q2.trans q4⟩
       ·cases hx;refine⟨q,900,rfl,by omega, ?_⟩
        unfold nameOf;rw[a_ (by omega),ba (.inr rfl)];exact yM hq hbx
     ·obtain⟨q,x0,hq,hra⟩:=m1 n t ob hm;rcases hra with ⟨xs,j,e',ex,ys,hx,hj,rfl,rfl,rfl,hex,hf,jj⟩|⟨xs,rfl,rfl,rfl,rfl,hf,jj,hcr⟩
      ·have jB:=(aP.1 hj).1;have:=VB.rl q x0 xs hq hx;refine⟨⟨λhn=>b_ hf hn,λ_=>jj,λhx=>(by cases hx),λx nX=> ?_⟩,λx nX=> ?_⟩
       ·cases nX;exact⟨λhn=>b_ hf hn, .inl ⟨e',ex,ys,rfl,uA VB (.rr q x0 xs j e' ex ys hq hx hj),hex⟩⟩
       ·cases nX;refine⟨500+q,j,rfl,by omega, ?_⟩
        unfold nameOf;rw[ba (by omega),a_ (by omega),show 500+q-500=q by omega]
      ·refine⟨⟨λhn=>b_ hf hn,λ_=>jj,λhx=>(by cases hx),λx nX=> ?_⟩,λx nX=> ?_⟩
       ·cases nX;exact⟨λhn=>b_ hf hn, .inr ⟨_,_,rfl,uA VB (.rb q xs hq),hcr.mono (λe he=>bE _ he)⟩⟩
       ·cases nX;refine⟨500+q,900,rfl,by omega, ?_⟩
        unfold nameOf;rw[ba (by omega),ba rfl,show 500+q-500=q by omega]
    have Fv:((Lo++Lr).map (·.1)).Nodup:=by
     have:=py h8;rw[<-gJ]at this;unfold kT jh at this;rw[jr,jr]at this;have e1:(Lo++Lr).map (((λx:aG×dS=>x.1)∘λd:aG×Obj=>(cG d.1,dS.o d.2))∘λt:A1=>(t.1,t.2.2))=((Lo++Lr).map (·.1)).map cG:=by rw[jr];rfl
     rw[e1]at this;exact qe this
    have On:ok=aj->∀n∈ps.flatMap (·.mn),∃x,(n,x)∈Fz:=by
     intro hk n hn;rw[<-acJ]at hk;cases DA:E.tk nm with
     |true=>rw[DA]at z2;exact z2 n hn
     |false=>
      rw[DA]at hk;have:ps.flatMap (·.mn)=[]:=by simpa using hk
      rw[this]at hn;cases hn
    have YV:∀n x,(n,x)∈Fz->ok=aj/\n∈ps.flatMap (·.mn)/\∃el ex xs,σ (cG n)= .o (.row el ex xs)/\x= .eU el xs:=by
     intro n x hn;obtain⟨y1,y2⟩:=z1 n x hn;cases DA:E.tk nm with
     |true=>rw[DA]at y1;exact⟨by rw[<-acJ,DA];rfl,y1,y2⟩
     |false=>rw[DA]at y1;cases y1
    have hws:jh Fz++(kT Lo++kT Lr)++dw o (qA ss)=jh (Fz++(Lo++Lr).map λt=>(t.1,t.2.2))++dw o (qA ss):=by rw[<-gJ];simp only[kT,jh,c7]
    obtain⟨c',k1,k2,k3,k4⟩:=leave hok dg hd hh Dz vu tW (L:=Lo++Lr) (Fz:=Fz) (λn t ob hm=>(hL n t ob hm).1) Fv
     (λn n' x ob ob' h1 h2=>by obtain⟨P1,J1,e1,e2,e3⟩:=(hL n _ ob h1).2 x rfl;obtain⟨P2,J2,f1,f2,f3⟩:=(hL n' _ ob' h2).2 x rfl;obtain⟨rfl,rfl⟩:=sb e2 f2 (e1.symm.trans f1);rw[e3]at f3;exact aD f3)
     (λn hn=>by obtain⟨t,ob,h⟩:=l2 n hn;exact⟨t,ob,bL _ h⟩) YV On
     (show Cv ok (Lo++Lr) ss (jV 500 r.rs)from⟨m2.1,λj x x3 hx hx3=>(m2.2 j x x3 hx hx3).mono (λe he=>bE _ he)⟩)
    show K (a.put o.dst v) w'';rw[<-hws]at k1 k2 k3;exact hK v w'' c' k1 k2 k3 k4.w
  ·simp at h
theorem DT(hok:Ok E σ w c)(dg:eC E σ a w c){o:eD}(hd:∀d,o.dst=ah d->d<a.tmps.size){nm:aG}{ob ob':Obj}{s:SV}{v:a7}{w':bw}
  (hn:σ (cG nm)= .o ob) (mc:ot E w' c nm ob') (oz:∀b,eI c nm ob' b->eI c nm ob b)
  (Ft:∀xs,ob'= .box xs->∀a∈xs,iu σ a)
  (tW:ic E w' c s v) (AM:lr σ s)
  (hW:∀b,b<w.heap.size->¬eI c nm ob b->w'.heap[b]? =w.heap[b]?) (hsz:w.heap.size<=w'.heap.size) (Lj:w'.os=w.os) (SU:w'.tape=w.tape) (SK:w'.output=w.output):
  Ok E (wr σ ([(cG nm, .o ob')]++dw o s)) w' c/\eC E (wr σ ([(cG nm, .o ob')]++dw o s)) (a.put o.dst v) w' c/\Grow σ c w (wr σ ([(cG nm, .o ob')]++dw o s)) c w':=by
 let σ1:=nE σ (cG nm) (.o ob');obtain⟨s1,s2,s3⟩:=oF σ1 o s;have key:∀m,wr σ1 (dw o s) (cG m)=if m=nm then .o ob' else σ (cG m):=λm=>by rw[s3];exact nq _ _ _ _
 have g_:∀m,σ (cG m)≠ .iN->wr σ1 (dw o s) (cG m)≠ .iN:=λm hm=>by rw[key];split<;>simp_all
 have g6:∀b,eI c nm ob b->ja (λm=>m=nm) σ c b:=λb hb=>⟨nm,ob,rfl,hn,hb⟩
 have hh:=hok.change (σ':=wr σ1 (dw o s)) (w':=w') (c':=c) (λm=>m=nm) (λm hm=>by rw[key,a_ hm]) g_ (iH.refl _ _)
  (λb hb Oi=>hW b hb (λhf=>Oi (g6 b hf))) hsz (λ_ h=>h) (λ_ h=> .inl h) (λb hb=>gC (hok.lt b hb) hsz)
  (λm x hm ho=>by subst hm;rw[key,ba rfl]at ho;cases ho;exact mc)
  (λm x b hm ho hf=>by subst hm;rw[key,ba rfl]at ho;cases ho;exact⟨.inl (g6 b (oz b hf)),hok.kk _ _ b hn (oz b hf)⟩)
  (λm x m' x' b hm uJ _ _ _ _=>by rw[hm,uJ])
  (λm xs hm ho y hy n jC=>by subst hm;rw[key,ba rfl]at ho;cases ho;exact g_ n (Ft xs rfl y hy n jC)) Lj SU SK
 refine⟨hh.1, ?_,hh.2⟩
 refine dg.change hok hh.2 (iH.refl _ _) g_ o v (λn jC=>by rw[s1 n jC];exact gO _ _ _ _) (λd ho=>⟨hd d ho, ?_, ?_⟩)
 ·rw[s2 d ho];exact tW
 ·rw[s2 d ho];intro n jC;rw[key];split
  ·simp
  ·exact AM n jC
theorem HW(hE:dP P E)(hF:∀g,FnOk P E g (E.call g))(hok:Ok E σ w c)(dg:eC E σ a w c)(hd:∀d,o.dst=ah d->d<a.tmps.size){cl:Call}{fx x y:cY}(ho:o.op= .call cl)(hb:cl.callee= .value fx)(qw:cl.args.toList=[x,y])
  {f n i j:aG} (ef:dN E w c (.fn f []) (a.eval fx)) (hx:dN E w c (.la n i j) (a.eval x)) (h:(zS E o f n i j y).val σ=ah e) (hc:e.cond=aj):fO P E σ a w c o e.ws:=by
 unfold zS at h;obtain⟨⟨k,m⟩,h1,h⟩:=Rd.bind_some h;have ey:=oD dg h1;obtain⟨ob,h2,h⟩:=Rd.bind_some h;have hg:=cW h2;split at h
 ·rename_i el xs;obtain⟨te,h3,h⟩:=Rd.bind_some h;have h6:=dz h3;split at h
  ·rename_i e2 wW;split at h
   ·rename_i cnd r Fq;split at h
    ·rename_i k2 m2 AX hrs JA;obtain rfl:=aD h;have hc:cnd=true:=hc;subst hc;obtain⟨⟨hi,hxv⟩,_⟩:=hx;obtain⟨zs,yy,t2,r1,r2,r3,r4,r5,r6,r7,r8⟩:=uM hok hg h6 wW hi;rw[ea r1 r2]at Fq;simp only[kU]at Fq;obtain⟨⟨t1,q1,hsz,jI⟩,fN,g6⟩:=hok.obj n _ hg;obtain rfl:te=t1:=aD (h6.symm.trans q1);have j_:i<xs.length:=(aP.1 r1).1;obtain⟨iq,pv,hpb⟩:=fN.pos hi;have Bk:fC xs i j:=⟨yy,_,r1,r2,rfl⟩
     generalize hq:c.G n i j=p at r5 r7 r8 hxv;let c1:dZ:=⟨λ_=>p,λ_ _ _=>⟨aj,0,0,0,0,0⟩,c.K⟩
     let args:ax eu:=[.v ao [.ow e2 aj zs], .v ao [.i k m]]
     have hO:∀q o',inj args (cG q)= .o o'->q=dC 0 0/\o'= .row e2 aj zs:=by
      intro q o' hq';have hm:=n7 hq' (by simp);simp only[args,HI,qy,uK,tB,FD,b7,dv,eR,mO,qE,or_false,ir]at hm;rcases hm with ⟨hm,_⟩|⟨hm,h⟩|⟨hm,_⟩
      ·exact b_ hm (kQ _ _)
      ·exact⟨jk hm,dS.o.inj h⟩
      ·exact b_ hm (kQ _ _)
     have hX:inj args (cG (dC 0 0))= .o (.row e2 aj zs):=rfl;have O5:∀i j,¬fC zs i j:=by rintro i j ⟨y,x,h1,h2,h3⟩;rw[g9 r4 (r6 y (aM h1)) h2]at h3;cases h3
     have Vs:∀b,eI c1 (dC 0 0) (.row e2 aj zs) b->p.nil=ao/\b=p.blk:=by
      rintro b (⟨h1,h2⟩|⟨_,i,j,h,_⟩)
      ·exact⟨h1,h2⟩
      ·exact b_ h (O5 i j)
     have hpf:p.nil=ao->eI c n (.row el aj xs) p.blk:=λhn=> .inr ⟨rfl,i,j,Bk,by rw[hq];exact hn,by rw[hq]⟩;have Ol:Ok E (inj args) w c1:=by
      refine⟨?_, ?_, ?_, ?_, ?_,hok.gp⟩
      ·intro q o' h;obtain⟨rfl,rfl⟩:=hO q o' h;exact⟨⟨t2,r3,r5,r6⟩,r7.frame (λ_=>rfl) (λi j y x u h1 h2 hr=>by rw[ba rfl];exact u9 (g9 r4 (r6 y (aM h1)) h2) hr),λ_=>⟨λi j h=>b_ h (O5 i j),λi j i' j' h=>b_ h (O5 i j)⟩⟩
      ·intro q o' q' o'' b h h' _ _;rw[(hO q o' h).1,(hO q' o'' h').1]
      ·intro q o' b h hf hk;obtain⟨rfl,rfl⟩:=hO q o' h;obtain⟨hn,rfl⟩:=Vs b hf;exact hok.kk _ _ _ hg (hpf hn) hk
      ·exact hok.lt
      ·intro q bs h;obtain⟨_,h⟩:=hO q _ h;cases h
     have hvs:(cl.args.map a.eval).size=args.length:=by
      have:cl.args.size=2:=by rw[<-dm,qw];rfl
      simp[args,this]
     have Rf:cl.args.map a.eval= #[a.eval x,a.eval y]:=by apply qK;rw[xD,qw];rfl
     obtain⟨Wv,he,Zj,_⟩:=ef;have aki:Wv= #[]:=xC (by simpa using Zj);subst aki;obtain⟨⟨fn,g1,g2,g3⟩,HB⟩:=hF f args r Fq w c1 #[a.eval x,a.eval y] Ol rfl (by
      intro q arg hqa;match q with
      |0=>cases hqa;exact⟨_,rfl,hxv⟩
      |1=>cases hqa;exact⟨_,rfl,ey⟩
      |q+2=>cases hqa)
     unfold fO;intro K Q hK;unfold KH;rw[Cm (vs:= #[a.eval x,a.eval y]) ho hb g1 g2 g3 he,Rf,Array.append_empty,Q5];refine Calls.mono HB (λen w' hR=> ?_);cases en with
     |panicked=>exact hR.elim
     |outgrown=>exact hR.elim
     |returned v=>
      obtain⟨c3,Dz,vu,rY,tW⟩:=hR;obtain⟨rs,outs⟩:=r;simp only at hrs JA;subst hrs;subst JA;have hv:v= .int k2 m2:=tW;have hp3:c3.P (dC 0 0)=p:=(rY (dC 0 0) (by rw[hX];simp)).1;have hX3:nS args ⟨[.v ao [.i k2 m2]],[[.kp AX]]⟩ (cG (dC 0 0))= .o (.row e2 aj AX):=rfl;obtain⟨⟨t3,u1,u2,u3⟩,u4,_⟩:=Dz.obj _ _ hX3;obtain rfl:t2=t3:=aD (r3.symm.trans u1);rw[hp3]at u2 u4;have ajC:ij w' p AX (λ_ _ u x=>Sc u x):=u4.frame (λ_=>rfl) (λi j y x u h1 h2 hr=>by rw[ba rfl]at hr;exact vk hr (g9 r4 (u3 y (aM h1)) h2));have nW:∀b,b<w.heap.size->¬(p.nil=ao/\b=p.blk)->w'.heap[b]? =w.heap[b]? :=λb hb Vx=>vu.same b hb (by rintro ⟨q,o',h1,h2⟩;obtain⟨rfl,rfl⟩:=hO q o' h1;exact Vx (Vs b h2));have hjk:j<te.ks.length:=(aP.1 wW).1;have Za:[CV.l e2 AX].map CV.kd=(te.ks.drop j).take [CV.l e2 AX].length:=by rw[bu,List.take_one,Vb,wW];rfl
      have pk:=sg (i:=i) (j:=j) (cs:=[CV.l e2 AX]) jI Za (by simp;omega) j_;have HC:=jP jI;have zM:=jP pk;have same:∀i' j',fC (eN xs i j [CV.l e2 AX]) i' j'->fC xs i' j':=λi' j' hx=>(HC i' j').2 (by have:=(zM i' j').1 hx;rwa[iQ]at this);have jj:∀b,eI c n (.row el aj xs) b->b<w.heap.size:=λb hb=>vq.lt hok ⟨n,_,hg,hb⟩;have Zi:p.nil=ao->(c.P n).blk≠p.blk:=λhn e=>(g6 rfl).out i j Bk (by rw[hq];exact hn) iq (by rw[hq];exact e.symm);have lM:ij w' (c.P n) (eN xs i j [CV.l e2 AX]) (λi1 j1 u1 x1=>if aj=aj then XC E w' (c.G n) i1 j1 u1 x1 else cK E w' c.K u1 x1):=by
       obtain⟨vs,k1,k2,k3,k4,k5⟩:=fN.mem iq;refine⟨by rw[iQ];exact fN.n,λhn=>(by rw[iq]at hn;cases hn),λ_=>⟨vs,k1.frame (nW _ (jj _ (.inl ⟨iq,rfl⟩)) (λh=>Zi h.1 h.2)),k2,k3,k4,λi1 y1 j1 x1 g1 g2=> ?_⟩⟩
       rw[u_ r1]at g1;simp only[if_true]at k5⊢;by_cases Fs:i1=i
       ·subst Fs;rw[ba rfl]at g1;cases g1;have GD:yy.length=te.ks.length:=by rw[<-jI yy (aM r1)];simp
        rw[n6 (by simp;omega)]at g2;by_cases hqq:j<=j1/\j1<j+[CV.l e2 AX].length
        ·rw[ba hqq]at g2;have:j1=j:=by simp at hqq;omega
         subst this;simp at g2;subst g2;obtain⟨u,hu,hr⟩:=k5 _ _ _ _ r1 r2;refine⟨u,hu,hr.1,t2,r3,r4,by rw[hq];exact r5,u3,by rw[hq];exact ajC⟩
        ·rw[a_ hqq]at g2;obtain⟨u,hu,hr⟩:=k5 _ _ _ _ r1 g2;refine⟨u,hu,hr.frame (λhl hn=>nW _ (jj _ (.inr ⟨rfl,_,_,⟨yy,x1,r1,g2,hl⟩,hn,rfl⟩)) (λe=> ?_))⟩
         have:=((g6 rfl).one _ _ _ _ ⟨yy,x1,r1,g2,hl⟩ Bk hn (by rw[hq];exact e.1) (by rw[hq];exact e.2)).2;simp at hqq;omega
       ·rw[a_ Fs]at g1;obtain⟨u,hu,hr⟩:=k5 _ _ _ _ g1 g2;exact⟨u,hu,hr.frame (λhl hn=>nW _ (jj _ (.inr ⟨rfl,_,_,⟨y1,x1,g1,g2,hl⟩,hn,rfl⟩)) (λe=>Fs ((g6 rfl).one _ _ _ _ ⟨y1,x1,g1,g2,hl⟩ Bk hn (by rw[hq];exact e.1) (by rw[hq];exact e.2)).1))⟩
      obtain⟨z1,z2,z3⟩:=DT hok dg hd hg (ob':= .row el aj (eN xs i j [CV.l e2 AX])) (w':=w') (s:= .v ao [.i k2 m2]) (v:=v)
       ⟨⟨te,q1,hsz,pk⟩,lM,λhx=>⟨λi1 j1 hh=>(g6 hx).out i1 j1 (same i1 j1 hh),λi1 j1 i2 j2 h1 h2=>(g6 hx).one i1 j1 i2 j2 (same i1 j1 h1) (same i2 j2 h2)⟩⟩
       (by
        rintro b (hb|⟨hx,i1,j1,hh,hn⟩)
        ·exact .inl hb
        ·exact .inr ⟨hx,i1,j1,same i1 j1 hh,hn⟩)
       (λzs hz=>by cases hz) hv (λn hn=>by simp[b8,bm]at hn)
       (λb hb Mm=>nW b hb (λe=>Mm (by rw[e.2];exact hpf e.1))) vu.size vu.os vu.tape vu.output
      exact hK v w' c z1 z2 z3 (iH.refl _ _).w
    ·simp at h
   ·simp at h
  ·simp at h
 ·simp at h
theorem Ed{α:Type}{x y:Rd α}{σ:St}{e:α}(h:(x.or y).val σ=ah e):x.val σ=ah e\/y.val σ=ah e:=by
 induction x with
 |ret a=>exact .inl h
 |fail=>exact .inr h
 |get k f ih=>
  have h':((f (σ k)).or y).val σ=ah e:=by rw[<-h];unfold Rd.val;simp only[Rd.or,Rd.run];rw[jS,jS]
  rcases ih (σ k) h' with h|h
  ·refine .inl ?_;rw[<-h];unfold Rd.val;simp only[Rd.run];rw[jS,jS]
  ·exact .inr h
theorem z8(hE:dP P E)(hF:∀g,FnOk P E g (E.call g))(hok:Ok E σ w c)(dg:eC E σ a w c)(hd:∀d,o.dst=ah d->d<a.tmps.size){cl:Call}{fx:cY}(ho:o.op= .call cl)(hb:cl.callee= .value fx){f:aG}{gQ:ax (ax CV)}(ef:dN E w c (.fn f gQ) (a.eval fx)){Mq:ax aG}(h:(Jb E nm o f cl.args.toList Mq gQ).val σ=ah e)(hc:e.cond=aj):fO P E σ a w c o e.ws:=by
 rcases Ed h with h|h
 ·exact FT hE hF hok dg hd ho hb ef h hc
 ·exact FT hE hF hok dg hd ho hb ef h hc
theorem T_(hE:dP P E)(hF:∀g,FnOk P E g (E.call g))(hok:Ok E σ w c)(dg:eC E σ a w c)(hd:∀d,o.dst=ah d->d<a.tmps.size){cl:Call}{fx:cY}(ho:o.op= .call cl)(hb:cl.callee= .value fx)(h:(kH E nm o).val σ=ah e)(hc:e.cond=aj):fO P E σ a w c o e.ws:=by
 simp only[kH,ho,hb]at h;obtain⟨fv,h1,h⟩:=Rd.bind_some h;have ef:=(h_ dg h1).1;cases fv with
 |fn f gQ=>
  simp only at h;split at h
  ·rename_i x y qw;obtain⟨sx,h2,h⟩:=Rd.bind_some h;split at h
   ·rename_i n i j;cases hm:E.mode f 0 with
    |true=>rw[hm,aw]at h;exact HW hE hF hok dg hd ho hb qw ef (kR dg h2).1 h hc
    |false=>rw[hm,az]at h;exact z8 hE hF hok dg hd ho hb ef h hc
   ·exact z8 hE hF hok dg hd ho hb ef h hc
  ·exact z8 hE hF hok dg hd ho hb ef h hc
 |_=>simp at h
end
end Go.FG

namespace Go.FG
section
variable {P:cC} {E:eL} {σ:St} {a:Act} {w:bw} {c:dZ} {o:eD} {nm:aG} {e:qQ}
theorem ad5(hE:dP P E)(hF:∀g,FnOk P E g (E.call g))(hok:Ok E σ w c)(dg:eC E σ a w c)(hd:∀d,o.dst=ah d->d<a.tmps.size)(h:(kH E nm o).val σ=ah e)(hc:e.cond=aj):fO P E σ a w c o e.ws:=by
 cases ho:o.op with
 |move x=>exact JU hok dg hd (.inl ho) h
 |assign x=>exact JU hok dg hd (.inr ho) h
 |nilCheck x=>exact FV hok dg hd ho h
 |pick x y z=>exact Ub hok dg hd ho h hc
 |alloc t=>exact Po hE hok dg hd ho h
 |box t x=>exact ZR hok dg hd ho h
 |build t ps=>exact Pq hE hok dg hd ho h
 |buildSlice t n ps=>exact Bp hE hok dg hd ho h hc
 |load t p=>exact Ua hE hok dg hd ho h
 |store t p x=>exact Py hE hok dg hd ho h
 |fieldAddr t p f=>exact DN hE hok dg hd ho h
 |field t x f=>exact Pt hE hok dg hd ho h
 |indexAddr t x i=>exact DO hE hok dg hd ho h hc
 |index t x i=>exact Pv hE hok dg hd ho h hc
 |binOp op t x y ty=>exact Pp hE hok dg hd ho h hc
 |unOp op t x=>exact Uc hok dg hd ho h
 |convert s d x=>exact HX hE hok dg hd ho h hc
 |makeSlice t l m=>exact DP hE hok dg hd ho h hc
 |slice t x lo hi mx=>exact Pw hE hok dg hd ho h hc
 |extract x i=>exact HY hok dg hd ho h
 |makeFunc f first gQ=>exact FU hok dg hd ho h
 |call cl=>
  cases hb:cl.callee with
  |value f=>exact T_ hE hF hok dg hd ho hb h hc
  |builtin b=>
   cases b with
   |len=>exact ZT hE hok dg hd ho hb h
   |cap=>exact ZS hE hok dg hd ho hb h
   |min=>exact Cb ao hok dg hd ho hb h
   |max=>exact Cb aj hok dg hd ho hb h
   |clear=>exact Ps hE hok dg hd ho hb h
   |append=>exact LF hE hok dg hd ho hb h hc
   |_=>simp[kH,ho,hb]at h
  |_=>simp[kH,ho,hb]at h
 |_=>simp[kH,ho]at h
end
end Go.FG

namespace Go.FG
theorem AD{σ:St}{k:aG}{c:dS}(h:σ k=c):nE σ k c=σ:=by
 funext n;by_cases hn:n=k
 ·subst hn;rw[rK,h]
 ·rw[wH σ c hn]
def Q2(c c':dZ):Prop:=∀m,900000000<=m->c'.P m=c.P m/\c'.G m=c.G m
theorem Q2.refl(c:dZ):Q2 c c:=λ_ _=>⟨rfl,rfl⟩
theorem Q2.trans{c c1 c2:dZ}(h:Q2 c c1)(k:Q2 c1 c2):Q2 c c2:=λm hm=>⟨(k m hm).1.trans (h m hm).1,(k m hm).2.trans (h m hm).2⟩
theorem S7{m:aG}(h:900000000<=m):tX m=false:=by
 unfold tX;cases hb:o9 m 900000000 with
 |true=>have:m<900000000:=by simpa [xJ]using hb
        omega
 |false=>simp
theorem oH.aga{σ:St}{c c':dZ}(h:oH σ c c'):Q2 c c':=λm hm=>⟨(h m (.inr hm)).1,(h m (.inr hm)).2 (S7 hm)⟩
def kS(all:cX eD)(o:eD)(σ:St):aA aU:=
 match o.guard with
 |none=>ah aj
 |some (g,want)=>match (all.getD g default).dst with
  |none=>ai
  |some d=>match σ (o0 d)with| .v (.v ao [.b x])=>ah (x==want)| .v (.jf [])=>ah ao|_=>ai
def ox(all:cX eD)(o:eD):ax aG:=
 match o.guard with
 |none=>[]
 |some (g,_)=>match (all.getD g default).dst with|none=>[]|some d=>[o0 d]
def sN(E:eL)(all:cX eD)(nm:aG)(o:eD)(σ:St)(ws:ax (aG×dS))(lg:Lg):Prop:=
 (kS all o σ=ah aj/\∃e l,(kH E nm o).run σ []=ah (e,l)/\e.cond=aj/\ws=e.ws/\lg=⟨ox all o++l,e.ws.map (·.1)⟩)\/
 (kS all o σ=ah ao/\ws=dw o (.jf [])/\lg=⟨ox all o,(dw o (.jf [])).map (·.1)⟩)
def HS(mX i:aG):aG:=(mX+1)*1000000+i*1000
abbrev Tr:=ax (ax (aG×dS)×Lg)
def ud(E:eL)(all:cX eD)(mX:aG):aG->ax eD->St->Tr->St->Prop
 |_,[],σ,tr,σ'=>tr=[]/\σ'=σ
 |i,o::os,σ,tr,σ'=>∃ws lg Xi,tr=(ws,lg)::Xi/\sN E all (HS mX i) o σ ws lg/\ud E all mX (i+1) os (wr σ ws) Xi σ'
theorem LG{R:Type}(E:eL)(all:cX eD)(mX:aG):∀(os:ax eD) (i:aG) (σ:St) (lg:ax Lg) (K:St->ax Lg->aA R) (r:R),ops E all mX i os σ lg K=ah r->
  ∃tr σ',ud E all mX i os σ tr σ'/\K σ' ((tr.map (·.2)).reverse++lg)=ah r:=by
 intro os;induction os with
 |nil=>intro i σ lg K r h;exact⟨[],σ,⟨rfl,rfl⟩,by simpa [ops]using h⟩
 |cons o os ih=>
  intro i σ lg K r h;have next:∀ws l,sN E all (HS mX i) o σ ws l->ops E all mX (i+1) os (wr σ ws) (l::lg) K=ah r->∃tr σ',ud E all mX i (o::os) σ tr σ'/\K σ' ((tr.map (·.2)).reverse++lg)=ah r:=by intro ws l hs h;obtain⟨tr,σ',h1,h2⟩:=ih _ _ _ _ _ h;exact⟨(ws,l)::tr,σ',⟨ws,l,tr,rfl,hs,h1⟩,by simpa using h2⟩
  have ad7:∀rs,rs=ox all o->kS all o σ=ah aj->(match (kH E (HS mX i) o).run σ []with
    |some (e,l)=>bif e.cond then ops E all mX (i+1) os (wr σ e.ws) (⟨rs++l,e.ws.map (·.1)⟩::lg) K else ai
    |none=>ai)=ah r->∃tr σ',ud E all mX i (o::os) σ tr σ'/\K σ' ((tr.map (·.2)).reverse++lg)=ah r:=by
   intro rs hrs hw h
   cases hr:(kH E (HS mX i) o).run σ []with
   |none=>rw[hr]at h;cases h
   |some el=>
    obtain⟨e,l⟩:=el;rw[hr]at h;cases hc:e.cond with
    |false=>simp[hc]at h
    |true=>simp only[hc,aw]at h;exact next e.ws _ (.inl ⟨hw,e,l,hr,hc,rfl,by rw[hrs]⟩) h
  unfold ops at h;simp(config:={zeta:=false}) only[B0]at h;cases hg:o.guard with
  |none=>rw[hg]at h;exact ad7 [] (by simp[ox,hg]) (by simp[kS,hg]) h
  |some gw=>
   obtain⟨g,want⟩:=gw;rw[hg]at h;dsimp only at h;cases hd:(all.getD g default).dst with
   |none=>rw[hd]at h;cases h
   |some d=>
    rw[hd]at h;dsimp only at h;have vu:ox all o=[o0 d]:=by unfold ox;rw[hg];dsimp only;rw[hd]
    cases hs:σ (o0 d)with
    |v sv=>
     rw[hs]at h;cases sv with
     |v agg xs=>
      cases agg with
      |true=>cases h
      |false=>
       match xs with
       |[]=>cases h
       |_::_::_=>simp at h
       |[av]=>
        cases av with
        |b x=>
         have hwa:kS all o σ=ah (x==want):=by unfold kS;rw[hg];dsimp only;rw[hd];dsimp only;rw[hs]
         have hup:nE σ (o0 d) (.v (.v ao [.b x]))=σ:=AD hs;have skip:kS all o σ=ah ao->ops E all mX (i+1) os (wr (nE σ (o0 d) (.v (.v ao [.b x]))) (dw o (.jf []))) (⟨[o0 d],(dw o (.jf [])).map (·.1)⟩::lg) K=ah r->∃tr σ',ud E all mX i (o::os) σ tr σ'/\K σ' ((tr.map (·.2)).reverse++lg)=ah r:=by intro hw h;rw[hup]at h;exact next (dw o (.jf [])) _ (.inr ⟨hw,rfl,by rw[vu]⟩) h
         have Wt:kS all o σ=ah aj->(match (kH E (HS mX i) o).run (nE σ (o0 d) (.v (.v ao [.b x]))) []with
           |some (e,l)=>bif e.cond then ops E all mX (i+1) os (wr (nE σ (o0 d) (.v (.v ao [.b x]))) e.ws) (⟨o0 d::l,e.ws.map (·.1)⟩::lg) K else ai
           |none=>ai)=ah r->∃tr σ',ud E all mX i (o::os) σ tr σ'/\K σ' ((tr.map (·.2)).reverse++lg)=ah r:=by
          intro hw h
          rw[hup]at h
          exact ad7 [o0 d] vu.symm hw h
         cases x with
         |true=>
          cases want with
          |true=>exact Wt (by rw[hwa];rfl) h
          |false=>exact skip (by rw[hwa];rfl) h
         |false=>
          cases want with
          |true=>exact skip (by rw[hwa];rfl) h
          |false=>exact Wt (by rw[hwa];rfl) h
        |_=>simp at h
     |jf l=>cases l with
      |nil=>
       have hwa:kS all o σ=ah false:=by unfold kS;rw[hg];dsimp only;rw[hd];dsimp only;rw[hs]
       exact next (dw o (.jf [])) _ (.inr ⟨hwa,rfl,by rw[vu]⟩) h
      |cons=>simp at h
     |un=>simp at h
    |o x=>rw[hs]at h;cases h
    |iN=>rw[hs]at h;cases h
section
variable {P:cC} {E:eL} {σ:St} {a:Act} {w:bw} {c:dZ} {o:eD} {nm:aG} {e:qQ}
theorem Cu(dg:eC E σ a w c){all:cX eD}{x:aU}(h:kS all o σ=ah x):sM o (yielded all a.tmps)=x:=by
 unfold kS at h;unfold sM;cases hg:o.guard with
 |none=>rw[hg]at h;simp at h;simp[<-h]
 |some gw=>
  obtain⟨g,want⟩:=gw;rw[hg]at h;simp only at h⊢;cases hd:(all.getD g default).dst with
  |none=>rw[hd]at h;cases h
  |some d=>
   rw[hd]at h;have hgo:(all[g]?).bind (·.dst)=ah d:=by
    rw[dc]at hd;cases hq:all[g]? with
    |none=>rw[hq]at hd;cases hd
    |some og=>rw[hq]at hd;exact hd
   simp only at h;split at h
   ·rename_i y hy;have h1:=dg.ok d;have:slot σ d= .v ao [.b y]:=by unfold slot;rw[hy]
    rw[this]at h1;have h1:a.eval (.tmp d)= .bool y:=h1;have ht:a.tmps[d]? =ah (.bool y):=by
     have h2:a.tmps.getD d undef= .bool y:=h1;rw[dc]at h2;cases hq:a.tmps[d]? with
     |none=>rw[hq]at h2;cases h2
     |some v=>rw[hq]at h2;rw[show v=_ from h2]
    have GD:yielded all a.tmps g=ah y:=by unfold yielded;rw[hgo];simp[ht]
    rw[GD];simp at h;rw[<-h];cases y<;>cases want<;>rfl
   ·rename_i hy;have h1:=dg.ok d;have:slot σ d= .jf []:=by unfold slot;rw[hy]
    rw[this]at h1;obtain⟨vs,h1,h3,_⟩:=h1;have h4:vs= #[]:=by simpa using h3
    subst h4;have ht:a.tmps.getD d undef= .tuple #[]:=h1;have GD:yielded all a.tmps g=none:=by
     unfold yielded;rw[hgo];rw[dc]at ht;cases hq:a.tmps[d]? with
     |none=>simp[hq]
     |some v=>rw[hq]at ht;simp at ht;simp[hq,ht]
    rw[GD];have h5:ao=x:=by simpa using h
    rw[<-h5];cases want<;>rfl
   ·cases h
theorem Act.Qf(a:Act)(d:aA Tmp)(v:a7):(a.put d v).tmps.size=a.tmps.size:=by cases d<;>simp[Q3]
theorem yQ(hE:dP P E)(hF:∀g,FnOk P E g (E.call g))(hok:Ok E σ w c)(dg:eC E σ a w c)(hd:∀d,o.dst=ah d->d<a.tmps.size){all:cX eD}{i:aG}(hi:all[i]? =ah o){ws:ax (aG×dS)}{lg:Lg}(h:sN E all nm o σ ws lg)
  {K:Act->bw->Prop} {Q:Exit->Act->bw->Prop} (hK:∀v w' c',Ok E (wr σ ws) w' c'->eC E (wr σ ws) (a.put o.dst v) w' c'->Grow σ c w (wr σ ws) c' w'->oH σ c c'->K (a.put o.dst v) w'):wpOp P all Q i K a w:=by
 unfold wpOp;rw[hi];simp only;rcases h with ⟨hw,e,l,hr,hc,rfl,_⟩|⟨hw,rfl,_⟩
 ·rw[ba (Cu dg hw)];exact .inl (ad5 hE hF hok dg hd (Rd.Im hr) hc K Q hK)
 ·rw[a_ (by rw[Cu dg hw];simp)];obtain⟨s1,s2,s3⟩:=oF σ o (.jf []);obtain⟨h1,h2⟩:=hok.slot s3;refine hK undef w c h1 ?_ h2 (iH.refl _ _).w;refine dg.change hok h2 (iH.refl _ _) (λnm hn=>by rw[s3];exact hn) o undef s1 (λd ho=>⟨hd d ho, ?_, ?_⟩)
  ·rw[s2 d ho];exact⟨#[],rfl,rfl,λj agg xs hj=>by simp at hj⟩
  ·rw[s2 d ho];intro n hn;simp[b8]at hn
structure At (P:cC) (E:eL) (N:aG) (σ0:St) (c0:dZ) (w0:bw) (σ:St) (a:Act) (w:bw) (c:dZ):Prop where
 ok:Ok E σ w c
 sl:eC E σ a w c
 sz:a.tmps.size=N
 gr:Grow σ0 c0 w0 σ c w
 ag:Q2 c0 c
theorem At.step{N:aG}{σ0:St}{c0:dZ}{w0:bw}(h:At P E N σ0 c0 w0 σ a w c){d:aA Tmp}{v:a7}{w':bw}{c':dZ}{σ':St}(h1:Ok E σ' w' c')(h2:eC E σ' (a.put d v) w' c')(h3:Grow σ c w σ' c' w')(h4:oH σ c c'):At P E N σ0 c0 w0 σ' (a.put d v) w' c':=
 ⟨h1,h2,by rw[Act.Qf];exact h.sz,h.gr.trans h3,h.ag.trans h4.aga⟩
theorem Hf(hE:dP P E)(hF:∀g,FnOk P E g (E.call g)){N:aG}{σ0:St}{c0:dZ}{w0:bw}{all:cX eD}{mX:aG}{Q:Exit->Act->bw->Prop}:∀(os:ax eD) (i:aG) (σ:St) (tr:Tr) (σ':St),ud E all mX i os σ tr σ'->(∀j o,os[j]? =ah o->all[i+j]? =ah o)->(∀o∈os,∀d,o.dst=ah d->d<N)->
  (∀a w c,At P E N σ0 c0 w0 σ' a w c->Q .normal a w)->∀a w c,At P E N σ0 c0 w0 σ a w c->wpOps P all Q (ml i os.length) a w:=by
 intro os;induction os with
 |nil=>intro i σ tr σ' h _ _ hQ a w c fN;obtain⟨_,rfl⟩:=h;exact hQ a w c fN
 |cons o os ih=>intro i σ tr σ' h l_ zL hQ a w c fN;obtain⟨ws,lg,Xi,rfl,hs,Rg⟩:=h;have hi:all[i]? =ah o:=l_ 0 o rfl;rw[bU,List.range'_succ,wpOps_cons];refine yQ hE hF fN.ok fN.sl (λd hd=>by rw[fN.sz];exact zL o (cw ..) d hd) hi hs (λv w' c' h1 h2 h3 h4=> ?_);exact ih (i+1) _ _ _ Rg (λj o' hj=>by have:=l_ (j+1) o' hj;rwa[show i+(j+1)=i+1+j by omega]at this) (λo' sQ=>zL o' (cg _ sQ)) hQ _ _ _ (fN.step h1 h2 h3 h4)
end
end Go.FG

namespace Go.FG
theorem Rd.Up{α:Type}(m:Rd α):∀{σ:St} {l l':ax aG} {a:α},m.run σ l=ah (a,l')->∀k∈l,k∈l':=by
 induction m with
 |ret a=>intro σ l l' b h k hk;cases h;exact hk
 |fail=>intro σ l l' b h;cases h
 |get k f ih=>intro σ l l' b h k' sP;exact ih _ h k' (cg _ sP)
theorem Rd.L3{α:Type}(m:Rd α):∀{σ σ':St} {l l':ax aG} {a:α},m.run σ l=ah (a,l')->(∀k∈l',σ' k=σ k)->m.run σ' l=ah (a,l'):=by
 induction m with
 |ret a=>intro σ σ' l l' b h _;exact h
 |fail=>intro σ σ' l l' b h;cases h
 |get k f ih=>intro σ σ' l l' b h hk;have h:(f (σ k)).run σ (k::l)=ah (b,l'):=h;have sP:σ' k=σ k:=hk k (Rd.Up _ h k (cw ..));show(f (σ' k)).run σ' (k::l)=ah (b,l');rw[sP];exact ih _ h hk
theorem vi{all:cX eD}{o:eD}{σ σ':St}(h:∀k∈ox all o,σ' k=σ k):kS all o σ'=kS all o σ:=by
 unfold kS ox at*
 cases hg:o.guard with
 |none=>rfl
 |some gw=>
  obtain⟨g,want⟩:=gw;rw[hg]at h;dsimp only at h⊢;cases hd:(all.getD g default).dst with
  |none=>rfl
  |some d=>rw[hd]at h;dsimp only at h⊢;rw[h (o0 d) (aW.2 rfl)]
theorem sN.congr{E:eL}{all:cX eD}{nm:aG}{o:eD}{σ σ':St}{ws:ax (aG×dS)}{lg:Lg}(h:sN E all nm o σ ws lg)(hk:∀k∈lg.rs,σ' k=σ k):sN E all nm o σ' ws lg:=by
 rcases h with ⟨h1,e,l,h2,h3,rfl,rfl⟩|⟨h1,rfl,rfl⟩
 ·refine .inl ⟨by rw[vi (λk sP=>hk k (bL _ sP))];exact h1,e,l,Rd.L3 _ h2 (λk sP=>hk k (bE _ sP)),h3,rfl,rfl⟩
 ·exact .inr ⟨by rw[vi (λk sP=>hk k sP)];exact h1,rfl,rfl⟩
theorem sN.keys{E:eL}{all:cX eD}{nm:aG}{o:eD}{σ:St}{ws:ax (aG×dS)}{lg:Lg}(h:sN E all nm o σ ws lg):lg.ws=ws.map (·.1):=by rcases h with ⟨h1,e,l,h2,h3,rfl,rfl⟩|⟨h1,rfl,rfl⟩<;>rfl
theorem n8:∀{ws:ax (aG×dS)} {σ:St} {k:aG},k∉ws.map (·.1)->wr σ ws k=σ k:=by
 intro ws;induction ws with
 |nil=>intro σ k _;rfl
 |cons d ws ih=>obtain⟨k',c⟩:=d;intro σ k h;rw[eF,b7,not_or]at h;show wr (nE σ k' c) ws k=σ k;rw[ih h.2,wH σ c h.1]
theorem QT:∀{ws:ax (aG×dS)} {σ σ':St} {k:aG},k∈ws.map (·.1)->wr σ ws k=wr σ' ws k:=by
 intro ws;induction ws with
 |nil=>intro σ σ' k h;cases h
 |cons d ws ih=>
  obtain⟨k',c⟩:=d;intro σ σ' k h;show wr (nE σ k' c) ws k=wr (nE σ' k' c) ws k;by_cases hk:k∈ws.map (·.1)
  ·exact ih hk
  ·have:k=k':=by
    rcases b7.1 h with h|h
    ·exact h
    ·exact b_ h hk
   subst this;rw[n8 hk,n8 hk,rK,rK]
theorem QS{ws:ax (aG×dS)}{σ σ':St}{k:aG}(h:σ k=σ' k):wr σ ws k=wr σ' ws k:=by
 by_cases hk:k∈ws.map (·.1)
 ·exact QT hk
 ·rw[n8 hk,n8 hk];exact h
def AP:Tr->aG->(aG->aU)->St->St
 |[],_,_,σ=>σ
 |(ws,_)::tr,i,S,σ=>AP tr (i+1) S (bif S i then wr σ ws else σ)
theorem si:∀{tr:Tr} {i:aG} {S S':aG->aU} {σ σ':St} {k:aG},σ k=σ' k->(∀j ws lg,tr[j]? =ah (ws,lg)->S (i+j)≠S' (i+j)->k∉ws.map (·.1))->AP tr i S σ k=AP tr i S' σ' k:=by
 intro tr;induction tr with
 |nil=>intro i S S' σ σ' k h _;exact h
 |cons d tr ih=>
  obtain⟨ws,lg⟩:=d;intro i S S' σ σ' k h hd;refine ih ?_ (λj Bv AO hj g_=>hd (j+1) Bv AO hj (by rwa[show i+(j+1)=i+1+j by omega]));by_cases hS:S i=S' i
  ·rw[hS];cases S' i
   ·exact h
   ·exact QS h
  ·have hk:=hd 0 ws lg rfl hS;cases hs:S i<;>cases hs':S' i
   ·exact b_ (hs.trans hs'.symm) hS
   ·show σ k=wr σ' ws k;rw[n8 hk];exact h
   ·show wr σ ws k=σ' k;rw[n8 hk];exact h
   ·exact b_ (hs.trans hs'.symm) hS
theorem Ay:∀{tr:Tr} {i:aG} {S:aG->aU} {σ:St},(∀j,i<=j->S j=ao)->AP tr i S σ=σ:=by
 intro tr;induction tr with
 |nil=>intro i S σ _;rfl
 |cons d tr ih=>obtain⟨ws,lg⟩:=d;intro i S σ h;show AP tr (i+1) S (bif S i then wr σ ws else σ)=σ;rw[h i (bR _)];exact ih (λj hj=>h j (by omega))
theorem QJ:∀{tr:Tr} {i j:aG} {S:aG->aU} {σ:St} {ws:ax (aG×dS)} {lg:Lg},tr[j]? =ah (ws,lg)->S (i+j)=aj->(∀q,i+j<q->S q=ao)->∃τ,AP tr i S σ=wr τ ws:=by
 intro tr;induction tr with
 |nil=>intro i j S σ ws lg h;simp at h
 |cons d tr ih=>
  obtain⟨Bv,AO⟩:=d;intro i j S σ ws lg h hS hn;cases j with
  |zero=>
   cases h;refine⟨σ, ?_⟩
   show AP tr (i+1) S (bif S i then wr σ Bv else σ)=wr σ Bv;rw[show S i=aj from hS];exact Ay (λq hq=>hn q (by omega))
  |succ j=>exact ih (i:=i+1) h (by rwa[show i+1+j=i+(j+1)by omega]) (λq hq=>hn q (by omega))
theorem NS{E:eL}{all:cX eD}{mX:aG}:∀{os:ax eD} {i:aG} {σ σ':St} {tr:Tr},ud E all mX i os σ tr σ'->tr.length=os.length/\AP tr i (λ_=>aj) σ=σ'/\
  ∀(j:aG) (o:eD),os[j]? =ah o->∃ws lg,tr[j]? =ah (ws,lg)/\sN E all (HS mX (i+j)) o (AP tr i (λq=>decide (q<i+j)) σ) ws lg:=by
 intro os;induction os with
 |nil=>intro i σ σ' tr h;obtain⟨rfl,rfl⟩:=h;exact⟨rfl,rfl,λj o h=>by simp at h⟩
 |cons o os ih=>
  intro i σ σ' tr h;obtain⟨ws,lg,Xi,rfl,hs,Rg⟩:=h;obtain⟨h1,h2,h3⟩:=ih Rg;refine⟨by simp[h1],h2,λj o' hj=> ?_⟩
  cases j with
  |zero=>
   cases hj;refine⟨ws,lg,rfl, ?_⟩
   rw[show AP ((ws,lg)::Xi) i (λq=>decide (q<i+0)) σ=σ from Ay (λq hq=>by simp;omega)];exact hs
  |succ j=>
   obtain⟨Bv,AO,q1,q2⟩:=h3 j o' hj;refine⟨Bv,AO,q1, ?_⟩
   have e1:AP ((ws,lg)::Xi) i (λq=>decide (q<i+(j+1))) σ=AP Xi (i+1) (λq=>decide (q<i+1+j)) (wr σ ws):=by show AP Xi (i+1) (λq=>decide (q<i+(j+1))) (bif decide (i<i+(j+1))then wr σ ws else σ)=_;rw[aE (by omega:i<i+(j+1))];rw[show i+(j+1)=i+1+j by omega];rfl
   rw[e1,show i+(j+1)=i+1+j by omega];exact q2
theorem qX{a b:Lg}(h:zu a b=ao):(∀k∈a.ws,k∉b.ws)/\(∀k∈a.ws,k∉b.rs)/\∀k∈b.ws,k∉a.rs:=by simp only[zu,vx,aJ]at h;exact⟨ny h.1.1,ny h.1.2,ny h.2⟩
theorem wv{l:ax aG}{n:aG}(h:ld n l=aj):n∈l:=by
 induction l with
 |nil=>cases h
 |cons m r ih=>
  simp only[ld,dq]at h;rcases h with h|h
  ·rw[aN h];exact cw ..
  ·exact cg _ (ih h)
theorem Hb{an:ax aG}{j:aG}{a:Lg}:∀{l:ax Lg} {i:aG},yD an j a i l=aj->∀(q:aG) (b:Lg),l[q]? =ah b->i+q∈an\/zu a b=false:=by
 intro l;induction l with
 |nil=>intro i _ q b h;simp at h
 |cons d l ih=>
  intro i h q b hq;simp only[yD,aJ,dq,dA]at h;cases q with
  |zero=>cases hq;exact h.1.imp wv id
  |succ q=>have:=ih h.2 q b hq;rwa[show i+1+q=i+(q+1)by omega]at this
theorem Jd{an:ax (ax aG)}:∀{rest:ax Lg} {j:aG} {done:ax Lg},done.length=j->calm j an done rest=aj->∀(i J:aG) (a b:Lg),i<J->j<=J->(done++rest)[i]? =ah b->(done++rest)[J]? =ah a->i∈an.getD J []\/zu a b=false:=by
 intro rest;induction rest with
 |nil=>intro j done hd _ i J a b _ hJ _ hb;rw[dv,jK (by omega)]at hb;cases hb
 |cons d rest ih=>
  intro j done hd h i J a b Le hJ hi hb;simp only[calm,aJ]at h;by_cases hJj:J=j
  ·subst hJj;rw[cT (by omega),hd,Ye]at hb;cases hb;rw[dx (by omega)]at hi;have:=Hb h.1 i b hi;rwa[bG]at this
  ·refine ih (done:=done++[d]) (by simp[hd]) h.2 i J a b Le (by omega) ?_ ?_
   ·rw[bY];exact hi
   ·rw[bY];exact hb
theorem RZ:∀{os:ax eD} {acc:ax (ax aG)},∃rest,Db acc os=acc++rest/\rest.length=os.length/\
  ∀(t:aG) (o:eD),os[t]? =ah o->rest[t]? =ah (YG [] (o.after.toList.flatMap λe=>bif ll .any e then e.on::((acc++rest).take (acc.length+t)).getD e.on []else [])):=by
 intro os;induction os with
 |nil=>intro acc;exact⟨[],by simp[Db],rfl,λt o h=>by simp at h⟩
 |cons o os ih=>
  intro acc;let x:=YG [] (o.after.toList.flatMap λe=>bif ll .any e then e.on::acc.getD e.on []else []);obtain⟨rest,h1,h2,h3⟩:=ih (acc:=acc++[x]);refine⟨x::rest, ?_,by simp[h2],λt o' ht=> ?_⟩
  ·show lA x (λx=>Db (acc++[x]) os)=_;rw[nA,h1,bY];rfl
  ·cases t with
   |zero=>cases ht;rw[qC,rS,AJ (bR _),d_]
   |succ t=>rw[dr,h3 t o' ht];simp only[bW,bu,bY,sC,show acc.length+1+t=acc.length+(t+1)by omega]
theorem JV:∀{os:ax eD} {i:aG},FW i os=aj->∀(t:aG) (o:eD),os[t]? =ah o->∀e∈o.after,ll .any e=aj->e.on<i+t:=by
 intro os;induction os with
 |nil=>intro i _ t o h;simp at h
 |cons o os ih=>
  intro i h t o' ht e he hb;simp only[FW,aJ]at h;cases t with
  |zero=>
   cases ht;have:=bf.1 h.1 e (by simpa using he);rw[hb]at this;have:o9 e.on i=true:=by simpa using this
   simpa [xJ]using this
  |succ t=>have:=ih h.2 t o' ht e he hb;omega
theorem zi{os:ax eD}{S:aG->aU}(hS:∀(j:aG) (o:eD),S j=aj->os[j]? =ah o->∀e∈o.after,ll .any e=aj->S e.on=aj)(Oo:FW 0 os=aj):
  ∀j,S j=aj->∀i∈(Db [] os).getD j [],S i=true:=by
 obtain⟨rest,h1,h2,h3⟩:=RZ (os:=os) (acc:=[]);rw[eR]at h1;intro j;induction j using Nat.strongRecOn with
 |_ j ih=>
  intro hj i hi;rw[h1,cM]at hi;cases ho:os[j]? with
  |none=>rw[jK (by rw[h2];exact List.getElem?_eq_none_iff.1 ho)]at hi;cases hi
  |some o=>
   rw[h3 j o ho]at hi;simp only[vJ,lP,bG,eR]at hi;have hi:=(Di _ _ _ hi).elim (λh=>by cases h) id;obtain⟨e,he,hi⟩:=bz.1 hi;have he:e∈o.after:=by simpa using he
   cases hb:ll .any e with
   |false=>rw[hb]at hi;cases hi
   |true=>
    rw[hb]at hi;have jj:=JV Oo j o ho e he hb;rw[bG]at jj;have hSe:=hS j o hj ho e he hb;rcases b7.1 hi with rfl|hi
    ·exact hSe
    ·refine ih e.on jj hSe i ?_;rw[h1,cM];rw[cM,dU,ba jj]at hi;exact hi
end Go.FG

namespace Go.FG
theorem EV{p p':aG->aU}{i:aG}(hp:p i=aj)(mE:p' i=ao)(g_:∀j,j≠i->p' j=p j):∀{l:ax aG},l.Nodup->i∈l->l.countP p'+1=l.countP p:=by
 have same:∀{l:ax aG},i∉l->l.countP p'=l.countP p:=by
  intro l;induction l with
  |nil=>intro _;rfl
  |cons m l ih=>intro h;rw[b7,not_or]at h;rw[j5,j5,ih h.2,g_ m (λe=>h.1 e.symm)]
 intro l;induction l with
 |nil=>intro _ h;cases h
 |cons m l ih=>
  intro hn h;rw[jy]at hn;rcases b7.1 h with rfl|h
  ·rw[j5,j5,same hn.1,hp,mE];simp
  ·have hm:m≠i:=λe=>hn.1 (e▸h);rw[j5,j5,g_ m hm,<-ih hn.2 h];omega
theorem oV{listed:cX aU}{i:aG}(h:i<listed.size)(d:aU):(listed.setIfInBounds i aj).getD i d=true:=by simp[h]
section
variable {P:cC} {E:eL}
theorem KS(hE:dP P E)(hF:∀g,FnOk P E g (E.call g)){N:aG}{σ0:St}{c0:dZ}{w0:bw}{all:cX eD}{mX:aG}{Q:Exit->Act->bw->Prop}{σ σ':St}{tr:Tr}(Rg:ud E all mX 0 all.toList σ tr σ')(Vp:calm 0 (Db [] all.toList) [] (tr.map (·.2))=aj)(Oo:FW 0 all.toList=aj)
  (zL:∀o∈all.toList,∀d,o.dst=ah d->d<N) (hQ:∀a w c,At P E N σ0 c0 w0 σ' a w c->Q .normal a w):
  ∀(fuel:aG) (listed:cX aU) (a:Act) (w:bw) (c:dZ),listed.size=all.size->(∀(j:aG) (o:eD),listed.getD j ao=aj->all.toList[j]? =ah o->∀e∈o.after,ll .any e=aj->listed.getD e.on ao=aj)->
   (ej all.size).countP (λj=> !listed.getD j ao)<=fuel->At P E N σ0 c0 w0 (AP tr 0 (λj=>listed.getD j ao) σ) a w c->wpAny P .any all Q fuel listed a w:=by
 obtain⟨t1,t2,t3⟩:=NS Rg;have hlen:all.toList.length=all.size:=dm;have done:∀(listed:cX aU) (a:Act) (w:bw) (c:dZ),(∀j,j<all.size->listed.getD j ao=aj)->At P E N σ0 c0 w0 (AP tr 0 (λj=>listed.getD j ao) σ) a w c->Q .normal a w:=by
  intro listed a w c l_ fN;refine hQ a w c ?_;have:AP tr 0 (λj=>listed.getD j ao) σ=σ':=by
   rw[<-t2];funext k;refine si rfl (λj ws lg hj g_=> ?_);have jB:j<all.size:=by rw[<-hlen,<-t1];exact(aP.1 hj).1
   rw[bG]at g_;exact b_ (l_ j jB) g_
  rw[<-this];exact fN
 have YH:∀(listed:cX aU) (j:aG),listed.size=all.size->j<all.size->listed.getD j aj=listed.getD j false:=by
  intro listed j hs hj;rw[dc,dc];have:j<listed.size:=by omega
  simp[this]
 have full:∀listed:cX aU,listed.size=all.size->uf .any all listed=[]->∀j,j<all.size->listed.getD j ao=true:=by
  intro listed hs hr j;induction j using Nat.strongRecOn with
  |_ j ih=>
   intro hj;cases h:listed.getD j ao with
   |true=>rfl
   |false=>
    have ho:all[j]? =ah all[j]:=by simp[hj]
    have:j∈uf .any all listed:=by
     rw[mem_ready];refine⟨by rw[YH listed j hs hj];exact h,all[j],ho,λe he hb=> ?_⟩
     have:=JV Oo j all[j] (by rw[cz];exact ho) e he hb;rw[bG]at this;exact ih e.on this (by omega)
    rw[hr]at this;cases this
 intro fuel;induction fuel with
 |zero=>
  intro listed a w c hs _ acp fN;have l_:∀j,j<all.size->listed.getD j ao=true:=by intro j hj;have h0:=List.countP_eq_zero.1 (Nat.le_zero.1 acp) j (by simpa using hj);simpa using h0
  refine⟨?_,done listed a w c l_ fN⟩
  cases hr:uf .any all listed with
  |nil=>rfl
  |cons i r=>
   have:i∈uf .any all listed:=by rw[hr];exact cw ..
   obtain⟨h0,o,ho,_⟩:=mem_ready.1 this;have hi:i<all.size:=(c8.1 ho).1;rw[YH listed i hs hi,l_ i hi]at h0;cases h0
 |succ fuel ih=>
  intro listed a w c hs nC acp fN;refine⟨λhr=>done listed a w c (full listed hs hr) fN,λi hi=> ?_⟩
  obtain⟨h0,o,ho,akh⟩:=mem_ready.1 hi;have hil:i<all.size:=(c8.1 ho).1;rw[YH listed i hs hil]at h0;have HD:all.toList[i]? =ah o:=by rw[cz];exact ho
  obtain⟨ws,lg,q1,q2⟩:=t3 i o HD;rw[bG]at q2;have OT:∀{j:aG} {Bv:ax (aG×dS)} {AO:Lg},tr[j]? =ah (Bv,AO)->(tr.map (·.2))[j]? =ah AO/\AO.ws=Bv.map (·.1):=by
   intro j Bv AO hj;have jB:j<all.toList.length:=by rw[<-t1];exact(aP.1 hj).1
   obtain⟨ws2,lg2,r1,r2⟩:=t3 j all.toList[j] (by simp[jB]);rw[hj]at r1;cases r1;exact⟨by rw[bg,hj];rfl,r2.keys⟩
  obtain⟨lgi,kwi⟩:=OT q1;have Y3:∀(j:aG) (o':eD),(listed.setIfInBounds i aj).getD j ao=aj->all.toList[j]? =ah o'->∀e∈o'.after,ll .any e=aj->(listed.setIfInBounds i aj).getD e.on ao=true:=by
   intro j o' hj sQ e he hb;by_cases Lf:i=j
   ·subst Lf;rw[HD]at sQ;cases sQ;exact getD_set_true (akh e he hb)
   ·rw[getD_set_ne ao Lf]at hj;exact getD_set_true (nC j o' hj sQ e he hb)
  have before:∀j,j<i->listed.getD j ao=ao->∀{Bv:ax (aG×dS)} {AO:Lg},tr[j]? =ah (Bv,AO)->zu lg AO=false:=by
   intro j hj hn Bv AO hjt;rcases Jd (done:=[]) rfl Vp j i lg AO hj (bC _) (OT hjt).1 lgi with h|h
   ·have:=zi Y3 Oo i (oV (by omega) ao) j h;rw[getD_set_ne ao (by omega:i≠j)]at this;rw[hn]at this;cases this
   ·exact h
  have after:∀j,i<j->listed.getD j ao=aj->∀{Bv:ax (aG×dS)} {AO:Lg},tr[j]? =ah (Bv,AO)->zu AO lg=false:=by
   intro j hj hn Bv AO hjt;rcases Jd (done:=[]) rfl Vp i j AO lg hj (bC _) lgi (OT hjt).1 with h|h
   ·have:=zi nC Oo j hn i h;rw[h0]at this;cases this
   ·exact h
  have acS:sN E all (HS mX i) o (AP tr 0 (λj=>listed.getD j ao) σ) ws lg:=by
   refine q2.congr (λk hk=>si rfl (λj Bv AO hj g_ Vw=> ?_));rw[bG]at g_;rw[<-(OT hj).2]at Vw;by_cases Lf:j<i
   ·rw[aE Lf]at g_;have hn:listed.getD j ao=false:=by simpa using g_
    exact(qX (before j Lf hn hj)).2.2 k Vw hk
   ·rw[aK Lf]at g_;have hn:listed.getD j ao=true:=by simpa using g_
    have aj3:i<j:=by
     rcases oM i j with h|h
     ·exact h
     ·have:j=i:=by omega
      subst this;rw[h0]at hn;cases hn
    exact(qX (after j aj3 hn hj)).2.1 k Vw hk
  have zO:wr (AP tr 0 (λj=>listed.getD j ao) σ) ws=AP tr 0 (λj=>(listed.setIfInBounds i aj).getD j ao) σ:=by
   funext k;by_cases hk:k∈ws.map (·.1)
   ·have e1:AP tr 0 (λj=>(listed.setIfInBounds i aj).getD j ao) σ k=AP tr 0 (λj=>(listed.setIfInBounds i aj).getD j ao&&decide (j<=i)) σ k:=by
     refine si rfl (λj Bv AO hj g_ Vw=> ?_);rw[bG]at g_;rw[<-(OT hj).2]at Vw;have Lf:i<j:=by
      rcases oM i j with h|h
      ·exact h
      ·rw[aE h,ig]at g_;exact b_ rfl g_
     rw[aK (by omega:¬j<=i),El,getD_set_ne ao (by omega:i≠j)]at g_;have hn:listed.getD j ao=true:=by simpa using g_
     rw[<-kwi]at hk;exact(qX (after j Lf hn hj)).1 k Vw hk
    obtain⟨τ,hτ⟩:=QJ (i:=0) (S:=λj=>(listed.setIfInBounds i aj).getD j ao&&decide (j<=i)) (σ:=σ) q1 (by rw[bG,oV (by omega) ao];simp) (λq hq=>by rw[aK (by omega:¬q<=i),El]);rw[e1,hτ];exact QT hk
   ·rw[n8 hk];refine si rfl (λj Bv AO hj g_ Vw=> ?_);rw[bG]at g_;by_cases Lf:i=j
    ·subst Lf;rw[q1]at hj;cases hj;exact hk Vw
    ·rw[getD_set_ne ao Lf]at g_;exact b_ rfl g_
  refine yQ hE hF fN.ok fN.sl (λd Vr=>by rw[fN.sz];exact zL o (aM HD) d Vr) ho acS (λv w' c' h1 h2 h3 h4=> ?_);have uH:=fN.step h1 h2 h3 h4;rw[zO]at uH;refine ih (listed.setIfInBounds i aj) _ _ c' (by simp[hs]) Y3 ?_ uH;have:=EV (p:=λj=> !listed.getD j ao) (p':=λj=> !(listed.setIfInBounds i aj).getD j ao) (i:=i) (by rw[h0];rfl) (by rw[oV (by omega) ao];rfl) (λj hj=>by rw[getD_set_ne ao (λe=>hj e.symm)]) (l:=ej all.size) List.nodup_range (by simpa using hil);omega
theorem At.drawn{N:aG}{σ0 σ:St}{c0 c:dZ}{w0 w:bw}{a:Act}(h:At P E N σ0 c0 w0 σ a w c)(n:aG):At P E N σ0 c0 w0 σ a {w with drawn:=n} c:=by have hh:=h.ok.change (σ':=σ) (w':={w with drawn:=n}) (c':=c) (λ_=>False) (λ_ _=>rfl) (λ_ h=>h) (iH.refl _ _) (λ_ _ _=>rfl) (bR _) (λ_ h=>h) (λ_ h=> .inl h) h.ok.lt (λ_ _ h=>h.elim) (λ_ _ _ h=>h.elim) (λ_ _ _ _ _ h=>h.elim) (λ_ _ h=>h.elim) rfl rfl rfl;refine⟨hh.1,⟨λn'=>(h.sl.ok n').frame (λ_ _=>rfl) (λ_ h=>h) (λ_ _=>⟨rfl,rfl⟩),h.sl.kn,h.sl.df⟩,h.sz,h.gr.trans hh.2,h.ag⟩
theorem LQ(hE:dP P E)(hF:∀g,FnOk P E g (E.call g))(hm:P.follows .mixedOrders=aj){R:Type}{N:aG}{σ0:St}{c0:dZ}{w0:bw}{os:cX eD}{mX:aG}{draw:aU}{Q:Exit->Act->bw->Prop}{σ:St}{K:Ex->St->aA R}{r:R}
  (h:ops E os mX 0 os.toList σ [] (λσ lg=>bif !draw||(FW 0 os.toList&&Jc (Db [] os.toList) lg.reverse)then K .normal σ else ai)=ah r) (zL:∀o∈os.toList,∀d,o.dst=ah d->d<N)
  (hQ:∀σ' a w c,K .normal σ'=ah r->At P E N σ0 c0 w0 σ' a w c->Q .normal a w) {a:Act} {w:bw} {c:dZ} (fN:At P E N σ0 c0 w0 σ a w c):(Code.region mX os draw).wp P Q a w:=by
 obtain⟨tr,σ',Rg,hk⟩:=LG E os mX _ _ _ _ _ _ h;simp only[dv,List.reverse_reverse,NL]at hk;cases draw with
 |false=>simp only[bO,Bool.true_or,aw]at hk;refine wp_region ?_;rw[List.range_eq_range',<-dm];exact Hf hE hF os.toList 0 σ tr σ' Rg (λj o hj=>by rw[bG,<-cz];exact hj) zL (λa w c h=>hQ σ' a w c hk h) a w c fN
 |true=>
  cases hc:(FW 0 os.toList&&calm 0 (Db [] os.toList) [] (tr.map (·.2)))with
  |false=>simp[hc]at hk
  |true=>
   simp only[hc,Bool.or_true,aw]at hk;simp only[aJ]at hc;refine wp_region_any hm ?_;refine KS hE hF Rg hc.2 hc.1 zL (λa w c h=>hQ σ' a w c hk h) os.size _ a _ c (by simp) (λj o hj=> ?_) ?_ ?_
   ·exfalso;rw[dc,Bx]at hj;split at hj<;>cases hj
   ·exact cm (List.countP_le_length) (by simp)
   ·have:AP tr 0 (λj=>(xY os.size ao).getD j ao) σ=σ:=Ay (λj _=>by rw[dc,Bx];split<;>rfl);rw[this];exact fN.drawn _
end
end Go.FG

namespace Go.FG
theorem Oy:∀{l:ax aG} {n i:aG},n∈l->∃k,idx n i l=ah k/\i<=k/\k<i+l.length/\l[k-i]? =ah n:=by
 intro l;induction l with
 |nil=>intro n i h;cases h
 |cons m l ih=>
  intro n i h;unfold idx;cases hb:bA n m with
  |true=>have:=aN hb;subst this;exact⟨i,rfl,bR _,by simp,by simp⟩
  |false=>
   rcases b7.1 h with rfl|h
   ·simp at hb
   ·obtain⟨k,h1,h2,h3,h4⟩:=ih (i:=i+1) h;refine⟨k,h1,by omega,by simp;omega, ?_⟩
    rw[show k-i=(k-(i+1))+1 by omega,dr];exact h4
theorem S2:∀{l:ax aG} {n i k:aG},idx n i l=ah k->i<=k/\k<i+l.length/\l[k-i]? =ah n:=by
 intro l;induction l with
 |nil=>intro n i k h;cases h
 |cons m l ih=>
  intro n i k h;unfold idx at h;cases hb:bA n m with
  |true=>rw[hb]at h;have:=aN hb;subst this;cases h;exact⟨bR _,by simp,by simp⟩
  |false=>
   rw[hb]at h;obtain⟨h2,h3,h4⟩:=ih h;refine⟨by omega,by simp;omega, ?_⟩
   rw[show k-i=(k-(i+1))+1 by omega,dr];exact h4
theorem Hj{f:aU}{k:aG}(h:k<900):enc f k<900000000:=by unfold enc;cases f<;>simp<;>omega
theorem S8{f:aU}{k:aG}(h:k<900):tX (enc f k)=f:=by
 cases f with
 |false=>
  show(bA (k%1000) 999&&o9 k 900000000)=ao;have:bA (k%1000) 999=false:=by
   cases hb:bA (k%1000) 999 with
   |false=>rfl
   |true=>have:=aN hb;omega
  rw[this];rfl
 |true=>show(bA ((k*1000+999)%1000) 999&&o9 (k*1000+999) 900000000)=aj;rw[show(k*1000+999)%1000=999 by omega,show o9 (k*1000+999) 900000000=aj from GZ (by omega)];rfl
theorem Sl{f f':aU}{k k':aG}(h:k<900)(h':k'<900)(he:enc f k=enc f' k'):k=k':=by unfold enc at he;cases f<;>cases f'<;>simp at he<;>omega
theorem PZ{l:ax aG}{n:aG}(h:n∈l):∃k,sV l n=ah k:=by
 unfold sV;cases eG 900000000 n with
 |true=>exact⟨n,by simp[FK h]⟩
 |false=>obtain⟨k,hk,_⟩:=Oy (i:=0) h;exact⟨enc (tX n) k,by simp[hk]⟩
theorem uX{l:ax aG}{n k:aG}(h:sV l n=ah k):n∈l/\((900000000<=n/\k=n)\/(n<900000000/\∃k0,k=enc (tX n) k0/\k0<l.length/\l[k0]? =ah n)):=by
 unfold sV at h;cases hb:eG 900000000 n with
 |true=>
  rw[hb]at h;cases hm:ld n l with
  |true=>simp only[hm,aw]at h;cases h;exact⟨wv hm, .inl ⟨cf hb,rfl⟩⟩
  |false=>simp[hm]at h
 |false=>
  rw[hb,az]at h;cases hi:idx n 0 l with
  |none=>rw[hi]at h;cases h
  |some k0=>
   rw[hi]at h;cases h;obtain⟨_,h3,h4⟩:=S2 hi;rw[Eh]at h4;refine⟨aM h4, .inr ⟨?_,k0,rfl,by simpa using h3,h4⟩⟩
   rcases oM n 900000000 with h|h
   ·exact h
   ·rw[GZ h]at hb;cases hb
theorem DW{l:ax aG}(hl:l.length<=900){n k:aG}(h:sV l n=ah k):tX k=tX n:=by
 obtain⟨_,⟨_,rfl⟩|⟨_,k0,rfl,h3,_⟩⟩:=uX h
 ·rfl
 ·exact S8 (by omega)
theorem Ul{l:ax aG}(hl:l.length<=900){n n' k:aG}(h:sV l n=ah k)(h':sV l n'=ah k):n=n':=by
 obtain⟨_,h1⟩:=uX h;obtain⟨_,h2⟩:=uX h';rcases h1 with ⟨a,b⟩|⟨a,k0,b,d,e⟩<;>rcases h2 with ⟨a',b'⟩|⟨a',k0',b',d',e'⟩
 ·omega
 ·have:=Hj (f:=tX n') (k:=k0') (by omega);omega
 ·have:=Hj (f:=tX n) (k:=k0) (by omega);omega
 ·have:=Sl (f:=tX n) (f':=tX n') (k:=k0) (k':=k0') (by omega) (by omega) (b.symm.trans b');subst this;rw[e]at e';cases e';rfl
def inv(l:ax aG)(m:aG):aA aG:=l.find? λn=>decide (sV l n=ah m)
theorem Zs{l:ax aG}(hl:l.length<=900){n k:aG}(h:sV l n=ah k):inv l k=ah n:=by
 unfold inv;cases hf:l.find? (λn=>decide (sV l n=ah k))with
 |none=>have:=RQ.1 hf n (uX h).1;simp[h]at this
 |some n'=>have:=CG hf;rw[Ul hl h (ca this)]
theorem OB{l:ax aG}{m n:aG}(h:inv l m=ah n):sV l n=ah m:=ca (CG (p:=λn=>decide (sV l n=ah m)) h)
theorem B6{l ns:ax aG}(h:wm l ns=aj):∀n∈ns,n∈l:=λn hn=>wv (bf.1 h n hn)
theorem qd{σ:St}{l:ax aG}:∀{r:ax aG} {k:aG} {x:dS},(k,x)∈tG σ l r↔∃n∈r,∃m,sV l n=ah m/\k=cG m/\x=LR l (σ (cG n)):=by
 intro r;induction r with
 |nil=>intro k x;simp[tG]
 |cons n r ih=>
  intro k x;unfold tG;cases hr:sV l n with
  |none=>
   simp only;rw[ih];constructor
   ·rintro ⟨n',h1,h2⟩;exact⟨n',cg _ h1,h2⟩
   ·rintro ⟨n',h1,m,h2,h3⟩;rcases b7.1 h1 with rfl|h1
    ·rw[hr]at h2;cases h2
    ·exact⟨n',h1,m,h2,h3⟩
  |some m=>
   simp only[b7,ih];constructor
   ·rintro (h|⟨n',h1,h2⟩)
    ·cases h;exact⟨n, .inl rfl,m,hr,rfl,rfl⟩
    ·exact⟨n', .inr h1,h2⟩
   ·rintro ⟨n',h1|h1,m',h2,rfl,rfl⟩
    ·subst h1;rw[hr]at h2;cases h2;exact .inl rfl
    ·exact .inr ⟨n',h1,m',h2,rfl,rfl⟩
section
variable {P:cC} {E:eL} {σ:St} {a:Act} {w:bw} {c:dZ} {o:eD} {nm:aG} {e:qQ}
def uV(c:dZ)(l:ax aG):dZ:=
 ⟨λm=>match inv l m with|some n=>c.P n|none=>c.P m,λm=>match inv l m with|some n=>c.G n|none=>c.G m,c.K⟩
theorem uW{l:ax aG}(hl:l.length<=900){n m:aG}(h:sV l n=ah m):(uV c l).P m=c.P n/\(uV c l).G m=c.G n:=by have:=Zs hl h;unfold uV;simp only[this];exact⟨trivial,trivial⟩
theorem rG{T:Tab}{l:ax aG}(hl:l.length<=900){x:AV}{u:a7}(hx:dN T w c x u)(hk:∀n∈bm x,n∈l):dN T w (uV c l) (nZ l x) u/\∀m∈bm (nZ l x),∃n∈l,sV l n=ah m:=by
 have named:∀n,n∈bm x->∃k,sV l n=ah k/\(uV c l).P k=c.P n/\(uV c l).G k=c.G n:=λn hn=>by obtain⟨k,h⟩:=PZ (hk n hn);exact⟨k,h,uW hl h⟩
 have nn:∀m,m∈([]:ax aG)->∃n∈l,sV l n=ah m:=λm h=>by cases h
 cases x with
 |i=>exact⟨hx,nn⟩
 |b=>exact⟨hx,nn⟩
 |s=>exact⟨hx,nn⟩
 |nl=>exact⟨hx,nn⟩
 |sh=>exact⟨hx,nn⟩
 |sp=>exact⟨hx,nn⟩
 |fn=>exact⟨hx,nn⟩
 |fp=>exact⟨hx,nn⟩
 |own n=>obtain⟨k,h,e1,e2⟩:=named n (by simp[bm]);simp only[nZ,h];exact⟨by simp only[dN,e1]at hx⊢;exact hx,λm hm=>⟨n,hk n (by simp[bm]),by rw[show m=k by simpa [bm]using hm];exact h⟩⟩
 |vw n lo hi=>obtain⟨k,h,e1,e2⟩:=named n (by simp[bm]);simp only[nZ,h];exact⟨by simp only[dN,e1]at hx⊢;exact hx,λm hm=>⟨n,hk n (by simp[bm]),by rw[show m=k by simpa [bm]using hm];exact h⟩⟩
 |bp n j=>obtain⟨k,h,e1,e2⟩:=named n (by simp[bm]);simp only[nZ,h];exact⟨by simp only[dN,e1]at hx⊢;exact hx,λm hm=>⟨n,hk n (by simp[bm]),by rw[show m=k by simpa [bm]using hm];exact h⟩⟩
 |rp n i j=>obtain⟨k,h,e1,e2⟩:=named n (by simp[bm]);simp only[nZ,h];exact⟨by simp only[dN,e1]at hx⊢;exact hx,λm hm=>⟨n,hk n (by simp[bm]),by rw[show m=k by simpa [bm]using hm];exact h⟩⟩
 |la n i j=>obtain⟨k,h,e1,e2⟩:=named n (by simp[bm]);simp only[nZ,h];exact⟨by simp only[dN,e1,e2,DW hl h]at hx⊢;exact hx,λm hm=>⟨n,hk n (by simp[bm]),by rw[show m=k by simpa [bm]using hm];exact h⟩⟩
 |ip n i j i2 j2=>obtain⟨k,h,e1,e2⟩:=named n (by simp[bm]);simp only[nZ,h];exact⟨by simp only[dN,e1,e2,DW hl h]at hx⊢;exact hx,λm hm=>⟨n,hk n (by simp[bm]),by rw[show m=k by simpa [bm]using hm];exact h⟩⟩
 |iv n i j lo hi=>obtain⟨k,h,e1,e2⟩:=named n (by simp[bm]);simp only[nZ,h];exact⟨by simp only[dN,e1,e2,DW hl h]at hx⊢;exact hx,λm hm=>⟨n,hk n (by simp[bm]),by rw[show m=k by simpa [bm]using hm];exact h⟩⟩
theorem H8{T:Tab}{l:ax aG}(hl:l.length<=900){g:aU}{xs:ax AV}{u:a7}(hx:o_ T w c g xs u)(hk:∀n∈xs.flatMap bm,n∈l):o_ T w (uV c l) g (xs.map (nZ l)) u/\∀m∈(xs.map (nZ l)).flatMap bm,∃n∈l,sV l n=ah m:=by
 have kx:∀x∈xs,∀n∈bm x,n∈l:=λx hx n hn=>hk n (bz.2 ⟨x,hx,hn⟩);unfold o_ at hx;split at hx
 ·rename_i y;obtain⟨h1,h2⟩:=rG hl hx (kx y (by simp));exact⟨h1,λm hm=>h2 m (by simpa using hm)⟩
 ·obtain⟨vals,rfl,hs,hv⟩:=hx;refine⟨⟨vals,rfl,by simp[hs],λj y hj=> ?_⟩,λm hm=> ?_⟩
  ·rw[bg]at hj;cases SZ:xs[j]? with
   |none=>rw[SZ]at hj;cases hj
   |some x=>rw[SZ]at hj;cases hj;obtain⟨u,hu,ha⟩:=hv j x SZ;exact⟨u,hu,(rG hl ha (kx x (aM SZ))).1⟩
  ·obtain⟨y,hy,hm⟩:=bz.1 hm;obtain⟨x,VE,rfl⟩:=cD.1 hy;obtain⟨j,hj⟩:=bQ VE;obtain⟨u,hu,ha⟩:=hv j x hj;exact(rG hl ha (kx x VE)).2 m hm
 ·exact hx.elim
theorem F7{T:Tab}{l:ax aG}(hl:l.length<=900){s:SV}{u:a7}(hx:ic T w c s u):ic T w (uV c l) (Cg l s) u/\∀m∈b8 (Cg l s),∃n∈l,sV l n=ah m:=by
 unfold Cg;cases hk:wm l (b8 s)with
 |false=>exact⟨trivial,λm hm=>by simp[b8]at hm⟩
 |true=>
  have hk:=B6 hk;simp only[aw];cases s with
  |un=>exact⟨trivial,λm hm=>by simp[b8]at hm⟩
  |v g xs=>exact H8 hl hx hk
  |jf r=>
   obtain⟨vs,rfl,hs,hv⟩:=hx;have kr:∀x∈r,∀n∈x.2.flatMap bm,n∈l:=λx hx n hn=>hk n (bz.2 ⟨x,hx,hn⟩);refine⟨⟨vs,rfl,by simp[hs],λj g xs hj=> ?_⟩,λm hm=> ?_⟩
   ·rw[bg]at hj;cases SZ:r[j]? with
    |none=>rw[SZ]at hj;cases hj
    |some x=>rw[SZ]at hj;cases hj;obtain⟨u,hu,ha⟩:=hv j x.1 x.2 SZ;exact⟨u,hu,(H8 hl ha (kr x (aM SZ))).1⟩
   ·obtain⟨y,hy,hm⟩:=bz.1 hm;obtain⟨x,VE,rfl⟩:=cD.1 hy;obtain⟨j,hj⟩:=bQ VE;obtain⟨u,hu,ha⟩:=hv j x.1 x.2 hj;exact(H8 hl ha (kr x VE)).2 m hm
theorem PY{l:ax aG}{x:dS}:LR l x≠ .iN:=by
 unfold LR;split
 ·intro h;revert h;cases wm l _<;>simp
 ·simp
 ·simp
theorem KR{N:aG}{σ0:St}{c0:dZ}{w0:bw}{keep:ax aG}(h:At P E N σ0 c0 w0 σ a w c):∃c',At P E N σ0 c0 w0 (eJ (lA (Hd keep σ) λl=>Hc keep σ l)) a w c':=by
 rw[nA];generalize Hd keep σ=l;unfold Hc;cases hle:eG l.length 900 with
 |false=>
  simp only[az];have hn:∀k,eJ [] k= .iN:=λk=>rfl;have no:∀{k:aG} {x:Obj},eJ [] k≠ .o x:=λh=>by rw[hn]at h;cases h
  refine⟨c,⟨λnm o ho=>b_ ho no,λnm o tY o' b ho=>b_ ho no,λnm o b ho=>b_ ho no,h.ok.lt,λnm xs ho=>b_ ho no,h.ok.gp⟩,⟨λn=>trivial,λn m hm=>(by simp[slot,eJ,b8]at hm),h.sl.df⟩,h.sz,h.gr.trans ⟨rfl,rfl,rfl,bR _,λ_ h=>h,λ_ _ _=>rfl,λb hb=> ?_,λ_ h=> .inl h⟩,h.ag⟩
  obtain⟨nm,o,ho,_⟩:=hb;exact b_ ho no
 |true=>
  have hl:=cf hle;simp only[aw];generalize hT:keep.map (λn=>(o0 n,dS.v (Cg l (slot σ n))))++tG σ l l=T;have amo:∀d∈T,d.2≠ .iN:=by
   rintro ⟨k,x⟩ hd;rw[<-hT]at hd;rcases aX.1 hd with hd|hd
   ·obtain⟨n,_,hd⟩:=cD.1 hd;cases hd;simp
   ·obtain⟨n,_,m,_,_,rfl⟩:=qd.1 hd;exact PY
  have amp:∀{m:aG} {ob:Obj},eJ T (cG m)= .o ob->∃n∈l,sV l n=ah m/\LR l (σ (cG n))= .o ob:=by
   intro m ob ho;have:=n7 ho (by simp);rw[<-hT]at this;rcases aX.1 this with hd|hd
   ·obtain⟨n,_,hd⟩:=cD.1 hd;injection hd with h1 h2;exact b_ h1 (ql n m)
   ·obtain⟨n,hn,m',hr,h1,h2⟩:=qd.1 hd;have:=jk h1;subst this;exact⟨n,hn,hr,h2.symm⟩
  have OP:∀{m n:aG},n∈l->sV l n=ah m->eJ T (cG m)≠ .iN:=λhn hr=>qm (l:=T) (by rw[<-hT];exact bE _ (qd.2 ⟨_,hn,_,hr,rfl,rfl⟩)) amo;have Wz:∀n,slot (eJ T) n=Cg l (slot σ n)\/slot (eJ T) n= .un:=by
   intro n;unfold slot;cases hs:eJ T (o0 n)with
   |v x=>
    have:=n7 hs (by simp);rw[<-hT]at this;rcases aX.1 this with hd|hd
    ·obtain⟨n',_,hd⟩:=cD.1 hd;injection hd with h1 h2;have:=D4 h1;subst this;cases h2;exact .inl rfl
    ·obtain⟨n',hn,m',hr,h1,h2⟩:=qd.1 hd;exact b_ h1 (ql _ _)
   |o=>exact .inr rfl
   |iN=>exact .inr rfl
  have was:∀{m:aG} {ob:Obj},eJ T (cG m)= .o ob->ob= .dead\/∃n∈l,sV l n=ah m/\((σ (cG n)= .o ob/\∀xs,ob≠ .box xs)\/∃xs,σ (cG n)= .o (.box xs)/\ob= .box (xs.map (nZ l))/\∀k∈xs.flatMap bm,k∈l):=by
   intro m ob ho;obtain⟨n,hn,hr,he⟩:=amp ho;unfold LR at he;split at he
   ·rename_i xs hx;cases hk:wm l (xs.flatMap bm)with
    |true=>rw[hk]at he;cases he;exact .inr ⟨n,hn,hr, .inr ⟨xs,hx,rfl,B6 hk⟩⟩
    |false=>rw[hk]at he;cases he;exact .inl rfl
   ·rename_i x g_ hx;cases he;exact .inr ⟨n,hn,hr, .inl ⟨hx,λxs e=>g_ xs e⟩⟩
   ·cases he;exact .inl rfl
  have Jr:∀{m:aG} {ob:Obj} {b:aG},eJ T (cG m)= .o ob->eI (uV c l) m ob b->∃n o,sV l n=ah m/\σ (cG n)= .o o/\eI c n o b:=by
   intro m ob b ho hf;rcases was ho with rfl|⟨n,hn,hr,⟨h1,_⟩|⟨xs,h1,rfl,_⟩⟩
   ·exact hf.elim
   ·obtain⟨e1,e2⟩:=uW (c:=c) hl hr;refine⟨n,ob,hr,h1, ?_⟩
    cases ob<;>simp only[eI,e1,e2]at hf⊢ <;>exact hf
   ·obtain⟨e1,e2⟩:=uW (c:=c) hl hr;refine⟨n,_,hr,h1, ?_⟩
    simp only[eI,e1]at hf⊢;exact hf
  refine⟨uV c l,⟨?_, ?_, ?_,h.ok.lt, ?_,h.ok.gp⟩,⟨?_, ?_,h.sl.df⟩,h.sz,h.gr.trans ⟨rfl,rfl,rfl,bR _,λ_ h=>h,λ_ _ _=>rfl, ?_,λ_ h=> .inl h⟩,h.ag.trans ?_⟩
  ·intro m ob ho;rcases was ho with rfl|⟨n,hn,hr,⟨h1,h2⟩|⟨xs,h1,rfl,hk⟩⟩
   ·trivial
   ·obtain⟨e1,e2⟩:=uW (c:=c) hl hr;have mc:=h.ok.obj n ob h1;cases ob with
    |box xs=>exact b_ rfl (h2 xs)
    |dead=>trivial
    |mV cs=>show FB E w c.K ((uV c l).P m).blk cs;rw[e1];exact mc
    |eU e' xs=>show cK E w c.K (mb ((uV c l).P m)) _/\((uV c l).P m).n=_/\_;rw[e1];exact mc
    |row e' ex xs=>obtain⟨q1,q2,q3⟩:=mc;exact⟨by rw[e1];exact q1,by rw[e1,e2];exact q2,by rw[e1,e2];exact q3⟩
   ·obtain⟨e1,e2⟩:=uW (c:=c) hl hr;obtain⟨vals,hb,hs,hv⟩:=h.ok.obj n _ h1;refine⟨vals,by rw[e1];exact hb,by simp[hs],λj y hj=> ?_⟩
    rw[bg]at hj;cases hx:xs[j]? with
    |none=>rw[hx]at hj;cases hj
    |some x=>rw[hx]at hj;cases hj;obtain⟨u,hu,ha⟩:=hv j x hx;exact⟨u,hu,(rG hl ha (λk sP=>hk k (bz.2 ⟨x,aM hx,sP⟩))).1⟩
  ·intro m ob m' ob' b ho sQ hf uI;obtain⟨n,o1,r1,s1,f1⟩:=Jr ho hf;obtain⟨n',o2,r2,s2,f2⟩:=Jr sQ uI;have:=h.ok.sep n o1 n' o2 b s1 s2 f1 f2;subst this;rw[r1]at r2;cases r2;rfl
  ·intro m ob b ho hf;obtain⟨n,o1,r1,s1,f1⟩:=Jr ho hf;exact h.ok.kk n o1 b s1 f1
  ·intro m xs ho y hy k hk;rcases was ho with h'|⟨n,hn,hr,⟨h1,h2⟩|⟨zs,h1,he,Ft⟩⟩
   ·cases h'
   ·exact b_ rfl (h2 xs)
   ·cases he;obtain⟨x,VE,rfl⟩:=cD.1 hy;obtain⟨vals,hb,hs,hv⟩:=h.ok.obj n _ h1;obtain⟨j,hj⟩:=bQ VE;obtain⟨u,hu,ha⟩:=hv j x hj;obtain⟨n',jC,GC⟩:=(rG hl ha (λk sP=>Ft k (bz.2 ⟨x,VE,sP⟩))).2 k hk;exact OP jC GC
  ·intro n;rcases Wz n with hs|hs
   ·rw[hs];exact(F7 hl (h.sl.ok n)).1
   ·rw[hs];trivial
  ·intro n m hm;rcases Wz n with hs|hs
   ·rw[hs]at hm;obtain⟨n',jC,GC⟩:=(F7 hl (h.sl.ok n)).2 m hm;exact OP jC GC
   ·rw[hs]at hm;simp[b8]at hm
  ·rintro b ⟨m,ob,ho,hf⟩;obtain⟨n,o1,r1,s1,f1⟩:=Jr ho hf;exact .inl ⟨n,o1,s1,f1⟩
  ·intro m hm;unfold uV;cases hi:inv l m with
   |none=>simp only[hi];exact⟨trivial,trivial⟩
   |some n=>
    have:=(uX (OB hi)).2;have:n=m:=by
     rcases this with ⟨_,h⟩|⟨_,k0,h,hk0,_⟩
     ·exact h.symm
     ·have:=Hj (f:=tX n) (k:=k0) (by omega);omega
    subst this;simp only[hi];exact⟨trivial,trivial⟩
theorem adi{N:aG}{σ0:St}{c0:dZ}{w0:bw}{nm F j e:aG}{xs:ax AV}{ti:TI}(hx:E.ty e=ah ti)(jj:F<900000000)(mc:σ (cG nm)= .o (.box xs))(hF:σ (cG F)= .iN)(hc:xs[j]? =ah .nl)(h:At P E N σ0 c0 w0 σ a w c):
  ∃c',At P E N σ0 c0 w0 (nE (nE σ (cG nm) (.o (.box (xs.set j (.own F))))) (cG F) (.o (.row e aj []))) a w c':=by
 let c':dZ:=⟨λn=>if n=F then⟨aj,0,0,0,0,ti.ks.length⟩else c.P n,λn=>if n=F then(λ_ _=>⟨aj,0,0,0,0,0⟩)else c.G n,c.K⟩
 have hP:c'.P F=⟨aj,0,0,0,0,ti.ks.length⟩:=ba rfl;have hA:iH σ c c':=λm hm=>by
  have:m≠F:=by rintro rfl;rcases hm with h|h;exact h hF;omega
  exact⟨a_ this,a_ this⟩
 have hnF:nm≠F:=by rintro rfl;rw[mc]at hF;cases hF
 have hPn:c'.P nm=c.P nm:=a_ hnF;let σ':=nE (nE σ (cG nm) (.o (.box (xs.set j (.own F))))) (cG F) (.o (.row e aj []));have key:∀m,σ' (cG m)=if m=F then .o (.row e aj [])else if m=nm then .o (.box (xs.set j (.own F)))else σ (cG m):=λm=>by show nE _ _ _ _=_;rw[nq,nq]
 have g_:∀m,σ (cG m)≠ .iN->σ' (cG m)≠ .iN:=λm hm=>by
  rw[key];by_cases h1:m=F
  ·rw[ba h1];simp
  ·rw[a_ h1];by_cases h2:m=nm
   ·rw[ba h2];simp
   ·rw[a_ h2];exact hm
 have noI:∀i j,¬fC [] i j:=λi j ⟨y,x,hy,_⟩=>by simp at hy
 have foF:∀b,¬eI c' F (.row e aj []) b:=by
  rintro b (⟨h1,_⟩|⟨_,i,j,h1,_⟩)
  ·rw[hP]at h1;cases h1
  ·exact noI i j h1
 obtain⟨vals,hb,hsz,hv⟩:=h.ok.obj nm _ mc
 have hh:=h.ok.change (σ':=σ') (w':=w) (c':=c') (λm=>m=F\/m=nm)
  (λm hm=>by rw[key,a_ (λe=>hm (.inl e)),a_ (λe=>hm (.inr e))]) g_ hA (λ_ _ _=>rfl) (bR _) (λ_ h=>h) (λ_ h=> .inl h) h.ok.lt
  (λm o hm ho=>by
   rw[key]at ho;by_cases Fu:m=F
   ·rw[ba Fu]at ho;cases ho;subst Fu;refine⟨⟨ti,hx,by rw[hP],λy hy=>by cases hy⟩,⟨by rw[hP];rfl,λ_=>⟨rfl,by rw[hP]⟩,λhn=>by rw[hP]at hn;cases hn⟩,λ_=>⟨λi j hi=>b_ hi (noI i j),λi j _ _ hi=>b_ hi (noI i j)⟩⟩
   ·have hmn:=hm.resolve_left Fu;subst hmn;rw[a_ Fu,ba rfl]at ho;cases ho;refine⟨vals,by rw[hPn];exact hb,by rw[dt];exact hsz,λk y hk=> ?_⟩
    by_cases hkj:j=k
    ·subst hkj;have hl:j<xs.length:=(aP.1 hc).1;rw[List.getElem?_set_self hl]at hk;cases hk;obtain⟨u,hu,Rf⟩:=hv j _ hc;exact⟨u,hu,by show u=mb (c'.P F);rw[hP];exact Rf⟩
    ·rw[List.getElem?_set_ne hkj]at hk;obtain⟨u,hu,Rf⟩:=hv k y hk;exact⟨u,hu,Rf.frame (λ_ _=>rfl) (λ_ h=>h) (λn hn=>hA n (.inl (h.ok.kn m xs mc y (aM hk) n hn)))⟩)
  (λm o b hm ho hf=>by
   rw[key]at ho;by_cases Fu:m=F
   ·rw[ba Fu]at ho;cases ho;subst Fu;exact b_ hf (foF b)
   ·have hmn:=hm.resolve_left Fu;subst hmn;rw[a_ Fu,ba rfl]at ho;cases ho;have hf:b=(c'.P m).blk:=hf;rw[hPn]at hf;exact⟨.inl ⟨m,_, .inr rfl,mc,hf⟩,λhk=>h.ok.kk m _ b mc hf hk⟩)
  (λm o m' o' b hm uJ ho sQ hf uI=>by
   rw[key]at ho sQ;by_cases Fu:m=F
   ·rw[ba Fu]at ho;cases ho;subst Fu;exact b_ hf (foF b)
   ·by_cases Zd:m'=F
    ·rw[ba Zd]at sQ;cases sQ;subst Zd;exact b_ uI (foF b)
    ·rw[hm.resolve_left Fu,uJ.resolve_left Zd])
  (λm ys hm ho y hy n hn=>by
   rw[key]at ho;by_cases Fu:m=F
   ·rw[ba Fu]at ho;cases ho
   ·have hmn:=hm.resolve_left Fu;subst hmn;rw[a_ Fu,ba rfl]at ho;cases ho;rcases iD hy with hy|hy
    ·exact g_ n (h.ok.kn m xs mc y hy n hn)
    ·subst hy;rw[show n=F from by simpa [bm]using hn,key,ba rfl];simp) rfl rfl rfl
 have sl:=h.sl.change h.ok hh.2 hA g_ ({(default:eD)with dst:=none}) undef (λn _=>by show slot (nE _ _ _) n=_;rw[gO,gO]) (λd hd=>by cases hd);exact⟨c',hh.1,sl,h.sz,h.gr.trans hh.2,h.ag.trans hA.w.aga⟩
theorem O4{α:Type}{N:aG}{σ0:St}{c0:dZ}{w0:bw}{x:aG}(hx:∃ti,E.ty (Zv x)=ah ti)(h:At P E N σ0 c0 w0 σ a w c):∃σ' c',At P E N σ0 c0 w0 σ' a w c'/\∀f:St->α,w7 x σ f=f σ':=by
 obtain⟨ti,hx⟩:=hx;have jj:kNm x<900000000:=by unfold kNm;have:=IQ (x/1000) (show 1000000>0 by omega);omega
 have no:(∀f:St->α,w7 x σ f=f σ)->∃σ' c',At P E N σ0 c0 w0 σ' a w c'/\∀f:St->α,w7 x σ f=f σ':=λe=>⟨σ,c,h,e⟩
 cases hs:slot σ (V1 x)with
 |v g l=>
  by_cases hm:∃nm xs,g=ao/\l=[.bp nm 0]/\σ (cG nm)= .o (.box xs)/\σ (cG (kNm x))= .iN/\xs[OK x]? =ah .nl
  ·obtain⟨nm,xs,rfl,rfl,mc,hF,hc⟩:=hm;obtain⟨c',h'⟩:=adi hx jj mc hF hc h;exact⟨_,c',h',λf=>by unfold w7;rw[hs];simp only[mc,hF,hc,mC]⟩
  ·refine no λf=> ?_;unfold w7;rw[hs];split
   ·rename_i nm he;cases he;split
    ·rename_i xs h1 h2;split
     ·rename_i h3;exact b_ ⟨nm,xs,rfl,rfl,h1,h2,h3⟩ hm
     ·rfl
    ·rfl
   ·rfl
 |jf l=>exact no λf=>by unfold w7;rw[hs]
 |un=>exact no λf=>by unfold w7;rw[hs]
theorem z0{α:Type}{N:aG}{σ0:St}{c0:dZ}{w0:bw}:∀(keep:ax aG) (σ:St) (c:dZ) (hk:∀x∈keep,Ta x=aj->∃ti,E.ty (Zv x)=ah ti) (h:At P E N σ0 c0 w0 σ a w c),∃σ' c',At P E N σ0 c0 w0 σ' a w c'/\∀f:St->α,JL keep σ f=f σ'
 |[],σ,c,_,h=>⟨σ,c,h,λ_=>rfl⟩
 |x::r,σ,c,hk,h=>by
  cases hx:Ta x with
  |false=>obtain⟨σ',c',h',e⟩:=z0 r σ c (λy hy=>hk y (cg _ hy)) h;exact⟨σ',c',h',λf=>by show(bif Ta x then _ else _)=_;rw[hx];exact e f⟩
  |true=>obtain⟨σ1,c1,h1,e1⟩:=O4 (α:=α) (hk x (cw ..) hx) h;obtain⟨σ',c',h',e⟩:=z0 r σ1 c1 (λy hy=>hk y (cg _ hy)) h1;exact⟨σ',c',h',λf=>by show(bif Ta x then _ else _)=_;rw[hx,aw,e1,e]⟩
theorem EP{N:aG}{σ0:St}{c0:dZ}{w0:bw}{keep:ax aG}(hk:∀x∈keep,Ta x=aj->∃ti,E.ty (Zv x)=ah ti)(h:At P E N σ0 c0 w0 σ a w c):∃c',At P E N σ0 c0 w0 (canon keep σ) a w c':=by obtain⟨σ',c1,h1,e⟩:=z0 (α:=ax (aG×dS)) keep σ c hk h;unfold canon He;rw[e,nA];exact KR h1
theorem OO{n:aG}:∀x∈E.wY n,Ta x=aj->∃ti,E.ty (Zv x)=ah ti:=by
 intro x hx hk;have:=(cJ.1 hx).2;rw[hk,aw]at this;cases h:E.ty (Zv x)with
 |some ti=>exact⟨ti,rfl⟩
 |none=>rw[h]at this;cases this
end
end Go.FG

namespace Go.FG
def YK:Ex->Exit| .normal=> .normal| .exit id=> .exit id| .ret=> .ret
def qY(N:aG):Code->aU
 | .region _ os _=>os.toList.all λo=>match o.dst with|some d=>o9 d N|none=>aj
 | .seq a b=>qY N a&&qY N b
 | .cond _ a b=>qY N a&&qY N b
 | .block _ c=>qY N c
 | .loop c=>qY N c
 |_=>aj
theorem least{p:aG->Prop}(h:∃n,p n):∃n,p n/\∀k,p k->n<=k:=by
 obtain⟨n,hn⟩:=h;induction n using Nat.strongRecOn with
 |_ n ih=>
  by_cases hm:∃m,m<n/\p m
  ·obtain⟨m,h1,h2⟩:=hm;exact ih m h1 h2
  ·exact⟨n,hn,λk hk=>by
    rcases oM k n with h|h
    ·exact b_ ⟨k,h,hk⟩ hm
    ·exact h⟩
section
variable {P:cC} {E:eL}
def c5(E:eL){R:Type}(it:It R)(c:Code):Prop:=∀L K r,it (fG c) (q_ E it c) (canon (E.wY (fG c))) L K=ah r->∃n,iter (q_ E it c) (canon (E.wY (fG c))) n (eJ L) K=ah r
theorem YJ(hE:dP P E)(hF:∀g,FnOk P E g (E.call g))(hm:P.follows .mixedOrders=aj){R:Type}{N:aG}{σ0:St}{c0:dZ}{w0:bw}{it:It R}{r:R}:∀(code:Code),(∀c∈iV code,c5 E it c)->∀(σ:St) (K:Ex->St->aA R) (Q:Exit->Act->bw->Prop),q_ E it code σ K=ah r->qY N code=aj->
  (∀e σ' a w c,K e σ'=ah r->At P E N σ0 c0 w0 σ' a w c->Q (YK e) a w)->∀a w c,At P E N σ0 c0 w0 σ a w c->code.wp P Q a w:=by
 intro code;induction code with
 |skip=>intro _ σ K Q h _ hQ a w c fN;exact wp_skip (hQ .normal σ a w c h fN)
 |region id os draw=>intro zN σ K Q h hb hQ a w c fN;refine LQ hE hF hm h (λo ho d hd=> ?_) (λσ' a w c hk fN=>hQ .normal σ' a w c hk fN) fN;have:=bf.1 hb o ho;rw[hd]at this;have this:o9 d N=true:=this;simpa [xJ]using this
 |seq x y ihx ihy=>
  intro zN σ K Q h hb hQ a w c fN;simp only[qY,aJ]at hb;refine wp_seq (ihx (λc hc=>zN c (bL _ hc)) σ _ _ h hb.1 (λe σ' a w c hk fN=> ?_) a w c fN);cases e with
  |normal=>exact ihy (λc hc=>zN c (bE _ hc)) σ' K Q hk hb.2 hQ a w c fN
  |exit id=>exact hQ (.exit id) σ' a w c hk fN
  |ret=>exact hQ .ret σ' a w c hk fN
 |cond cnd x y ihx ihy=>
  intro zN σ K Q h hb hQ a w c fN;simp only[qY,aJ]at hb;cases cnd with
  |tmp t=>
   unfold q_ at h;dsimp only at h;split at h
   ·rename_i b hs;have h1:=fN.sl.ok t;have:slot σ t= .v ao [.b b]:=by unfold slot;rw[hs]
    rw[this]at h1;have h1:a.eval (.tmp t)= .bool b:=h1;cases b with
    |true=>have h:q_ E it x (nE σ (o0 t) (.v (.v ao [.b aj]))) K=ah r:=h;rw[AD hs]at h;exact wp_cond_true h1 (ihx (λc hc=>zN c (bL _ hc)) σ K Q h hb.1 hQ a w c fN)
    |false=>have h:q_ E it y (nE σ (o0 t) (.v (.v ao [.b ao]))) K=ah r:=h;rw[AD hs]at h;exact wp_cond_false h1 (ihy (λc hc=>zN c (bE _ hc)) σ K Q h hb.2 hQ a w c fN)
   ·cases h
  |_=>simp[q_]at h
 |block id x ih=>
  intro zN σ K Q h hb hQ a w c fN;refine wp_block (ih zN σ _ _ h hb (λe σ' a w c hk fN=> ?_) a w c fN);cases e with
  |normal=>exact hQ .normal σ' a w c hk fN
  |ret=>exact hQ .ret σ' a w c hk fN
  |exit j=>
   have hk:(bif bA j id then K .normal σ' else K (.exit j) σ')=ah r:=hk;show Er id Q (.exit j) a w;cases hj:bA j id with
   |true=>rw[hj]at hk;have Lf:=aN hj;have h1:Q .normal a w:=hQ .normal σ' a w c hk fN;simp only[Er,Lf,if_true];exact h1
   |false=>
    rw[hj]at hk;have g_:j≠id:=λe=>by subst e;simp at hj
    have h1:Q (.exit j) a w:=hQ (.exit j) σ' a w c hk fN;simp only[Er,g_,if_false];exact h1
 |loop x ih=>
  intro zN σ K Q h hb hQ a w c fN;obtain⟨n,h⟩:∃n,iter (q_ E it x) (canon (E.wY (fG x))) n (canon (E.wY (fG x)) σ) K=ah r:=zN x (cw ..) _ K r h;let f:=q_ (R:=R) E it x;let cn:=canon (E.wY (fG x));let p:Act->bw->aG->Prop:=λa w m=>∃σ c,iter f cn m σ K=ah r/\At P E N σ0 c0 w0 σ a w c;let mu:Act->bw->aG:=λa w=>open Classical in if h:∃m,p a w m then(least h).choose else 0
  have hmu:∀a w,(∃m,p a w m)->p a w (mu a w)/\∀k,p a w k->mu a w<=k:=by
   intro a w h;have:mu a w=(least h).choose:=by simp only[mu];rw[dif_pos h]
   rw[this];exact(least h).choose_spec
  obtain⟨c1,ajB⟩:=EP (keep:=E.wY (fG x)) OO fN;refine wp_loop (λa w=>∃m,p a w m) mu ⟨n,_,c1,h,ajB⟩ (λa w hI=> ?_);obtain⟨⟨σ1,c2,h1,lM⟩,hle⟩:=hmu a w hI;cases hm0:mu a w with
  |zero=>rw[hm0]at h1;cases h1
  |succ m=>
   rw[hm0]at h1;refine ih (λc hc=>zN c (cg _ hc)) σ1 _ _ h1 hb (λe σ' a' w' c' hk uH=> ?_) a w c2 lM;obtain⟨c3,YX⟩:=EP (keep:=E.wY (fG x)) OO uH;cases e with
   |normal=>
    have hp:p a' w' m:=⟨_,c3,hk,YX⟩
    refine⟨⟨m,hp⟩, ?_⟩
    have:=(hmu a' w' ⟨m,hp⟩).2 m hp;omega
   |exit id=>exact hQ (.exit id) _ a' w' c3 hk YX
   |ret=>exact hQ .ret _ a' w' c3 hk YX
 |exit id=>intro _ σ K Q h _ hQ a w c fN;exact wp_exit (hQ (.exit id) σ a w c h fN)
 |ret=>intro _ σ K Q h _ hQ a w c fN;exact wp_ret (hQ .ret σ a w c h fN)
 |_=>intro _ σ K Q h;simp[q_]at h
end
end Go.FG

namespace Go.FG
structure iI where
 aa:AA
 tk:ax aG
 fz:ax aG
 p:Pl
 g:aG->aG->Pl
 u:a7
section
variable {P:cC} {E:eL} {σ:St} {a:Act} {w:bw} {c:dZ}
def iT(T:Tab)(σ:St)(w:bw)(c:dZ)(r:iI):Prop:=
 (∃e ex ys te,r.aa= .ow e ex ys/\r.fz=[]/\T.ty e=ah te/\r.u=mb r.p/\r.p.sz=te.ks.length/\(∀y∈ys,y.map CV.kd=te.ks)/\ij w r.p ys (λi j u x=>if ex=aj then XC T w r.g i j u x else cK T w c.K u x)/\(ex=aj->CF r.p r.g ys)/\
  (r.p.nil=ao->∃n ob,n∈r.tk/\σ (cG n)= .o ob/\eI c n ob r.p.blk)/\(ex=aj->∀i j,fC ys i j->(r.g i j).nil=ao->∃n ob,n∈r.tk/\σ (cG n)= .o ob/\eI c n ob (r.g i j).blk))\/
 (r.tk=[]/\(∀n∈r.fz,∃el ex xs,σ (cG n)= .o (.row el ex xs))/\(∀e ex xs,r.aa≠ .ow e ex xs)/\(∀xs,r.aa≠ .kp xs)/\∀c3:dZ,(∀b,XW σ c r.fz b->c3.K b)->∀nm,dN T w c3 (jU nm r.aa) r.u)
theorem Fc(hok:Ok E σ w c){om:Om}{k:Ck}{x:AV}{u:a7}{aa:AA}{tk fz:ax aG}(h:wU E om σ k x=ah (aa,tk,fz))(hx:dN E w c x u):∃p g,iT E σ w c ⟨aa,tk,fz,p,g,u⟩:=by
 let nl:Pl:=⟨aj,0,0,0,0,0⟩
 have OW:∀e ex ys tk,(uq e x).val σ=ah (ex,ys,tk)->(∃te,E.ty e=ah te)->∃p g,iT E σ w c ⟨.ow e ex ys,tk,[],p,g,u⟩:=by rintro e ex ys tk hb ⟨te,ht⟩;obtain⟨p,g,hB⟩:=zo hok ht hx hb;exact⟨p,g, .inl ⟨e,ex,ys,te,rfl,rfl,ht,hB.v,hB.sz,hB.sh,hB.at_,hB.la,hB.own,hB.owni⟩⟩
 have SH:∀aa fz,(∀n∈fz,∃el ex xs,σ (cG n)= .o (.row el ex xs))->(∀e ex xs,aa≠ .ow e ex xs)->(∀xs,aa≠ .kp xs)->(∀c3:dZ,(∀b,XW σ c fz b->c3.K b)->∀nm,dN E w c3 (jU nm aa) u)->∃p g,iT E σ w c ⟨aa,[],fz,p,g,u⟩:=
  λaa fz h1 h2 h3 h4=>⟨nl,λ_ _=>nl, .inr ⟨rfl,h1,h2,h3,h4⟩⟩
 have O7:∀n∈([]:ax aG),∃el ex xs,σ (cG n)= .o (.row el ex xs):=λn hn=>by cases hn
 have HT:∀e,wV E e=aj->∃te,E.ty e=ah te:=λe he=>by
  unfold wV at he;cases ht:E.ty e with
  |none=>rw[ht]at he;cases he
  |some te=>exact⟨te,rfl⟩
 have frz:∀{n el:aG} {ex:aU} {xs:Row},σ (cG n)= .o (.row el ex xs)->∀c3:dZ,(∀b,XW σ c [n] b->c3.K b)->(∀b,c.K b->c3.K b)/\∀b,eI c n (.row el ex xs) b->c3.K b:=λhg c3 h=>⟨λb hb=>h b (.inl hb),λb hb=>h b (.inr ⟨_,aW.2 rfl,_,hg,hb⟩)⟩
 have fst:∀{n el:aG} {ex:aU} {xs:Row},σ (cG n)= .o (.row el ex xs)->∀m∈[n],∃el ex xs,σ (cG m)= .o (.row el ex xs):=λhg m hm=>by rw[aW]at hm;subst hm;exact⟨_,_,_,hg⟩
 cases x with
 |i k n=>cases h;exact SH _ _ O7 (λ_ _ _ h=>by cases h) (λ_ h=>by cases h) (λc3 _ _=>hx)
 |b y=>cases h;exact SH _ _ O7 (λ_ _ _ h=>by cases h) (λ_ h=>by cases h) (λc3 _ _=>hx)
 |s y=>cases h;exact SH _ _ O7 (λ_ _ _ h=>by cases h) (λ_ h=>by cases h) (λc3 _ _=>hx)
 |sh e xs=>
  cases om with
  |own=>cases h
  |nat=>cases h;exact SH _ _ O7 (λ_ _ _ h=>by cases h) (λ_ h=>by cases h) (λc3 h3 _=>cK.frame hx (λ_ _=>rfl) (λb hb=>h3 b (.inl hb)))
  |sh=>cases h;exact SH _ _ O7 (λ_ _ _ h=>by cases h) (λ_ h=>by cases h) (λc3 h3 _=>cK.frame hx (λ_ _=>rfl) (λb hb=>h3 b (.inl hb)))
 |nl=>
  have hx:u= .slice ai 0 0:=hx;cases om with
  |own e=>
   have h:(bif wV E e then ah (AA.ow e aj [],([]:ax aG),([]:ax aG))else ai)=ah (aa,tk,fz):=h;cases ht:wV E e with
   |false=>rw[ht]at h;cases h
   |true=>rw[ht]at h;cases h;exact OW e aj [] [] rfl (HT e ht)
  |sh e=>cases h;exact SH _ _ O7 (λ_ _ _ h=>by cases h) (λ_ h=>by cases h) (λc3 _ _=>by rw[hx];exact cK.nl _ _ _)
  |nat=>
   cases k with
   |l e=>
    have h:(bif wV E e then ah (AA.ow e aj [],([]:ax aG),([]:ax aG))else ai)=ah (aa,tk,fz):=h;cases ht:wV E e with
    |false=>rw[ht]at h;cases h
    |true=>rw[ht]at h;cases h;exact OW e aj [] [] rfl (HT e ht)
   |_=>cases h;exact SH _ _ O7 (λ_ _ _ h=>by cases h) (λ_ h=>by cases h) (λc3 _ _=>hx)
 |own n=>
  unfold wU at h;dsimp only at h;cases ho:σ (cG n)with
  |v=>rw[ho]at h;cases h
  |iN=>rw[ho]at h;cases h
  |o ob=>
   rw[ho]at h;have hu:u=mb (c.P n):=hx;cases ob with
   |row e ex xs=>
    obtain⟨_,_,ti,ht,_⟩:=jR hok ho;have hb:(uq e (.own n)).val σ=ah (ex,xs,[n]):=by simp[uq,iy,ho]
    cases om with
    |sh e'=>cases h;refine SH _ _ (fst ho) (λ_ _ _ h=>by cases h) (λ_ h=>by cases h) (λc3 h3 _=> ?_);obtain⟨r1,r2⟩:=frz ho c3 h3;rw[hu];exact qi hok ho r1 r2
    |nat=>cases h;exact OW e ex xs [n] hb ⟨ti,ht⟩
    |own=>cases h;exact OW e ex xs [n] hb ⟨ti,ht⟩
   |eU e xs=>
    have hh:cK E w c.K u (.l e xs):=by rw[hu];exact(hok.obj n _ ho).1
    cases om with
    |own=>cases h
    |nat=>cases h;exact SH _ _ O7 (λ_ _ _ h=>by cases h) (λ_ h=>by cases h) (λc3 h3 _=>cK.frame hh (λ_ _=>rfl) (λb hb=>h3 b (.inl hb)))
    |sh=>cases h;exact SH _ _ O7 (λ_ _ _ h=>by cases h) (λ_ h=>by cases h) (λc3 h3 _=>cK.frame hh (λ_ _=>rfl) (λb hb=>h3 b (.inl hb)))
   |_=>cases h
 |vw n lo hi=>
  unfold wU at h;dsimp only at h;cases ho:σ (cG n)with
  |v=>rw[ho]at h;cases h
  |iN=>rw[ho]at h;cases h
  |o ob=>
   rw[ho]at h;cases ob with
   |row e ex xs=>
    obtain⟨_,_,ti,ht,_⟩:=jR hok ho;have hb:(uq e (.vw n lo hi)).val σ=ah (ex,dR xs lo hi,[n]):=by simp[uq,iy,ho]
    cases om with
    |sh e'=>cases h;refine SH _ _ (fst ho) (λ_ _ _ h=>by cases h) (λ_ h=>by cases h) (λc3 h3 _=> ?_);obtain⟨r1,r2⟩:=frz ho c3 h3;exact Cs hok ho r1 r2 hx
    |nat=>cases h;exact OW e ex _ [n] hb ⟨ti,ht⟩
    |own=>cases h;exact OW e ex _ [n] hb ⟨ti,ht⟩
   |eU e xs=>
    have hh:cK E w c.K u (.l e (dR xs lo hi)):=nV hok ho hx;cases om with
    |own=>cases h
    |nat=>cases h;exact SH _ _ O7 (λ_ _ _ h=>by cases h) (λ_ h=>by cases h) (λc3 h3 _=>cK.frame hh (λ_ _=>rfl) (λb hb=>h3 b (.inl hb)))
    |sh=>cases h;exact SH _ _ O7 (λ_ _ _ h=>by cases h) (λ_ h=>by cases h) (λc3 h3 _=>cK.frame hh (λ_ _=>rfl) (λb hb=>h3 b (.inl hb)))
   |_=>cases h
 |_=>simp[wU]at h
theorem BV(hok:Ok E σ w c){q:aG}:∀{xs:ax AV} {j0:aG} {ks:ax Ck} {l:ax AA} {tk fz:ax aG} {vals:cX a7},rh E q σ j0 ks xs=ah (l,tk,fz)->eQ E w c vals xs->
  ∃cs:ax iI,l=cs.map (·.aa)/\tk=cs.flatMap (·.tk)/\fz=cs.flatMap (·.fz)/\cs.length=xs.length/\∀(j:aG) (r:iI),cs[j]? =ah r->vals[j]? =ah r.u/\iT E σ w c r:=by
 intro xs;induction xs with
 |nil=>intro j0 ks l tk fz vals h _;cases h;exact⟨[],rfl,rfl,rfl,rfl,λj r h=>by simp at h⟩
 |cons x xs ih=>
  intro j0 ks l tk fz vals h hv;unfold rh at h;split at h
  ·rename_i aa t f as ts fs h1 h2;cases h;obtain⟨u,hu,ha⟩:=hv.2 0 x rfl;obtain⟨p,g,hc⟩:=Fc hok h1 ha;have Ov:eQ E w c (vals.extract 1 vals.size) xs:=by
    refine⟨by simp;have:=hv.1;simp at this;omega,λj b hj=> ?_⟩
    obtain⟨u,hu,hb⟩:=hv.2 (j+1) b hj;refine⟨u, ?_,hb⟩
    have:=(c8.1 hu).1;rw[dF,ba (by omega),ia];exact hu
   obtain⟨cs,rfl,rfl,rfl,i4,i5⟩:=ih h2 Ov;refine⟨⟨aa,t,f,p,g,u⟩::cs,rfl,rfl,rfl,by simp[i4],λj r hj=> ?_⟩
   cases j with
   |zero=>cases hj;exact⟨hu,hc⟩
   |succ j=>
    obtain⟨r1,r2⟩:=i5 j r hj;refine⟨?_,r2⟩
    rw[dF]at r1;split at r1
    ·rw[ia];exact r1
    ·cases r1
  ·cases h
end
end Go.FG

namespace Go.FG
structure jL where
 box:aA aG
 agg:aU
 cs:ax iI
 v:a7
def jL.arg(R:jL):eu:=match R.box with|some _=> .pt (R.cs.map (·.aa))|none=> .v R.agg (R.cs.map (·.aa))
def jL.tk(R:jL):ax aG:=R.box.toList++R.cs.flatMap (·.tk)
def jL.fz(R:jL):ax aG:=R.cs.flatMap (·.fz)
def wA(rv:ResultVar)(tmps:cX a7):Sem a7:=match rv with| .tmp t=>pure (tmps.getD t undef)| .cell a t=>do loadVar t (<-asAddr (tmps.getD a undef))
section
variable {P:cC} {E:eL} {σ:St} {a:Act} {w:bw} {c:dZ}
def zc(T:Tab)(σ:St)(w:bw)(c:dZ)(R:jL):Prop:=
 (∃nm xs vals,R.box=ah nm/\σ (cG nm)= .o (.box xs)/\R.v= .pointer (ah (ad (c.P nm).blk 0))/\o4 w (c.P nm).blk vals/\vals.size=R.cs.length/\∀(j:aG) (r:iI),R.cs[j]? =ah r->vals[j]? =ah r.u/\iT T σ w c r)\/
 (R.box=ai/\((R.agg=ao/\∃r,R.cs=[r]/\r.u=R.v/\iT T σ w c r)\/(R.agg=aj/\∃vals:cX a7,R.v= .agg vals/\vals.size=R.cs.length/\∀(j:aG) (r:iI),R.cs[j]? =ah r->vals[j]? =ah r.u/\iT T σ w c r)))
theorem Ff(hok:Ok E σ w c){q:aG}{ks:ax Ck}{s:SV}{v:a7}{x:eu}{tk fz:ax aG}(h:Jp E q σ ks s=ah (x,tk,fz))(hs:ic E w c s v):∃R:jL,R.arg=x/\R.tk=tk/\R.fz=fz/\R.v=v/\zc E σ w c R:=by
 have gen:∀g xs,s= .v g xs->(match rh E q σ 0 ks xs with|some (l,ns,ms)=>ah (eu.v g l,ns,ms)|none=>ai)=ah (x,tk,fz)->∃R:jL,R.arg=x/\R.tk=tk/\R.fz=fz/\R.v=v/\zc E σ w c R:=by
  rintro g xs rfl h;cases hf:rh E q σ 0 ks xs with
  |none=>rw[hf]at h;cases h
  |some t=>
   obtain⟨l,ns,ms⟩:=t;rw[hf]at h;cases h;obtain⟨cs,rfl,rfl,rfl,h4,h5⟩:=BV hok hf (o_.cells hs);refine⟨⟨ai,g,cs,v⟩,rfl,by simp[jL.tk],rfl,rfl, .inr ⟨rfl, ?_⟩⟩
   replace hs:o_ E w c g xs v:=hs;have Fx:∀y,o_ E w c ao [y] v->v.cells= #[v]:=λy hy=>BQ (dN.one hy);unfold o_ at hs;split at hs
   ·rename_i y;obtain⟨r,rfl⟩:=fW.1 (h4.trans rfl);obtain⟨h6,h7⟩:=h5 0 r rfl;rw[Fx y hs]at h6;exact .inl ⟨rfl,r,rfl,by simpa using h6.symm,h7⟩
   ·obtain⟨vals,rfl,hsz,_⟩:=hs;exact .inr ⟨rfl,vals,rfl,by rw[hsz];exact h4.symm,h5⟩
   ·exact hs.elim
 unfold Jp at h;split at h
 ·rename_i nm;cases ho:σ (cG nm)with
  |v=>rw[ho]at h;cases h
  |iN=>rw[ho]at h;cases h
  |o ob=>
   rw[ho]at h;cases ob with
   |box xs=>
    dsimp only at h;cases hf:rh E q σ 0 [] xs with
    |none=>rw[hf]at h;cases h
    |some t=>obtain⟨l,ns,ms⟩:=t;rw[hf]at h;cases h;obtain⟨vals,hb,hsz,hv⟩:=hok.obj nm _ ho;obtain⟨cs,rfl,rfl,rfl,h4,h5⟩:=BV hok hf ⟨hsz,hv⟩;exact⟨⟨ah nm,ao,cs,v⟩,rfl,rfl,rfl,rfl, .inl ⟨nm,xs,vals,rfl,ho,hs,hb,by rw[hsz];exact h4.symm,h5⟩⟩
   |_=>cases h
 ·exact gen _ _ rfl h
 ·cases h
theorem Gb(hE:dP P E){t:aG}{ti:TI}(ht:E.ty t=ah ti){b:aG}{vals:cX a7}(hb:o4 w b vals)(hl:vals.size=ti.ks.length):(loadVar t (ad b 0)).run P w= .ok (if ti.agg=aj then .agg vals else vals.toList.headD .nilIface) w:=by
 have h:=Au (P:=P) w hE ht (b:=b) (o:=0) (cs:=vals.toList) (by simpa using hl) (λj v hj=>by rw[bG,hb.cell];simpa using hj);have e:(vG t (.pointer (ah (ad b 0)))).run P w=(loadVar t (ad b 0)).run P w:=by simp only[vG,sr,bV,cy,bk]
 rw[<-e,h]
theorem P3(hE:dP P E)(hok:Ok E σ w c)(dg:eC E σ a w c){q:aG}{rv:ResultVar}{t:aG}{x:eu}{tk fz:ax aG}(h:P0 E q σ rv t=ah (x,tk,fz)):∃R:jL,R.arg=x/\R.tk=tk/\R.fz=fz/\zc E σ w c R/\(wA rv a.tmps).run P w= .ok R.v w:=by
 unfold P0 at h;cases ht:E.ty t with
 |none=>rw[ht]at h;cases h
 |some ti=>
  rw[ht]at h;cases rv with
  |tmp s=>obtain⟨R,h1,h2,h3,h4,h5⟩:=Ff hok h (dg.ok s);exact⟨R,h1,h2,h3,h5,by rw[h4];rfl⟩
  |cell b t'=>
   dsimp only at h;split at h
   ·rename_i Rs nm ht' hs;split at h
    ·rename_i xs ho;cases hb:bA xs.length Rs.ks.length with
     |false=>rw[hb]at h;cases h
     |true=>
      rw[hb]at h;have hlen:=aN hb;have hv:a.eval (.tmp b)= .pointer (ah (ad (c.P nm).blk 0)):=by have:=dg.ok b;rw[hs]at this;exact this
      obtain⟨vals,hbl,hsz,Vq⟩:=hok.obj nm _ ho;have Oq:=Gb (P:=P) (w:=w) hE ht' hbl (by rw[hsz];exact hlen);have aks:ic E w c (.v Rs.agg xs) (if Rs.agg=aj then .agg vals else vals.toList.headD .nilIface):=by
       show o_ E w c Rs.agg xs _;cases rY:Rs.agg with
       |true=>rw[ba rfl];exact⟨vals,rfl,hsz,Vq⟩
       |false=>
        obtain⟨d,_,_,hn⟩:=hE.desc t' Rs ht';have h1:Rs.ks.length=1:=by rcases hn rY with ⟨k,h,_⟩|⟨h,_⟩|⟨h,_⟩|⟨e',h,_⟩|⟨h,_⟩<;>simp[h]
        obtain⟨y,rfl⟩:=fW.1 (hlen.trans h1);obtain⟨u,hu,ha⟩:=Vq 0 y rfl;have qx:vals.toList[0]? =ah u:=by simpa using hu
        have:vals.toList.headD .nilIface=u:=by
         cases hl:vals.toList with
         |nil=>rw[hl]at qx;cases qx
         |cons z l=>rw[hl]at qx;cases qx;rfl
        rw[a_ (by simp),this];exact ha
      obtain⟨R,h1,h2,h3,h4,h5⟩:=Ff hok h aks;refine⟨R,h1,h2,h3,h5, ?_⟩
      rw[h4,<-Oq];have:a.tmps.getD b undef= .pointer (ah (ad (c.P nm).blk 0)):=hv;simp only[wA,this,asAddr,bV,cy,bk]
    ·cases h
   ·cases h
theorem LU(hE:dP P E)(hok:Ok E σ w c)(dg:eC E σ a w c):∀{rs:ax ResultVar} {q:aG} {ts:ax aG} {as:ax eu} {tk fz:ax aG},Aj E σ q rs ts=ah (as,tk,fz)->∃RL:ax jL,as=RL.map (·.arg)/\tk=RL.flatMap (·.tk)/\fz=RL.flatMap (·.fz)/\(∀R∈RL,zc E σ w c R)/\RL.length=rs.length/\(rs.mapM (λrv=>wA rv a.tmps)).run P w= .ok (RL.map (·.v)) w:=by
 intro rs;induction rs with
 |nil=>intro q ts as tk fz h;cases h;exact⟨[],rfl,rfl,rfl,λR h=>(by cases h),rfl,by simp⟩
 |cons rv rs ih=>
  intro q ts as tk fz h;unfold Aj at h;split at h
  ·rename_i x l m as' ls ms h1 h2;cases h;obtain⟨R,rfl,rfl,rfl,r4,r5⟩:=P3 hE hok dg h1;obtain⟨RL,rfl,rfl,rfl,i4,i5,i6⟩:=ih h2;refine⟨R::RL,rfl,rfl,rfl,λR' hR=> ?_,by simp[i5], ?_⟩
   ·rcases b7.1 hR with rfl|hR
    ·exact r4
    ·exact i4 R' hR
   ·simp only[RR,bV,r5,i6,bk,cy,eF]
  ·cases h
def Ak(vs:ax a7):a7:=match vs with|[v]=>v|l=> .tuple l.toArray
theorem Gc{fn:Func}{vs:ax a7}(h:(fn.results.toList.mapM (λrv=>wA rv a.tmps)).run P w= .ok vs w):(results fn a.tmps).run P w= .ok (Ak vs) w:=by
 have e:(fn.results.mapM (λrv=>wA rv a.tmps)).run P w= .ok vs.toArray w:=by rw[Array.mapM_eq_mapM_toList];simp[h]
 have:results fn a.tmps=(do let vs<-fn.results.mapM (λrv=>wA rv a.tmps);pure (if h:vs.size=1 then vs[0]else .tuple vs)):=rfl;rw[this];simp only[bV,e,bk,cy];match vs with
 |[]=>rfl
 |[v]=>rfl
 |_::_::_=>rfl
end
end Go.FG

namespace Go.FG
structure lx where
 box:aU
 cs:ax iI
def lx.l(O:lx):ax AA:=O.cs.map (·.aa)
def lx.ns(O:lx)(p:aG):ax aG:=(if O.box=aj then [dC p 900]else [])++O.cs.flatMap (·.tk)
def lx.ms(O:lx):ax aG:=O.cs.flatMap (·.fz)
section
variable {P:cC} {E:eL} {σ:St} {a:Act} {w:bw} {c:dZ}
def Kept(σ:St)(p j:aG)(xs:ax AA)(r:iI):Prop:=∃e ex z ys,xs[j]? =ah (.ow e ex z)/\r.aa= .kp ys/\r.tk=[dC p j]/\r.fz=[]/\σ (cG (dC p j))= .o (.row e ex ys)
def Ey(T:Tab)(σ:St)(w:bw)(c:dZ)(p:aG)(x:eu)(O:lx):Prop:=
 (O.box=ao/\(∀xs,x≠ .pt xs)/\(O.cs=[]\/∃g xs,x= .v g xs/\∀(j:aG) (r:iI),O.cs[j]? =ah r->Kept σ p j xs r\/(r.aa= .nl/\r.tk=[]/\r.fz=[])))\/
 (O.box=aj/\∃xs vs vals,x= .pt xs/\σ (cG (dC p 900))= .o (.box vs)/\o4 w (c.P (dC p 900)).blk vals/\vals.size=O.cs.length/\
  ∀(j:aG) (r:iI),O.cs[j]? =ah r->vals[j]? =ah r.u/\((Kept σ p j xs r/\r.u=mb (c.P (dC p j)))\/iT T σ w c r))
theorem Gf{a b:aU}(h:Ge a b=aj):a=b:=by cases a<;>cases b<;>first|rfl|cases h
theorem T4(p j i:aG):dC p j+i=dC p (j+i):=by unfold dC;omega
theorem HK{tk:ax aG}{p:aG}:∀{xs:ax AA} {j:aG},∃cs:ax iI,(oA σ tk (dC p j) xs).1=cs.map (·.aa)/\(oA σ tk (dC p j) xs).2=cs.flatMap (·.tk)/\cs.flatMap (·.fz)=[]/\
  ∀(i:aG) (r:iI),cs[i]? =ah r->((∃e ex z ys,xs[i]? =ah (.ow e ex z)/\r.aa= .kp ys/\r.tk=[dC p (j+i)]/\r.fz=[]/\σ (cG (dC p (j+i)))= .o (.row e ex ys))\/(r.aa= .nl/\r.tk=[]/\r.fz=[])):=by
 intro xs;induction xs with
 |nil=>intro j;exact⟨[],rfl,rfl,rfl,λi r h=>by simp at h⟩
 |cons x xs ih=>
  intro j;obtain⟨cs,h1,h2,h3,h4⟩:=ih (j:=j+1);have e1:dC p j+1=dC p (j+1):=T4 p j 1;let pl:Pl:=⟨aj,0,0,0,0,0⟩
  have one:∃r:iI,mf σ tk (dC p j) x=(r.aa,r.tk)/\r.fz=[]/\((∃e ex z ys,x= .ow e ex z/\r.aa= .kp ys/\r.tk=[dC p j]/\r.fz=[]/\σ (cG (dC p j))= .o (.row e ex ys))\/(r.aa= .nl/\r.tk=[]/\r.fz=[])):=by
   have no:mf σ tk (dC p j) x=(.nl,[])->∃r:iI,mf σ tk (dC p j) x=(r.aa,r.tk)/\r.fz=[]/\((∃e ex z ys,x= .ow e ex z/\r.aa= .kp ys/\r.tk=[dC p j]/\r.fz=[]/\σ (cG (dC p j))= .o (.row e ex ys))\/(r.aa= .nl/\r.tk=[]/\r.fz=[])):=
    λh=>⟨⟨.nl,[],[],pl,λ_ _=>pl,undef⟩,h,rfl, .inr ⟨rfl,rfl,rfl⟩⟩
   cases x with
   |ow e ex z=>
    cases hm:ld (dC p j) tk with
    |true=>exact no (by simp[mf,hm])
    |false=>
     obtain⟨so,ho⟩:∃so,σ (cG (dC p j))=so:=⟨_,rfl⟩
     cases so with
     |v=>exact no (by simp[mf,hm,ho])
     |iN=>exact no (by simp[mf,hm,ho])
     |o ob=>
      cases ob with
      |row e' rW ys=>
       cases hb:(bA e e'&&Ge ex rW)with
       |false=>exact no (by simp only[mf,hm,az,ho,hb])
       |true=>simp only[aJ]at hb;have he:=aN hb.1;have hx:=Gf hb.2;subst he;subst hx;exact⟨⟨.kp ys,[dC p j],[],pl,λ_ _=>pl,undef⟩,by simp[mf,hm,ho,hb.2],rfl, .inl ⟨e,ex,z,ys,rfl,rfl,rfl,rfl,ho⟩⟩
      |_=>exact no (by simp[mf,hm,ho])
   |_=>exact no rfl
  obtain⟨r,k1,k2,k3⟩:=one;refine⟨r::cs, ?_, ?_,by simp[k2,h3],λi r' hi=> ?_⟩
  ·show(mf σ tk (dC p j) x).1::(oA σ tk (dC p j+1) xs).1=_;rw[k1,e1,h1];rfl
  ·show(mf σ tk (dC p j) x).2++(oA σ tk (dC p j+1) xs).2=_;rw[k1,e1,h2];rfl
  ·cases i with
   |zero=>
    cases hi;rcases k3 with ⟨e,ex,z,ys,q1,q2⟩|q
    ·exact .inl ⟨e,ex,z,ys,by rw[q1];rfl,q2⟩
    ·exact .inr q
   |succ i=>have:=h4 i r' hi;rw[show j+1+i=j+(i+1)by omega]at this;exact this
theorem KQ(hok:Ok E σ w c){q:aG}:∀{xs:ax AV} {j:aG} {bs l:ax AA} {tk fz:ax aG} {vals:cX a7},Dg E q σ j bs xs=ah (l,tk,fz)->eQ E w c vals xs->
  ∃cs:ax iI,l=cs.map (·.aa)/\tk=cs.flatMap (·.tk)/\fz=cs.flatMap (·.fz)/\cs.length=xs.length/\∀(i:aG) (r:iI),cs[i]? =ah r->vals[i]? =ah r.u/\
   (((∃e ex z ys,bs[i]? =ah (.ow e ex z)/\r.aa= .kp ys/\r.tk=[dC q (j+i)]/\r.fz=[]/\σ (cG (dC q (j+i)))= .o (.row e ex ys))/\r.u=mb (c.P (dC q (j+i))))\/iT E σ w c r):=by
 intro xs;induction xs with
 |nil=>intro j bs l tk fz vals h _;cases h;exact⟨[],rfl,rfl,rfl,rfl,λi r h=>by simp at h⟩
 |cons x xs ih=>
  intro j bs l tk fz vals h hv;unfold Dg at h;split at h
  ·rename_i aa t f as ts fs h1 h2;cases h;obtain⟨u,hu,ha⟩:=hv.2 0 x rfl;have Ov:eQ E w c (vals.extract 1 vals.size) xs:=by
    refine⟨by simp;have:=hv.1;simp at this;omega,λi b hj=> ?_⟩
    obtain⟨u,hu,hb⟩:=hv.2 (i+1) b hj;refine⟨u, ?_,hb⟩
    have:=(c8.1 hu).1;rw[dF,ba (by omega),ia];exact hu
   obtain⟨cs,rfl,rfl,rfl,i4,i5⟩:=ih h2 Ov;have one:∃p g,((∃e ex z ys,bs[0]? =ah (.ow e ex z)/\aa= .kp ys/\t=[dC q j]/\f=[]/\σ (cG (dC q j))= .o (.row e ex ys))/\u=mb (c.P (dC q j)))\/iT E σ w c ⟨aa,t,f,p,g,u⟩:=by
    have other:∀{om k},wU E om σ k x=ah (aa,t,f)->∃p g,((∃e ex z ys,bs[0]? =ah (.ow e ex z)/\aa= .kp ys/\t=[dC q j]/\f=[]/\σ (cG (dC q j))= .o (.row e ex ys))/\u=mb (c.P (dC q j)))\/iT E σ w c ⟨aa,t,f,p,g,u⟩:=λhh=>by obtain⟨p,g,hc⟩:=Fc hok hh ha;exact⟨p,g, .inr hc⟩
    unfold Vi at h1;split at h1
    ·rename_i e ex z n _ hb;cases hn:bA n (dC q j)with
     |false=>rw[hn]at h1;exact other (k:= .o) h1
     |true=>
      rw[hn]at h1;have:=aN hn;subst this;obtain⟨so,ho⟩:∃so,σ (cG (dC q j))=so:=⟨_,rfl⟩
      cases so with
      |v=>simp[ho]at h1
      |iN=>simp[ho]at h1
      |o ob=>
       cases ob with
       |row e' rW ys=>
        simp only[ho,aw]at h1;cases hb2:(bA e e'&&Ge ex rW)with
        |false=>rw[hb2]at h1;cases h1
        |true=>
         rw[hb2]at h1;cases h1;simp only[aJ]at hb2;have he:=aN hb2.1;have hx:=Gf hb2.2;subst he;subst hx;refine⟨⟨aj,0,0,0,0,0⟩,λ_ _=>⟨aj,0,0,0,0,0⟩, .inl ⟨⟨e,ex,z,ys, ?_,rfl,rfl,rfl,ho⟩,ha⟩⟩
         cases bs with
         |nil=>cases hb
         |cons b bs=>rw[show b=_ from hb];rfl
       |_=>simp[ho]at h1
    ·exact other (k:= .o) h1
   obtain⟨p,g,hc⟩:=one;refine⟨⟨aa,t,f,p,g,u⟩::cs,rfl,rfl,rfl,by simp[i4],λi r hi=> ?_⟩
   cases i with
   |zero=>cases hi;exact⟨hu,hc⟩
   |succ i=>
    obtain⟨r1,r2⟩:=i5 i r hi;refine⟨?_, ?_⟩
    ·rw[dF]at r1;split at r1
     ·rw[ia];exact r1
     ·cases r1
    ·rw[show j+1+i=j+(i+1)by omega]at r2;have e1:bs.tail[i]? =bs[i+1]? :=by cases bs<;>simp
     rw[e1]at r2;exact r2
  ·cases h
end
end Go.FG

namespace Go.FG
section
variable {P:cC} {E:eL} {σ:St} {a:Act} {w:bw} {c:dZ}
theorem LL(hok:Ok E σ w c){tk:ax aG}:∀{args:ax eu} {p:aG} {l:ax (ax AA)} {ns ms:ax aG},Ad E σ tk p args=ah (l,ns,ms)->
  ∃OL:ax lx,l=OL.map (·.l)/\OL.length=args.length/\ns=(OL.zipIdx p).flatMap (λt=>t.1.ns t.2)/\ms=OL.flatMap (·.ms)/\∀(i:aG) (O:lx) (x:eu),OL[i]? =ah O->args[i]? =ah x->Ey E σ w c (p+i) x O:=by
 intro args;induction args with
 |nil=>intro p l ns ms h;cases h;exact⟨[],rfl,rfl,rfl,rfl,λi O x h=>by simp at h⟩
 |cons x args ih=>
  intro p l ns ms h;unfold Ad at h;split at h
  ·cases h
  ·rename_i l' ns' ms' h1;obtain⟨OL,rfl,i2,rfl,rfl,i5⟩:=ih h1;have put:∀O:lx,Ey E σ w c p x O->l=O.l::OL.map (·.l)->ns=O.ns p++(OL.zipIdx (p+1)).flatMap (λt=>t.1.ns t.2)->ms=O.ms++OL.flatMap (·.ms)->∃OL:ax lx,l=OL.map (·.l)/\OL.length=(x::args).length/\ns=(OL.zipIdx p).flatMap (λt=>t.1.ns t.2)/\ms=OL.flatMap (·.ms)/\∀(i:aG) (O:lx) (y:eu),OL[i]? =ah O->(x::args)[i]? =ah y->Ey E σ w c (p+i) y O:=by
    intro O hO h1 h2 h3;refine⟨O::OL,h1,by simp[i2],by rw[h2,List.zipIdx_cons,vH],h3,λi O' y hi hy=> ?_⟩
    cases i with
    |zero=>cases hi;cases hy;exact hO
    |succ i=>have:=i5 i O' y hi hy;rwa[show p+1+i=p+(i+1)by omega]at this
   cases x with
   |v g xs=>
    dsimp only at h;cases hh:Of xs with
    |false=>rw[hh]at h;cases h;exact put ⟨ao,[]⟩ (.inl ⟨rfl,(λ_ h=>by cases h), .inl rfl⟩) rfl rfl rfl
    |true=>rw[hh]at h;cases h;obtain⟨cs,k1,k2,k3,k4⟩:=HK (σ:=σ) (tk:=tk) (p:=p) (xs:=xs) (j:=0);refine put ⟨ao,cs⟩ (.inl ⟨rfl,(λ_ h=>by cases h), .inr ⟨g,xs,rfl,λj r hj=> ?_⟩⟩) (by rw[k1];rfl) (by rw[k2];rfl) (by simp[lx.ms,k3]);have:=k4 j r hj;rw[bG]at this;exact this
   |pt xs=>
    dsimp only at h;split at h
    ·rename_i vs ho;split at h
     ·rename_i as ns2 ms2 hb;cases h;obtain⟨vals,hbl,hsz,hv⟩:=hok.obj _ _ ho;obtain⟨cs,rfl,rfl,rfl,k4,k5⟩:=KQ hok hb ⟨hsz,hv⟩;refine put ⟨aj,cs⟩ (.inr ⟨rfl,xs,vs,vals,rfl,ho,hbl,by rw[hsz];exact k4.symm,λj r hj=> ?_⟩) rfl (by simp[lx.ns]) rfl;obtain⟨r1,r2⟩:=k5 j r hj;rw[bG]at r2;exact⟨r1,r2⟩
     ·cases h
    ·cases h
   |fb xs=>cases h;exact put ⟨ao,[]⟩ (.inl ⟨rfl,(λ_ h=>by cases h), .inl rfl⟩) rfl rfl rfl
theorem wR:∀{l:ax (ax AA)} {p:aG},(rV l).getD p []=l.getD p []:=by
 intro l;induction l with
 |nil=>intro p;rfl
 |cons x l ih=>
  intro p;unfold rV;split
  ·rename_i h;cases p with
   |zero=>rfl
   |succ p=>rw[s8,<-ih,h];rfl
  ·rename_i x' r' _;cases p with
   |zero=>rfl
   |succ p=>rw[s8,s8,ih]
end
end Go.FG

namespace Go.FG
structure Sp where
 res:aU
 i:aG
 j:aA aG
def nY(RL:ax jL)(OL:ax lx)(s:Sp):ax aG:=
 match s.res,s.j with
 |true,ai=>match RL[s.i]? with|some R=>R.box.toList|none=>[]
 |true,ah j=>match RL[s.i]? with|some R=>(match R.cs[j]? with|some r=>r.tk|none=>[])|none=>[]
 |false,ai=>match OL[s.i]? with|some O=>(if O.box=aj then [dC s.i 900]else [])|none=>[]
 |false,ah j=>match OL[s.i]? with|some O=>(match O.cs[j]? with|some r=>r.tk|none=>[])|none=>[]
theorem mg{α:Type}{l:ax α}{i:aG}{x:α}{p:aG}(h:l[i]? =ah x):(l.zipIdx p)[i]? =ah (x,p+i):=by rw[List.getElem?_zipIdx,h];rfl
theorem Uv{RL:ax jL}{OL:ax lx}(hn:(RL.flatMap (·.tk)++(OL.zipIdx 0).flatMap (λt=>t.1.ns t.2)).Nodup){s s':Sp}{n:aG}(h:n∈nY RL OL s)(h':n∈nY RL OL s'):s=s':=by
 obtain⟨n1,n2,n3⟩:=dQ.1 hn;obtain⟨a1,a2⟩:=kA n1;obtain⟨b1,b2⟩:=kA n2;have R1:∀{i:aG} {j:aA aG},n∈nY RL OL ⟨aj,i,j⟩->∃R,RL[i]? =ah R/\n∈R.tk/\((j=ai/\n∈R.box.toList)\/∃q r,j=ah q/\R.cs[q]? =ah r/\n∈r.tk):=by
  intro i j h;cases j with
  |none=>
   unfold nY at h;dsimp only at h;cases hR:RL[i]? with
   |none=>rw[hR]at h;cases h
   |some R=>rw[hR]at h;exact⟨R,rfl,bL _ h, .inl ⟨rfl,h⟩⟩
  |some q=>
   unfold nY at h;dsimp only at h;cases hR:RL[i]? with
   |none=>rw[hR]at h;cases h
   |some R=>
    rw[hR]at h;dsimp only at h;cases hr:R.cs[q]? with
    |none=>rw[hr]at h;cases h
    |some r=>rw[hr]at h;exact⟨R,rfl,bE _ (bz.2 ⟨r,aM hr,h⟩), .inr ⟨q,r,rfl,hr,h⟩⟩
 have O1:∀{i:aG} {j:aA aG},n∈nY RL OL ⟨ao,i,j⟩->∃O,OL[i]? =ah O/\n∈O.ns i/\((j=ai/\n∈(if O.box=aj then [dC i 900]else []))\/∃q r,j=ah q/\O.cs[q]? =ah r/\n∈r.tk):=by
  intro i j h;cases j with
  |none=>
   unfold nY at h;dsimp only at h;cases hR:OL[i]? with
   |none=>rw[hR]at h;cases h
   |some R=>rw[hR]at h;exact⟨R,rfl,bL _ h, .inl ⟨rfl,h⟩⟩
  |some q=>
   unfold nY at h;dsimp only at h;cases hR:OL[i]? with
   |none=>rw[hR]at h;cases h
   |some R=>
    rw[hR]at h;dsimp only at h;cases hr:R.cs[q]? with
    |none=>rw[hr]at h;cases h
    |some r=>rw[hr]at h;exact⟨R,rfl,bE _ (bz.2 ⟨r,aM hr,h⟩), .inr ⟨q,r,rfl,hr,h⟩⟩
 have la:∀{A:ax aG} {cs:ax iI} {j j':aA aG},(A++cs.flatMap (·.tk)).Nodup->((j=ai/\n∈A)\/∃q r,j=ah q/\cs[q]? =ah r/\n∈r.tk)->((j'=ai/\n∈A)\/∃q r,j'=ah q/\cs[q]? =ah r/\n∈r.tk)->j=j':=by
  intro A cs j j' Fv k k';obtain⟨m1,m2,m3⟩:=dQ.1 Fv;have inC:∀{q:aG} {r:iI},cs[q]? =ah r->n∈r.tk->n∈cs.flatMap (·.tk):=λhq hr=>bz.2 ⟨_,aM hq,hr⟩;rcases k with ⟨rfl,k⟩|⟨q,r,rfl,k1,k2⟩<;>rcases k' with ⟨rfl,k'⟩|⟨q',r',rfl,k1',k2'⟩
  ·rfl
  ·exact b_ rfl (m3 n k n (inC k1' k2'))
  ·exact b_ rfl (m3 n k' n (inC k1 k2))
  ·rw[(kA m2).1 q q' r r' n k1 k1' k2 k2']
 obtain⟨b,i,j⟩:=s;obtain⟨b',i',j'⟩:=s';cases b<;>cases b'
 ·obtain⟨O,h1,h2,h3⟩:=O1 h;obtain⟨O',Hy,K_,Jw⟩:=O1 h';have:=b1 i i' _ _ n (mg (p:=0) h1) (mg (p:=0) Hy) (by rw[bG];exact h2) (by rw[bG];exact K_);subst this;rw[h1]at Hy;cases Hy;have:=b2 _ (aM (mg (p:=0) h1));rw[bG]at this;rw[la this h3 Jw]
 ·obtain⟨O,h1,h2,h3⟩:=O1 h;obtain⟨R,Hy,K_,_⟩:=R1 h';exact b_ rfl (n3 n (bz.2 ⟨R,aM Hy,K_⟩) n (bz.2 ⟨_,aM (mg (p:=0) h1),by rw[bG];exact h2⟩))
 ·obtain⟨R,h1,h2,_⟩:=R1 h;obtain⟨O,Hy,K_,_⟩:=O1 h';exact b_ rfl (n3 n (bz.2 ⟨R,aM h1,h2⟩) n (bz.2 ⟨_,aM (mg (p:=0) Hy),by rw[bG];exact K_⟩))
 ·obtain⟨R,h1,h2,h3⟩:=R1 h;obtain⟨R',Hy,K_,Jw⟩:=R1 h';have:=a1 i i' _ _ n h1 Hy h2 K_;subst this;rw[h1]at Hy;cases Hy;have:=a2 _ (aM h1);rw[la this h3 Jw]
end Go.FG

namespace Go.FG
def I_(c:dZ)(RL:ax jL)(OL:ax lx)(m:aG):aA (Pl×(aG->aG->Pl)):=
 if m<900000000 then ai
 else if 500<=(m-900000000)/1000 then(match RL[(m-900000000)/1000-500]? with
  |none=>ai
  |some R=>if(m-900000000)%1000=900 then R.box.map (λn=>(c.P n,c.G n))else(R.cs[(m-900000000)%1000]?).map λr=>(r.p,r.g))
 else if 100<=(m-900000000)%1000/\(m-900000000)%1000≠900 then(match OL[(m-900000000)/1000]? with
  |none=>ai
  |some O=>(O.cs[(m-900000000)%1000-100]?).map λr=>(r.p,r.g))
 else ai
def lZ(σ:St)(c:dZ)(RL:ax jL)(OL:ax lx):dZ:=
 ⟨λm=>match I_ c RL OL m with|some pg=>pg.1|none=>c.P m,λm=>match I_ c RL OL m with|some pg=>pg.2|none=>c.G m,XW σ c (RL.flatMap (·.fz)++OL.flatMap (·.ms))⟩
theorem yC{σ:St}{c:dZ}{RL:ax jL}{OL:ax lx}{m:aG}{p:Pl}{g:aG->aG->Pl}(h:I_ c RL OL m=ah (p,g)):(lZ σ c RL OL).P m=p/\(lZ σ c RL OL).G m=g:=by unfold lZ;simp only[h];exact⟨trivial,trivial⟩
theorem yB{σ:St}{c:dZ}{RL:ax jL}{OL:ax lx}{m:aG}(h:I_ c RL OL m=ai):(lZ σ c RL OL).P m=c.P m/\(lZ σ c RL OL).G m=c.G m:=by unfold lZ;simp only[h];exact⟨trivial,trivial⟩
section
variable {c:dZ} {RL:ax jL} {OL:ax lx}
theorem NF{q n:aG}{R:jL}(h:RL[q]? =ah R)(hb:R.box=ah n):I_ c RL OL (dC (500+q) 900)=ah (c.P n,c.G n):=by obtain⟨h1,h2⟩:=sa (p:=500+q) (j:=900) (by omega);have h0:=z7 (500+q) 900;unfold I_;rw[a_ (by omega),h1,h2,ba (by omega),show 500+q-500=q by omega,h];simp[hb]
theorem De{q j:aG}{R:jL}{r:iI}(h:RL[q]? =ah R)(hj:R.cs[j]? =ah r)(hl:j<900):I_ c RL OL (dC (500+q) j)=ah (r.p,r.g):=by obtain⟨h1,h2⟩:=sa (p:=500+q) (j:=j) (by omega);have h0:=z7 (500+q) j;unfold I_;rw[a_ (by omega),h1,h2,ba (by omega),show 500+q-500=q by omega,h];dsimp only;rw[a_ (by omega),hj];rfl
theorem yz{p j:aG}(hp:p<500)(hl:j<100\/j=900):I_ c RL OL (dC p j)=none:=by obtain⟨h1,h2⟩:=sa (p:=p) (j:=j) (by omega);have h0:=z7 p j;unfold I_;rw[a_ (by omega),h1,h2,a_ (by omega),a_ (by omega)]
theorem Ja{p j:aG}{O:lx}{r:iI}(hp:p<500)(h:OL[p]? =ah O)(hj:O.cs[j]? =ah r)(hl:j<=100):I_ c RL OL (dC p (100+j))=ah (r.p,r.g):=by obtain⟨h1,h2⟩:=sa (p:=p) (j:=100+j) (by omega);have h0:=z7 p (100+j);unfold I_;rw[a_ (by omega),h1,h2,a_ (by omega),ba (by omega),h];dsimp only;rw[show 100+j-100=j by omega,hj];rfl
end
end Go.FG

namespace Go.FG
def adb(OL:ax lx)(s:Sp):aG:=
 match s.res,s.j with
 |true,ai=>dC (500+s.i) 900
 |true,ah j=>dC (500+s.i) j
 |false,ai=>dC s.i 900
 |false,ah j=>match OL[s.i]? with|some O=>(match O.cs[j]? with|some r=>(match r.aa with| .kp _=>dC s.i j|_=>dC s.i (100+j))|none=>0)|none=>0
section
variable {P:cC} {E:eL} {σ:St} {a:Act} {w:bw} {c:dZ} {RL:ax jL} {OL:ax lx}
theorem yE{r:iI}(h:iT E σ w c r)(hf:∀n∈r.fz,n∈RL.flatMap (·.fz)++OL.flatMap (·.ms)){x:aG}(hx:I_ c RL OL x=ah (r.p,r.g)):dN E w (lZ σ c RL OL) (jU x r.aa) r.u:=by
 rcases h with ⟨e,ex,ys,te,h1,h2,h3,h4,_⟩|⟨h1,h2,h3,h4,h5⟩
 ·rw[h1];show r.u=mb ((lZ σ c RL OL).P x);rw[(yC hx).1];exact h4
 ·exact h5 _ (λb hb=>hb.imp id (λ⟨n,hn,hh⟩=>⟨n,hf n hn,hh⟩)) x
theorem ER{r:iI}(h:iT E σ w c r){e:aG}{ex:aU}{ys:Row}(ha:r.aa= .ow e ex ys){x:aG}(hx:I_ c RL OL x=ah (r.p,r.g)):
  ot E w (lZ σ c RL OL) x (.row e ex ys)/\∀b,eI (lZ σ c RL OL) x (.row e ex ys) b->∃n ob,n∈r.tk/\σ (cG n)= .o ob/\eI c n ob b:=by
 obtain⟨e1,e2⟩:=yC (σ:=σ) hx;rcases h with ⟨e',rW,AX,te,h1,h2,h3,h4,h5,h6,h7,h8,h9,h10⟩|⟨_,_,h3,_⟩
 ·rw[ha]at h1;cases h1;refine⟨⟨⟨te,h3,by rw[e1];exact h5,h6⟩, ?_,λnX=>by rw[e1,e2];exact h8 nX⟩,λb hb=> ?_⟩
  ·rw[e1,e2];refine h7.frame (λ_=>rfl) (λi j y xx u hy Rn hr=> ?_);split at hr
   ·rename_i nX;rw[ba nX];exact hr
   ·rename_i nX;rw[a_ nX];exact hr.frame (λ_ _=>rfl) (λb hb=> .inl hb)
  ·rcases hb with ⟨hn,rfl⟩|⟨nX,i,j,hh,hn,rfl⟩
   ·rw[e1]at hn⊢;exact h9 hn
   ·rw[e2]at hn⊢;exact h10 nX i j hh hn
 ·exact b_ ha (h3 _ _ _)
structure Bz (T:Tab) (σ:St) (w:bw) (c:dZ) (RL:ax jL) (OL:ax lx) (args:ax eu) (r:Res):Prop where
 rl:∀R∈RL,zc T σ w c R
 ol:∀(i:aG) (O:lx) (x:eu),OL[i]? =ah O->args[i]? =ah x->Ey T σ w c i x O
 len:OL.length=args.length
 nd:(RL.flatMap (·.tk)++(OL.zipIdx 0).flatMap (λt=>t.1.ns t.2)).Nodup
 ap:∀n∈RL.flatMap (·.tk)++(OL.zipIdx 0).flatMap (λt=>t.1.ns t.2),n∉RL.flatMap (·.fz)++OL.flatMap (·.ms)
 sm:Small args r
 rs:r.rs=RL.map (·.arg)
 outs:∀p,r.outs.getD p []=(OL.map (·.l)).getD p []
theorem NB{R:jL}{xs:ax AA}(h:IA R.arg xs):xs=R.cs.map (·.aa):=by
 unfold jL.arg at h;split at h
 ·rcases h with ⟨g,h⟩|h<;>cases h;rfl
 ·rcases h with ⟨g,h⟩|h<;>cases h;rfl
theorem uz(hok:Ok E σ w c){args:ax eu}{r:Res}(hE:Bz E σ w c RL OL args r){x:aG}{ob:Obj}(h:yX args r x (.o ob)):
  ot E w (lZ σ c RL OL) x ob/\∃s,x=adb OL s/\∀b,eI (lZ σ c RL OL) x ob b->∃n o,n∈nY RL OL s/\σ (cG n)= .o o/\eI c n o b:=by
 have aef:∀{q:aG} {y:eu},r.rs[q]? =ah y->∃R,RL[q]? =ah R/\y=R.arg:=by
  intro q y hq;rw[hE.rs,bg]at hq;cases hR:RL[q]? with
  |none=>rw[hR]at hq;cases hq
  |some R=>rw[hR]at hq;cases hq;exact⟨R,rfl,rfl⟩
 have fzR:∀{q:aG} {R:jL} {j:aG} {t:iI},RL[q]? =ah R->R.cs[j]? =ah t->∀n∈t.fz,n∈RL.flatMap (·.fz)++OL.flatMap (·.ms):=λhR hj n hn=>bL _ (bz.2 ⟨_,aM hR,bz.2 ⟨_,aM hj,hn⟩⟩);have fzO:∀{q:aG} {O:lx} {j:aG} {t:iI},OL[q]? =ah O->O.cs[j]? =ah t->∀n∈t.fz,n∈RL.flatMap (·.fz)++OL.flatMap (·.ms):=λhR hj n hn=>bE _ (bz.2 ⟨_,aM hR,bz.2 ⟨_,aM hj,hn⟩⟩);have ZQ:∀{p:aG} {y:eu},args[p]? =ah y->∃O,OL[p]? =ah O/\Ey E σ w c p y O/\r.outs.getD p []=O.cs.map (·.aa):=by
  intro p y hp;have sR:p<OL.length:=by rw[hE.len];exact(aP.1 hp).1
  have hO:OL[p]? =ah OL[p]:=by simp[sR]
  refine⟨OL[p],hO,hE.ol p _ y hO hp, ?_⟩
  rw[hE.outs,cM,bg,hO];rfl
 have csJ:∀{cs:ax iI} {j:aG} {y:AA},(cs.map (·.aa))[j]? =ah y->∃t,cs[j]? =ah t/\t.aa=y:=by
  intro cs j y hj;rw[bg]at hj;cases ht:cs[j]? with
  |none=>rw[ht]at hj;cases hj
  |some t=>rw[ht]at hj;cases hj;exact⟨t,rfl,rfl⟩
 have hnm:∀p j,dC p 0+j=dC p j:=λp j=>by unfold dC;omega
 cases h with
 |rb q xs h0=>
  obtain⟨R,hR,hy⟩:=aef h0;rcases hE.rl R (aM hR)with ⟨nm,zs,vals,h1,h2,h3,h4,h5,h6⟩|⟨h1,_⟩
  ·have VF:=NB (R:=R) (xs:=xs) (.inr hy.symm);obtain⟨e1,e2⟩:=yC (σ:=σ) (NF (c:=c) (OL:=OL) hR h1);refine⟨⟨vals,by rw[e1];exact h4,by rw[gP,VF,bM];exact h5,λj y hj=> ?_⟩,⟨aj,q,ai⟩,rfl,λb hb=>⟨nm,_, ?_,h2, ?_⟩⟩
   ·rw[gA,VF]at hj;cases hx:(R.cs.map (·.aa))[j]? with
    |none=>rw[hx]at hj;cases hj
    |some z=>
     rw[hx]at hj;cases hj;obtain⟨t,ht,rfl⟩:=csJ hx;obtain⟨k1,k2⟩:=h6 j t ht;have jB:j<900:=by have:=hE.sm.rl q _ xs h0 (.inr rfl);have h7:=(aP.1 ht).1;rw[VF,bM]at this;omega
     rw[hnm];exact⟨t.u,k1,yE k2 (fzR hR ht) (De hR ht jB)⟩
   ·show nm∈(match RL[q]? with|some R=>R.box.toList|none=>[]);rw[hR];dsimp only;rw[h1];exact aW.2 rfl
   ·rw[show b=_ from hb,e1];rfl
  ·unfold jL.arg at hy;rw[h1]at hy;cases hy
 |rr q y xs j e ex ys h0 hx hj=>
  obtain⟨R,hR,rfl⟩:=aef h0;have VF:=NB hx;rw[VF]at hj;obtain⟨t,ht,FA⟩:=csJ hj;have jB:j<900:=by have:=hE.sm.rl q _ xs h0 hx;have h7:=(aP.1 ht).1;rw[VF,bM]at this;omega
  have hc:iT E σ w c t:=by
   rcases hE.rl R (aM hR)with ⟨nm,zs,vals,_,_,_,_,_,h6⟩|⟨_,⟨_,t',h1,_,h2⟩|⟨_,vals,_,_,h6⟩⟩
   ·exact(h6 j t ht).2
   ·rw[h1]at ht;cases j with
    |zero=>cases ht;exact h2
    |succ j=>simp at ht
   ·exact(h6 j t ht).2
  obtain⟨k1,k2⟩:=ER (RL:=RL) (OL:=OL) hc FA (De hR ht jB);refine⟨k1,⟨aj,q,ah j⟩,rfl,λb hb=> ?_⟩
  obtain⟨n,o,h1,h2⟩:=k2 b hb;refine⟨n,o, ?_,h2⟩
  show n∈(match RL[q]? with|some R=>(match R.cs[j]? with|some r=>r.tk|none=>[])|none=>[]);rw[hR];dsimp only;rw[ht];exact h1
 |ob p xs h0=>
  obtain⟨O,hO,hoo,hl⟩:=ZQ h0;have hp:=hE.sm.a p _ xs h0 (.inr rfl);rcases hoo with ⟨_,h1,_⟩|⟨h1,Iu,vs,vals,SY,h2,h3,h4,h5⟩
  ·exact b_ rfl (h1 xs)
  ·cases SY;obtain⟨e1,e2⟩:=yB (σ:=σ) (yz (c:=c) (RL:=RL) (OL:=OL) hp (.inr rfl));have ach:O.cs.length<=100:=by have:=hE.sm.o p;rw[hl,bM]at this;exact this
   rw[hl];refine⟨⟨vals,by rw[e1];exact h3,by rw[sS,bM];exact h4,λj y hj=> ?_⟩,⟨ao,p,ai⟩,rfl,λb hb=>⟨dC p 900,_, ?_,h2, ?_⟩⟩
   ·rw[tJ,bG]at hj;cases hx:(O.cs.map (·.aa))[j]? with
    |none=>rw[hx]at hj;cases hj
    |some z=>
     rw[hx]at hj;cases hj;obtain⟨t,ht,rfl⟩:=csJ hx;obtain⟨k1,k2⟩:=h5 j t ht;have jB:=(aP.1 ht).1;refine⟨t.u,k1, ?_⟩
     rcases k2 with ⟨⟨e,ex,z,ys,_,q2,_⟩,q6⟩|k2
     ·rw[q2];show t.u=mb ((lZ σ c RL OL).P (dC p j));rw[(yB (yz hp (.inl (by omega)))).1];exact q6
     ·have hk:∀ys,t.aa≠ .kp ys:=by
       rcases k2 with ⟨_,_,_,_,q,_⟩|⟨_,_,_,q,_⟩
       ·intro ys hh;rw[q]at hh;cases hh
       ·exact q
      have:rE p j t.aa=jU (dC p (100+j)) t.aa:=by cases hq:t.aa<;>first|rfl|exact b_ hq (hk _)
      rw[this];exact yE k2 (fzO hO ht) (Ja hp hO ht (by omega))
   ·show dC p 900∈(match OL[p]? with|some O=>(if O.box=aj then [dC p 900]else [])|none=>[]);rw[hO];dsimp only;rw[ba h1];exact aW.2 rfl
   ·rw[show b=_ from hb,e1];rfl
 |kp p y xs j e ex z ys h0 hx h2 h3=>
  obtain⟨O,hO,hoo,hl⟩:=ZQ h0;have hp:=hE.sm.a p _ xs h0 hx;rw[hl]at h3;obtain⟨t,ht,FA⟩:=csJ h3;have ach:O.cs.length<=100:=by have:=hE.sm.o p;rw[hl,bM]at this;exact this
  have jB:=(aP.1 ht).1;have acD:Kept σ p j xs t:=by
   rcases hoo with ⟨_,_,h1|⟨g,Iu,SY,h1⟩⟩|⟨_,Iu,vs,vals,SY,_,_,_,h5⟩
   ·rw[h1]at ht;simp at ht
   ·have:Iu=xs:=by rw[SY]at hx;rcases hx with ⟨g',hx⟩|hx<;>cases hx;rfl
    subst this;rcases h1 j t ht with h|⟨h,_⟩
    ·exact h
    ·rw[FA]at h;cases h
   ·have:Iu=xs:=by rw[SY]at hx;rcases hx with ⟨g',hx⟩|hx<;>cases hx;rfl
    subst this;rcases(h5 j t ht).2 with ⟨h,_⟩|h
    ·exact h
    ·rcases h with ⟨_,_,_,_,q,_⟩|⟨_,_,_,q,_⟩
     ·rw[FA]at q;cases q
     ·exact b_ FA (q _)
  obtain⟨e',rW,z',AX,q1,q2,q3,q4,q5⟩:=acD;rw[h2]at q1;cases q1;rw[FA]at q2;cases q2;obtain⟨e1,e2⟩:=yB (σ:=σ) (yz (c:=c) (RL:=RL) (OL:=OL) (p:=p) (j:=j) hp (.inl (by omega)));obtain⟨⟨te,r1,r2,r3⟩,r4,r5⟩:=hok.obj _ _ q5;refine⟨⟨⟨te,r1,by rw[e1];exact r2,r3⟩, ?_,λnX=>by rw[e1,e2];exact r5 nX⟩,⟨ao,p,ah j⟩, ?_,λb hb=>⟨dC p j,_, ?_,q5, ?_⟩⟩
  ·rw[e1,e2];refine r4.frame (λ_=>rfl) (λi j y xx u hy Rn hr=> ?_);split at hr
   ·rename_i nX;rw[ba nX];exact hr
   ·rename_i nX;rw[a_ nX];exact hr.frame (λ_ _=>rfl) (λb hb=> .inl hb)
  ·show dC p j=(match OL[p]? with|some O=>(match O.cs[j]? with|some r=>(match r.aa with| .kp _=>dC p j|_=>dC p (100+j))|none=>0)|none=>0)
   rw[hO];dsimp only;rw[ht];dsimp only;rw[FA]
  ·show dC p j∈(match OL[p]? with|some O=>(match O.cs[j]? with|some r=>r.tk|none=>[])|none=>[]);rw[hO];dsimp only;rw[ht];dsimp only;rw[q3];exact aW.2 rfl
  ·rw[kP (c:=c) (c':=lZ σ c RL OL) ⟨e1,e2⟩]at hb;exact hb
 |nw p y xs j e ex ys h0 hx h3=>
  obtain⟨O,hO,hoo,hl⟩:=ZQ h0;have hp:=hE.sm.a p _ xs h0 hx;rw[hl]at h3;obtain⟨t,ht,FA⟩:=csJ h3;have ach:O.cs.length<=100:=by have:=hE.sm.o p;rw[hl,bM]at this;exact this
  have jB:=(aP.1 ht).1;have hc:iT E σ w c t:=by
   rcases hoo with ⟨_,_,h1|⟨g,Iu,SY,h1⟩⟩|⟨_,Iu,vs,vals,SY,_,_,_,h5⟩
   ·rw[h1]at ht;simp at ht
   ·rcases h1 j t ht with ⟨_,_,_,_,_,h,_⟩|⟨h,_⟩<;>(rw[FA]at h;cases h)
   ·rcases(h5 j t ht).2 with ⟨⟨_,_,_,_,_,h,_⟩,_⟩|h
    ·rw[FA]at h;cases h
    ·exact h
  obtain⟨k1,k2⟩:=ER (RL:=RL) (OL:=OL) hc FA (Ja hp hO ht (by omega));refine⟨k1,⟨ao,p,ah j⟩, ?_,λb hb=> ?_⟩
  ·show dC p (100+j)=(match OL[p]? with|some O=>(match O.cs[j]? with|some r=>(match r.aa with| .kp _=>dC p j|_=>dC p (100+j))|none=>0)|none=>0)
   rw[hO];dsimp only;rw[ht];dsimp only;rw[FA]
  ·obtain⟨n,o,h1,h2⟩:=k2 b hb;refine⟨n,o, ?_,h2⟩
   show n∈(match OL[p]? with|some O=>(match O.cs[j]? with|some r=>r.tk|none=>[])|none=>[]);rw[hO];dsimp only;rw[ht];exact h1
end
end Go.FG

namespace Go.FG
theorem tt{args:ax eu}{r:Res}{m:aG}{o:Obj}(h:yX args r m (.o o)):nS args r (cG m)≠ .iN:=by
 refine qm (uB.2 h) ?_;rintro ⟨k,d⟩ hd;rcases aX.1 hd with hd|hd
 ·obtain⟨i,a,_,hd⟩:=FN.1 hd;rcases gu.1 hd with ⟨_,_,_,h⟩|⟨_,_,_,_,_,_,_,_,h⟩<;>rw[h]<;>simp
 ·obtain⟨i,a,_,hd⟩:=FM.1 hd;rcases pq.1 hd with ⟨_,_,_,h⟩|⟨_,_,⟨_,_,_,_,_,_,_,_,h⟩|⟨_,_,_,_,_,_,h⟩⟩<;>rw[h]<;>simp
section
variable {P:cC} {E:eL} {σ:St} {a:Act} {w:bw} {c c0:dZ} {RL:ax jL} {OL:ax lx}
theorem PD{s:Sp}{n:aG}(h:n∈nY RL OL s):n∈RL.flatMap (·.tk)++(OL.zipIdx 0).flatMap (λt=>t.1.ns t.2):=by
 obtain⟨b,i,j⟩:=s;have inO:∀{O:lx},OL[i]? =ah O->n∈O.ns i->n∈(OL.zipIdx 0).flatMap (λt=>t.1.ns t.2):=λhO hn=>bz.2 ⟨_,aM (mg (p:=0) hO),by rw[bG];exact hn⟩;have inR:∀{R:jL},RL[i]? =ah R->n∈R.tk->n∈RL.flatMap (·.tk):=λhR hn=>bz.2 ⟨_,aM hR,hn⟩;cases b<;>cases j<;>unfold nY at h<;>dsimp only at h
 ·cases hO:OL[i]? with
  |none=>rw[hO]at h;cases h
  |some O=>rw[hO]at h;exact bE _ (inO hO (bL _ h))
 ·rename_i j;cases hO:OL[i]? with
  |none=>rw[hO]at h;cases h
  |some O=>
   rw[hO]at h;dsimp only at h;cases hr:O.cs[j]? with
   |none=>rw[hr]at h;cases h
   |some r=>rw[hr]at h;exact bE _ (inO hO (bE _ (bz.2 ⟨r,aM hr,h⟩)))
 ·cases hO:RL[i]? with
  |none=>rw[hO]at h;cases h
  |some O=>rw[hO]at h;exact bL _ (inR hO (bL _ h))
 ·rename_i j;cases hO:RL[i]? with
  |none=>rw[hO]at h;cases h
  |some O=>
   rw[hO]at h;dsimp only at h;cases hr:O.cs[j]? with
   |none=>rw[hr]at h;cases h
   |some r=>rw[hr]at h;exact bL _ (inR hO (bE _ (bz.2 ⟨r,aM hr,h⟩)))
theorem P5{args:ax eu}{r:Res}(hE:Bz E σ w c RL OL args r){q:aG}{R:jL}(hR:RL[q]? =ah R):o_ E w (lZ σ c RL OL) (Dd (500+q) R.arg).1 (Dd (500+q) R.arg).2 R.v:=by
 have hlen:∀{j:aG} {t:iI},R.cs[j]? =ah t->j<900:=by
  intro j t ht;have h0:r.rs[q]? =ah R.arg:=by rw[hE.rs,bg,hR];rfl
  have hx:IA R.arg (R.cs.map (·.aa)):=by
   unfold jL.arg;split
   ·exact .inr rfl
   ·exact .inl ⟨_,rfl⟩
  have:=hE.sm.rl q _ _ h0 hx;have h7:=(aP.1 ht).1;rw[bM]at this;omega
 have hf:∀{j:aG} {t:iI},R.cs[j]? =ah t->∀n∈t.fz,n∈RL.flatMap (·.fz)++OL.flatMap (·.ms):=λhj n hn=>bL _ (bz.2 ⟨_,aM hR,bz.2 ⟨_,aM hj,hn⟩⟩);have hnm:∀p j,dC p 0+j=dC p j:=λp j=>by unfold dC;omega
 rcases hE.rl R (aM hR)with ⟨nm,zs,vals,h1,h2,h3,h4,h5,h6⟩|⟨h1,⟨h2,t,h3,h4,h5⟩|⟨h2,vals,h3,h4,h5⟩⟩
 ·have:R.arg= .pt (R.cs.map (·.aa)):=by unfold jL.arg;rw[h1]
  rw[this];show R.v= .pointer (ah (ad ((lZ σ c RL OL).P (dC (500+q) 900)).blk 0));rw[(yC (NF hR h1)).1];exact h3
 ·have:R.arg= .v ao [t.aa]:=by unfold jL.arg;rw[h1,h2,h3];rfl
  rw[this,<-h4];have ht:R.cs[0]? =ah t:=by rw[h3];rfl
  have:=yE (OL:=OL) h5 (hf ht) (De hR ht (by omega));exact this
 ·have:R.arg= .v aj (R.cs.map (·.aa)):=by unfold jL.arg;rw[h1,h2]
  rw[this];refine⟨vals,h3,by show vals.size=(fB _ _).length;rw[gP,bM];exact h4,λj y hj=> ?_⟩
  replace hj:(fB (dC (500+q) 0) (R.cs.map (·.aa)))[j]? =ah y:=hj;rw[gA,bg]at hj;cases ht:R.cs[j]? with
  |none=>rw[ht]at hj;cases hj
  |some t=>
   rw[ht]at hj;cases hj;obtain⟨k1,k2⟩:=h5 j t ht;refine⟨t.u,k1, ?_⟩
   rw[hnm];exact yE k2 (hf ht) (De hR ht (hlen ht))
theorem zA{args:ax eu}{r:Res}{q:aG}{y:eu}{xs:ax AA}(h0:r.rs[q]? =ah y)(hx:IA y xs){v:AV}(hv:v∈fB (dC (500+q) 0) xs):iu (nS args r) v:=by
 intro m hm;obtain⟨j,hj⟩:=bQ hv;rw[gA]at hj;cases hy:xs[j]? with
 |none=>rw[hy]at hj;cases hj
 |some z=>
  rw[hy]at hj;cases hj;obtain⟨rfl,e,ex,ys,rfl⟩:=rq hm;have hn:dC (500+q) 0+j=dC (500+q) j:=by unfold dC;omega
  rw[hn];exact tt (.rr q y xs j e ex ys h0 hx hy)
theorem Sr(hok:Ok E σ w c){args:ax eu}{r:Res}(hE:Bz E σ w c RL OL args r):Ok E (nS args r) w (lZ σ c RL OL) where
 obj nm o h:=(uz hok hE (ph h)).1
 gp:=E.gp.fr hok.gp (λ_ _=>rfl) (λb hb=> .inl hb)
 sep nm o tY o' b h h' hf uI:=by
  obtain⟨s,e1,k1⟩:=(uz hok hE (ph h)).2;obtain⟨s',e1',k1'⟩:=(uz hok hE (ph h')).2;obtain⟨n,ob,h1,h2,h3⟩:=k1 b hf;obtain⟨n',ob',Hy,K_,Jw⟩:=k1' b uI;have:=hok.sep n ob n' ob' b h2 K_ h3 Jw;subst this;rw[e1,e1',Uv hE.nd h1 Hy]
 kk nm o b h hf hk:=by
  obtain⟨s,e1,k1⟩:=(uz hok hE (ph h)).2;obtain⟨n,ob,h1,h2,h3⟩:=k1 b hf;rcases hk with hk|⟨n',jC,ob',K_,Jw⟩
  ·exact hok.kk n ob b h2 h3 hk
  ·have:=hok.sep n ob n' ob' b h2 K_ h3 Jw;subst this;exact hE.ap n (PD h1) jC
 lt b hb:=by
  rcases hb with hb|⟨n,hn,ob,h1,h2⟩
  ·exact hok.lt b hb
  ·exact vq.lt hok ⟨n,ob,h1,h2⟩
 kn nm xs h v hv:=by
  have hx:=ph h;cases hx with
  |rb q xs h0=>exact zA h0 (.inr rfl) hv
  |ob p xs h0=>
   intro m hm;obtain⟨j,hj⟩:=bQ hv;rw[tJ,bG]at hj;cases hy:(r.outs.getD p [])[j]? with
   |none=>rw[hy]at hj;cases hj
   |some z=>
    rw[hy]at hj;cases hj;cases z with
    |kp ys=>
     have hm:m=dC p j:=by simpa [rE,bm]using hm
     subst hm;have sR:p<OL.length:=by rw[hE.len];exact(aP.1 h0).1
     have hO:OL[p]? =ah OL[p]:=by simp[sR]
     have hl:r.outs.getD p []=OL[p].cs.map (·.aa):=by rw[hE.outs,cM,bg,hO];rfl
     rw[hl,bg]at hy;cases ht:OL[p].cs[j]? with
     |none=>rw[ht]at hy;cases hy
     |some t=>
      rw[ht]at hy;have FA:t.aa= .kp ys:=by injection hy
      rcases hE.ol p _ _ hO h0 with ⟨_,h1,_⟩|⟨_,Iu,vs,vals,SY,_,_,_,h5⟩
      ·exact b_ rfl (h1 xs)
      ·cases SY;rcases(h5 j t ht).2 with ⟨⟨e,ex,z,AX,q1,q2,_⟩,_⟩|h
       ·rw[FA]at q2;cases q2;exact tt (.kp p _ xs j e ex z ys h0 (.inr rfl) q1 (by rw[hl,bg,ht];exact je ah FA))
       ·rcases h with ⟨_,_,_,_,q,_⟩|⟨_,_,_,q,_⟩
        ·rw[FA]at q;cases q
        ·exact b_ FA (q _)
    |ow e ex ys=>
     have hm:m=dC p (100+j):=by simpa [rE,jU,bm]using hm
     subst hm;exact tt (.nw p _ xs j e ex ys h0 (.inr rfl) hy)
    |_=>simp[rE,jU,bm]at hm
theorem KY(hok:Ok E σ w c){args:ax eu}{r:Res}(hE:Bz E σ w c RL OL args r):Grow σ c w (nS args r) (lZ σ c RL OL) w where
 os:=rfl
 tape:=rfl
 output:=rfl
 size:=bR _
 K b hb:= .inl hb
 same _ _ _:=rfl
 own b hb:=by
  obtain⟨nm,o,h,hf⟩:=hb;obtain⟨s,e1,k1⟩:=(uz hok hE (ph h)).2;obtain⟨n,ob,h1,h2,h3⟩:=k1 b hf;exact .inl ⟨n,ob,h2,h3⟩
 kn b hb:=by
  rcases hb with hb|⟨n,hn,ob,h1,h2⟩
  ·exact .inl hb
  ·exact .inr (.inl ⟨n,ob,h1,h2⟩)
theorem KZ{args:ax eu}{r:Res}(hs:Small args r)(ha:∀a∈args,lY a<=100)(hA:Q2 c0 c):∀m,inj args (cG m)≠ .iN->(lZ σ c RL OL).P m=c0.P m/\(lZ σ c RL OL).G m=c0.G m:=by
 intro m hm;have:∃ob,inj args (cG m)= .o ob:=by
  cases h:inj args (cG m)with
  |o ob=>exact⟨ob,rfl⟩
  |iN=>exact b_ h hm
  |v x=>
   obtain⟨p,a,h0,h⟩:=kq.1 (n7 h (by simp));rcases h with ⟨h,_⟩|h
   ·exact b_ h (kQ _ _)
   ·rcases gu.1 h with ⟨_,_,_,h⟩|⟨_,_,_,_,_,_,_,_,h⟩<;>cases h
 obtain⟨ob,h⟩:=this;obtain⟨p,a,h0,hh⟩:=yL h;have go:∀j,j<100\/j=900->p<500->(lZ σ c RL OL).P (dC p j)=c0.P (dC p j)/\(lZ σ c RL OL).G (dC p j)=c0.G (dC p j):=by intro j hj hp;obtain⟨e1,e2⟩:=yB (σ:=σ) (yz (c:=c) (RL:=RL) (OL:=OL) hp hj);obtain⟨g1,g2⟩:=hA (dC p j) (z7 p j);exact⟨e1.trans g1,e2.trans g2⟩
 rcases hh with ⟨xs,rfl,rfl,_⟩|⟨xs,j,e,ex,ys,hx,hj,rfl,_⟩
 ·exact go 900 (.inr rfl) (hs.a p _ xs h0 (.inr rfl))
 ·refine go j (.inl ?_) (hs.a p _ xs h0 hx);have h1:=ha a (aM h0);have h2:lY a=xs.length:=by rcases hx with ⟨g,rfl⟩|rfl<;>rfl
  have h3:=(aP.1 hj).1;omega
theorem N1{args:ax eu}{r:Res}(hE:Bz E σ w c RL OL args r):ic E w (lZ σ c RL OL) (P4 r.rs) (Ak (RL.map (·.v))):=by
 have jf:∀l:ax (aU×ax AV),l=jV 500 r.rs->ic E w (lZ σ c RL OL) (.jf l) (.tuple (RL.map (·.v)).toArray):=by
  rintro l rfl;refine⟨_,rfl,by rw[uO,hE.rs];simp,λj g xs hj=> ?_⟩
  rw[Ci,hE.rs,bg]at hj;cases hR:RL[j]? with
  |none=>rw[hR]at hj;cases hj
  |some R=>
   rw[hR]at hj;have hj:Dd (500+j) R.arg=(g,xs):=by injection hj
   have:=P5 hE hR;rw[hj]at this;exact⟨R.v,by simp[hR],this⟩
 have one:∀x R,jV 500 r.rs=[x]->RL=[R]->ic E w (lZ σ c RL OL) (qA [x]) R.v:=by
  intro x R hx hRL;have h0:RL[0]? =ah R:=by rw[hRL];rfl
  have h1:=P5 hE h0;have h2:(jV 500 r.rs)[0]? =ah (Dd (500+0) R.arg):=by rw[Ci,hE.rs,bg,h0];rfl
  rw[hx]at h2;have h2:x=Dd (500+0) R.arg:=by injection h2
  subst h2;exact h1
 have hlen:(jV 500 r.rs).length=RL.length:=by rw[uO,hE.rs];simp
 have hL:∀L,L=jV 500 r.rs->L.length=RL.length->ic E w (lZ σ c RL OL) (qA L) (Ak (RL.map (·.v))):=by
  intro L hL hlen;have jf:=jf L hL;generalize hV:RL.map (·.v)=V at jf⊢;have hlv:L.length=V.length:=by rw[hlen,<-hV];simp
  cases L with
  |nil=>
   cases V with
   |nil=>exact jf
   |cons v V=>simp at hlv
  |cons x L=>
   cases V with
   |nil=>simp at hlv
   |cons v V=>
    cases L with
    |cons y L=>
     cases V with
     |nil=>simp at hlv
     |cons v' V=>exact jf
    |nil=>
     cases V with
     |cons v' V=>simp at hlv
     |nil=>
      cases hR:RL with
      |nil=>rw[hR]at hV;cases hV
      |cons R RL'=>
       cases RL' with
       |nil=>
        have:=one x R hL.symm hR;rw[hR]at hV this;have hV:R.v=v:=by injection hV
        rw[<-hV];exact this
       |cons R' RL'=>rw[hR]at hV;simp at hV
 exact hL _ rfl hlen
end
end Go.FG

namespace Go.FG
theorem BN{α:Type}{b:aU}{x r:α}(h:(bif b then ah x else ai)=ah r):b=aj/\x=r:=by
 cases b with
 |true=>exact⟨rfl,by injection h⟩
 |false=>cases h
section
variable {P:cC} {E:eL} {σ:St} {a:Act} {w:bw} {c:dZ}
theorem YO(hE:dP P E)(hok:Ok E σ w c)(dg:eC E σ a w c){F:Func}{args:ax eu}{e:Ex}{r:Res}(h:fin E F args e σ=ah r):
  (e= .normal\/e= .ret)/\(∀x∈args,lY x<=100)/\∃RL OL,Bz E σ w c RL OL args r/\(results F a.tmps).run P w= .ok (Ak (RL.map (·.v))) w:=by
 have he:e= .normal\/e= .ret:=by
  cases e with
  |normal=>exact .inl rfl
  |ret=>exact .inr rfl
  |exit id=>cases h
 have h:(match Aj E σ 500 F.results.toList F.resultTypes.toList with
  |some (rs,tk,fz)=>match Ad E σ (tk++fz) 0 args with
   |some (outs,ns,ms)=>bif ry (tk++ns)&&pZ (tk++ns) (fz++ms)&&eG args.length 500&&(args.all λa=>eG (lY a) 100)&&(rs.all λa=>eG (lY a) 100)&&(outs.all λa=>eG a.length 100)then ah (Res.mk rs (rV outs))else ai
   |none=>ai
  |none=>ai)=ah r:=by
  rcases he with rfl|rfl<;>exact h
 split at h
 ·rename_i rs tk fz h1;split at h
  ·rename_i outs ns ms h2;obtain⟨RL,rfl,rfl,rfl,r4,r5,r6⟩:=LU hE hok dg h1;obtain⟨OL,rfl,o2,rfl,rfl,o5⟩:=LL hok h2;obtain⟨hb,rfl⟩:=BN h;simp only[aJ,bf]at hb;obtain⟨⟨⟨⟨⟨b1,b2⟩,b3⟩,b4⟩,b5⟩,b6⟩:=hb;refine⟨he,λx hx=>cf (b4 x hx),RL,OL,⟨r4,λi O x hi hx=>by have:=o5 i O x hi hx;rwa[bG]at this,o2,py b1,ny b2,⟨?_, ?_, ?_⟩,rfl,λp=>wR⟩,Gc r6⟩
   ·intro p x xs hp _;have:=(aP.1 hp).1;have:=cf b3;omega
   ·intro q x xs hq hx;have h1:=cf (b5 x (aM hq));have h2:lY x=xs.length:=by rcases hx with ⟨g,rfl⟩|rfl<;>rfl
    omega
   ·intro p;show((rV (OL.map (·.l))).getD p []).length<=100;rw[wR,cM];cases hp:(OL.map (·.l))[p]? with
    |none=>simp
    |some l=>exact cf (b6 l (aM hp))
  ·cases h
 ·cases h
end
inductive Fit:CV->Prop
 |i (k n):Fit (.i k n)
 |b (x):Fit (.b x)
 |s (x) (h:GF x):Fit (.s x)
 |l (e xs) (h:xs.length<=9223372036854775807) (hc:∀y∈xs,∀x∈y,Fit x):Fit (.l e xs)
def xG(xs:Row):Prop:=xs.length<=9223372036854775807/\∀y∈xs,∀x∈y,Fit x
def ace:AA->Prop
 | .s x=>GF x| .sh _ xs=>xG xs| .ow _ _ xs=>xG xs|_=>True
def Dn:ax AA->Prop
 |[]=>True|a::r=>ace a/\Dn r
def acf:CV->Prop
 | .s x=>GF x| .l _ xs=>xG xs|_=>True
def N6:ax CV->Prop
 |[]=>True|a::r=>acf a/\N6 r
def N5:eu->Prop
 | .v _ xs=>Dn xs| .pt xs=>Dn xs| .fb xs=>N6 xs
def uG:ax eu->Prop
 |[]=>True|a::r=>N5 a/\uG r
theorem Fit.adp{u:a7}{x:CV}(hl:sI x=ao)(h:Sc u x):Fit x:=by
 cases x with
 |i k n=>exact .i k n
 |b x=>exact .b x
 |s x=>exact .s x h.2
 |l=>simp[sI]at hl
theorem cK.fit{E:Tab}{w:bw}{K:aG->Prop}{v:a7}{x:CV}(h:cK E w K v x):Fit x:=by
 induction h with
 |i k n=>exact .i k n
 |b x=>exact .b x
 |s x h=>exact .s x h
 |nl e A c=>exact .l e [] (bC _) (λy hy=>by cases hy)
 |l e xs b o c ti U ht hc hm hK hs hcell g6 ih=>refine .l e xs (cm hc hm) (λy hy x hx=> ?_);obtain⟨i,hi⟩:=bQ hy;obtain⟨j,hj⟩:=bQ hx;exact ih i j y x hi hj
theorem Fit.row{e:aG}{xs:Row}(h:Fit (.l e xs)):xG xs:=by cases h with|l _ _ h hc=>exact⟨h,hc⟩
theorem Fit.toC{x:CV}(h:Fit x):acf x:=by
 cases x with
 |s x=>cases h with|s _ h=>exact h
 |l e xs=>exact h.row
 |_=>trivial
theorem w9{w:bw}{p:Pl}{xs:Row}{R:aG->aG->a7->CV->Prop}(h:ij w p xs R){i j:aG}{y:ax CV}{x:CV}(hi:xs[i]? =ah y)(hj:y[j]? =ah x):∃u:a7,R i j u x:=by
 cases hn:p.nil with
 |true=>rw[(h.nil hn).1]at hi;simp at hi
 |false=>obtain⟨vals,_,_,_,_,hc⟩:=h.mem hn;obtain⟨u,_,hr⟩:=hc i y j x hi hj;exact⟨u,hr⟩
theorem IV.fit{E:Tab}{w:bw}{c:dZ}{nm e:aG}{ex:aU}{xs:Row}(h:IV E w c nm e ex xs):xG xs:=by
 refine⟨se h.at_,λy hy x hx=> ?_⟩
 obtain⟨i,hi⟩:=bQ hy;obtain⟨j,hj⟩:=bQ hx;obtain⟨u,hr⟩:=w9 h.at_ hi hj;split at hr
 ·cases x with
  |i k n=>exact .i k n
  |b x=>exact .b x
  |s x=>exact .s x (show Sc u (.s x)from hr).2
  |l e2 ys=>obtain⟨_,ti,_,hp,_,jI,fN⟩:=hr;refine .l e2 ys (se fN) (λy2 hy2 x2 Rm=> ?_);obtain⟨i2,Bj⟩:=bQ hy2;obtain⟨j2,Rj⟩:=bQ Rm;obtain⟨u2,hr2⟩:=w9 fN Bj Rj;exact Fit.adp (g9 hp (jI y2 hy2) Rj) hr2
 ·exact cK.fit hr
theorem BW{T:Tab}{w:bw}{c:dZ}{xs:ax AA}{nm:aG}(acP:∀(j e:aG) (ex:aU) (ys:Row),xs[j]? =ah (AA.ow e ex ys)->xG ys)(h:∀(j:aG) (x:AA),xs[j]? =ah x->∃v,dN T w c (jU (nm+j) x) v):Dn xs:=by
 induction xs generalizing nm with
 |nil=>trivial
 |cons x xs ih=>
  refine⟨?_,ih (nm:=nm+1) (λj e ex ys hj=>acP (j+1) e ex ys hj) (λj y hj=> ?_)⟩
  ·obtain⟨v,hv⟩:=h 0 x rfl;cases x with
   |s x=>exact hv.2
   |sh e ys=>exact(cK.fit hv).row
   |ow e ex ys=>exact acP 0 e ex ys rfl
   |_=>trivial
  ·have:=h (j+1) y hj;rw[show nm+1+j=nm+(j+1)by omega];exact this
def wE(args:ax eu):aU:=eG args.length 500&&args.all λa=>eG (lY a) 100
theorem S3{args:ax eu}(hs:wE args=aj){p j e:aG}{x:eu}{xs:ax AA}{ex:aU}{ys:Row}(h0:args[p]? =ah x)(hx:(∃g,x= .v g xs)\/x= .pt xs)(hj:xs[j]? =ah (AA.ow e ex ys)):inj args (cG (dC p j))= .o (.row e ex ys):=by
 simp only[wE,aJ,bf]at hs;have len:∀(x:eu) (xs:ax AA) (j:aG) (y:AA),x∈args->((∃g,x= .v g xs)\/x= .pt xs)->xs[j]? =ah y->j<100:=by
  intro x xs j y hm hx hj;have h1:=cf (hs.2 x hm);have h2:lY x=xs.length:=by rcases hx with ⟨g,rfl⟩|rfl<;>rfl
  have h3:=(aP.1 hj).1;omega
 have jB:=len x xs j _ (aM h0) hx hj;refine wG (kq.2 ⟨p,x,h0, .inr (gu.2 (.inr ⟨xs,j,e,ex,ys,hx,hj,by rw[bG],rfl⟩))⟩) (λc' Fp=> ?_);obtain⟨p',a',Re,hh⟩:=kq.1 Fp;rw[bG]at hh;rcases hh with ⟨h,_⟩|hh
 ·exact b_ h (kQ _ _)
 ·rcases gu.1 hh with ⟨zs,_,h,_⟩|⟨zs,j',e',rW,AX,nX,Dy,h,rfl⟩
  ·have:=sb (by omega) (by omega) (jk h);omega
  ·have arX:=len a' zs j' _ (aM Re) nX Dy;obtain⟨rfl,rfl⟩:=sb (by omega) (by omega) (jk h);rw[h0]at Re;cases Re;have:xs=zs:=by rcases hx with ⟨g,rfl⟩|rfl<;>rcases nX with ⟨g',nX⟩|nX<;>cases nX<;>rfl
   subst this;rw[hj]at Dy;cases Dy;rfl
theorem Hq{T:Tab}{w:bw}{c:dZ}:∀{cs:ax CV},(∀(q:aG) (x:CV),cs[q]? =ah x->Fit x)->N6 cs:=by
 intro cs;induction cs with
 |nil=>intro _;trivial
 |cons x cs ih=>intro h;exact⟨(h 0 x rfl).toC,ih (λq y hq=>h (q+1) y hq)⟩
theorem N7{T:Tab}{w:bw}{c:dZ}{args:ax eu}(hs:wE args=aj)(hok:Ok T (inj args) w c)(h:∀(p:aG) (x:eu),args[p]? =ah x->∃v,ic T w c (qy p x) v):uG args:=by
 have one:∀(p:aG) (x:eu),args[p]? =ah x->N5 x:=by
  intro p x h0;have rows:∀xs,((∃g,x= .v g xs)\/x= .pt xs)->∀(j e:aG) (ex:aU) (ys:Row),xs[j]? =ah (AA.ow e ex ys)->xG ys:=λxs hx j e ex ys hj=>IV.fit (hok.obj _ _ (S3 hs h0 hx hj));obtain⟨v,hv⟩:=h p x h0;cases x with
  |v g xs=>
   refine BW (T:=T) (w:=w) (c:=c) (nm:=dC p 0) (rows xs (.inl ⟨g,rfl⟩)) (λj y hj=> ?_);replace hv:o_ T w c g (fB (dC p 0) xs) v:=hv;have Dy:(fB (dC p 0) xs)[j]? =ah (jU (dC p 0+j) y):=by rw[gA,hj];rfl
   unfold o_ at hv;split at hv
   ·rename_i a he;rw[he]at Dy;cases j with
    |zero=>cases Dy;exact⟨v,hv⟩
    |succ j=>simp at Dy
   ·obtain⟨vals,_,_,hv⟩:=hv;obtain⟨u,_,hu⟩:=hv j _ Dy;exact⟨u,hu⟩
   ·exact hv.elim
  |pt xs=>
   have ajD:inj args (cG (dC p 900))= .o (.box (fB (dC p 0) xs)):=by
    refine wG (kq.2 ⟨p,_,h0, .inr (gu.2 (.inl ⟨xs,rfl,by rw[bG],by rw[bG]⟩))⟩) (λc' Fp=> ?_);obtain⟨p',a',Re,hh⟩:=kq.1 Fp;rw[bG]at hh;rcases hh with ⟨h,_⟩|hh
    ·exact b_ h (kQ _ _)
    ·rcases gu.1 hh with ⟨zs,hx,h,rfl⟩|⟨zs,j',e',rW,AX,nX,Dy,h,rfl⟩
     ·obtain⟨rfl,_⟩:=sb (by omega) (by omega) (jk h);rw[h0]at Re;cases Re;cases hx;rfl
     ·exfalso;simp only[wE,aJ,bf]at hs;have h1:=cf (hs.2 a' (aM Re));have h2:lY a'=zs.length:=by rcases nX with ⟨g,rfl⟩|rfl<;>rfl
      have h3:=(aP.1 Dy).1;have:=sb (by omega) (by omega) (jk h);omega
   obtain⟨vals,_,_,hc⟩:=hok.obj _ _ ajD;refine BW (T:=T) (w:=w) (c:=c) (nm:=dC p 0) (rows xs (.inr rfl)) (λj y hj=> ?_);obtain⟨u,_,hu⟩:=hc j (jU (dC p 0+j) y) (by rw[gA,hj];rfl);exact⟨u,hu⟩
  |fb xs=>
   obtain⟨b,_,_,hf⟩:∃b,v= .pointer (ah (ad b 0))/\c.K b/\∀(q:aG) (x:CV),xs[q]? =ah x->∃u:a7,w.cell? (ad b q)=ah u/\cK T w c.K u x:=by obtain⟨b,h1,h2,h3⟩:=hv;exact⟨b,h1,h2,h3⟩
   exact Hq (T:=T) (w:=w) (c:=c) (λq x hq=>by obtain⟨u,_,hu⟩:=hf q x hq;exact hu.fit)
 clear h hok hs;induction args with
 |nil=>trivial
 |cons x args ih=>exact⟨one 0 x rfl,ih (λp y hp=>one (p+1) y hp)⟩
theorem YP{P:cC}{E:eL}(hE:dP P E)(hF:∀g,FnOk P E g (E.call g))(hm:P.follows .mixedOrders=aj){g:aG}{F:Func}{code:Code}(hf:P.funcs[g]? =ah F)(hb:F.body=ah code)
  (hc:((F.name== "runtime.NumGoroutine")|| !qY F.ntmps code)=ao) {spec:ax eu->aA (aU×Res)} (hs:∀args r,spec args=ah (aj,r)->wE args=aj/\(uG args->args.length<=F.ntmps/\∃(R:Type) (it:It R) (K:Ex->St->aA R) (q:R),(∀c∈iV code,c5 E it c)/\q_ E it code (inj args) K=ah q/\∀e σ,K e σ=ah q->fin E F args e σ=ah r)):FnOk P E g spec:=by
 intro args r hr w c1 vs hok hsz hvs;obtain⟨VB,hs⟩:=hs args r hr;obtain⟨hlen,R,it,K,q,zN,acj,ajP⟩:=hs (N7 VB hok (λp x hp=>(hvs p x hp).imp λ_ h=>h.2));simp only[gD,vx]at hc;refine⟨⟨F,hf,by rw[hb];rfl,hc.1⟩, ?_⟩
 refine calls_of_wp hf hb ?_;refine YJ (N:=F.ntmps) (σ0:=inj args) (c0:=c1) (w0:=w) hE hF hm code zN (inj args) K _ acj hc.2 (λe σ' a' w' c' hk fN=> ?_) _ w c1 ⟨hok,⟨λn=> ?_,FE,rfl⟩, ?_,Grow.refl _ _ _,Q2.refl _⟩
 ·obtain⟨he,ha,RL,OL,SD,Oq⟩:=YO hE fN.ok fN.sl (ajP _ _ hk)
  have akm:IU E args r c1 w (Ak (RL.map (·.v))) w':=
   ⟨lZ σ' c' RL OL,Sr fN.ok SD,fN.gr.trans (KY fN.ok SD),KZ SD.sm ha fN.ag,N1 SD⟩
  rcases he with rfl|rfl<;>exact⟨fN.sl.df,_,Oq,akm⟩
 ·rcases FF (args:=args) (n:=n)with ⟨x,h0,h⟩|h
  ·rw[h];obtain⟨v,hv,tW⟩:=hvs n x h0;have:(Act.mk (vs++xY (F.ntmps-vs.size) undef) []).eval (.tmp n)=v:=by show(vs++xY (F.ntmps-vs.size) undef).getD n undef=v;have hn:=(c8.1 hv).1;rw[dc,Array.getElem?_append,ba hn,hv];rfl
   rw[this];exact tW
  ·rw[h];trivial
 ·simp;omega
theorem K5{P:cC}{T:Tab}{g:aG}{spec:ax eu->aA (aU×Res)}(h:∀args,spec args=ai):FnOk P T g spec:=λargs r hr=>by rw[h]at hr;cases hr
end Go.FG

namespace Go.FG
structure ou where
 t:aG
 ti:TI
 fs:ax (aG×aG)
def xW:ax ou->aG->aA TI
 |[],_=>ai
 |r::rs,t=>bif bA t r.t then ah r.ti else xW rs t
def Bi:ax ou->aG->aG->aA (aG×aG)
 |[],_,_=>ai
 |r::rs,t,f=>bif bA t r.t then(bif r.ti.agg then r.fs[f]? else ai)else Bi rs t f
def QM(rows:ax ou)(eqs:ax aG):Tab:={ty:=xW rows,fo:=Bi rows,eqs:=eqs}
def zB:Ck->a7->aU
 | .i k, .int k' n=>decide (k'=k)&&decide (n=0)
 | .b, .bool x=> !x
 | .s, .string x=>decide (x.size=0)
 | .l _, .slice ai 0 0=>aj
 | .o, .nilIface=>aj
 |_,_=>ao
def zsB:ax Ck->ax a7->aU
 |[],[]=>aj
 |k::ks,v::vs=>zB k v&&zsB ks vs
 |_,_=>ao
def isAgg:a7->aU| .agg _=>aj|_=>ao
def uE(P:cC)(n:aG):ax Field->ax (aG×aG)->aU
 |[],[]=>aj
 |f::r,(o,m)::l=>bA f.offset o&&(match P.info? f.type with|some i=>bA i.size m|none=>ao)&&o9 0 m&&eG (o+m) n&&uE P n r l
 |_,_=>ao
def tF:TypeDesc->aU| .struct _=>ao| .array _ _=>ao|_=>aj
def Un(P:cC)(r:ou):aU:=
 match P.info? r.t,P.underlying r.t with
 |some inf,ah d=>bA inf.size r.ti.ks.length&&bA inf.bytes r.ti.bytes&&o9 0 r.ti.ks.length&&
  (bif JO r.ti.ks then(match inf.zero with|some z=>zsB r.ti.ks z.cells.toList&&(!r.ti.agg||isAgg z)|none=>ao)else aj)&&
  (match d with
  | .struct fs=>r.ti.agg&&uE P r.ti.ks.length fs.toList r.fs
  | .int k=> !r.ti.agg&&oS r.ti.ks [.i k]
  | .bool=> !r.ti.agg&&oS r.ti.ks [.b]
  | .string=> !r.ti.agg&&oS r.ti.ks [.s]
  | .slice e=> !r.ti.agg&&oS r.ti.ks [.l e]
  |d=> !r.ti.agg&&oS r.ti.ks [.o]&&tF d)
 |_,_=>ao
theorem afS{k:Ck}{v:a7}(h:zB k v=aj):v=gF k:=by
 cases k<;>cases v<;>simp_all [zB,gF]
 ·rfl
 ·rename_i a n c;cases a<;>cases n<;>cases c<;>simp_all
theorem Q1:∀{ks:ax Ck} {vs:ax a7},zsB ks vs=aj->vs=ks.map gF
 |[],[],_=>rfl
 |k::ks,v::vs,h=>by
  simp only[zsB,aJ]at h;rw[afS h.1,Q1 h.2];rfl
 |[],_::_,h=>by cases h
 |_::_,[],h=>by cases h
theorem YD:∀{x y:Ck},ckB x y=aj->x=y:=by intro x y h;cases x<;>cases y<;>simp_all [ckB]
theorem mA:∀{a b:ax Ck},oS a b=aj->a=b
 |[],[],_=>rfl
 |x::a,y::b,h=>by
  simp only[oS,aJ]at h;rw[YD h.1,mA h.2]
 |[],_::_,h=>by cases h
 |_::_,[],h=>by cases h
theorem tu{P:cC}{n:aG}:∀{fs:ax Field} {l:ax (aG×aG)},uE P n fs l=aj->
  fs.mapM (λf=>(P.info? f.type).map λi=>(f.offset,i.size))=ah l/\∀(f o m:aG),l[f]? =ah (o,m)->∃fd,fs[f]? =ah fd/\fd.offset=o/\(P.info? fd.type).map (·.size)=ah m/\m≠0/\o+m<=n
 |[],[],_=>⟨rfl,λf o m h=>by simp at h⟩
 |f::r,(o,m)::l,h=>by
  simp only[uE,aJ]at h;obtain⟨⟨⟨⟨h1,h2⟩,h3⟩,h4⟩,h5⟩:=h;obtain⟨i1,i2⟩:=tu h5;have e1:=aN h1;cases hi:P.info? f.type with
  |none=>rw[hi]at h2;cases h2
  |some i=>
   rw[hi]at h2;have e2:i.size=m:=aN h2;have e3:0<m:=by simpa [xJ]using h3
   have e4:=cf h4;refine⟨by simp[RR,hi,i1,e1,e2],λg o' m' hg=> ?_⟩
   cases g with
   |zero=>cases hg;exact⟨f,rfl,e1,by rw[hi];exact je ah e2,by omega,e4⟩
   |succ g=>exact i2 g o' m' hg
 |[],_::_,h=>by cases h
 |_::_,[],h=>by cases h
theorem Gm:∀{rows:ax ou} {t:aG} {ti:TI},xW rows t=ah ti->∃r∈rows,r.t=t/\r.ti=ti/\∀f,Bi rows t f=(bif r.ti.agg then r.fs[f]? else ai)
 |[],_,_,h=>by cases h
 |r::rs,t,ti,h=>by
  unfold xW at h;cases hb:bA t r.t with
  |true=>rw[hb]at h;cases h;exact⟨r,cw ..,(aN hb).symm,rfl,λf=>by simp[Bi,hb]⟩
  |false=>rw[hb]at h;obtain⟨r',h1,h2,h3,h4⟩:=Gm (rows:=rs) h;exact⟨r',cg _ h1,h2,h3,λf=>by unfold Bi;rw[hb];exact h4 f⟩
theorem Jq:∀{rows:ax ou} {t f:aG} {o n:aG},Bi rows t f=ah (o,n)->∃ti,xW rows t=ah ti/\ti.agg=aj
 |[],_,_,_,_,h=>by cases h
 |r::rs,t,f,o,n,h=>by
  unfold Bi at h;unfold xW;cases hb:bA t r.t with
  |true=>
   rw[hb]at h;refine⟨r.ti,rfl, ?_⟩
   cases ha:r.ti.agg with
   |true=>rfl
   |false=>rw[ha]at h;cases h
  |false=>rw[hb]at h;exact Jq (rows:=rs) h
def DS(P:cC):aG->ax Ck->ax Field->aU
 |_,[],[]=>aj
 |j,k::ks,f::fs=>f.name != "_" &&bA f.offset j&&(match P.underlying f.type,k with|some (.int q), .i q'=>decide (q=q')|some .bool, .b=>aj|some .string, .s=>aj|_,_=>ao)&&DS P (j+1) ks fs
 |_,_,_=>ao
def Vm(P:cC)(rows:ax ou)(t:aG):aU:=
 !P.eqGuardType P.depth t&& !P.stoodInHeld t&&(match xW rows t,P.underlying t with|some ti,ah (.struct fs)=>DS P 0 ti.ks fs.toList|_,_=>ao)
theorem u7{P:cC}{t:aG}{d:TypeDesc}(hd:P.underlying t=ah d)(hp:tF d=aj){cs:cX a7}{j:aG}{v:a7}(hj:cs[j]? =ah v)(w:bw):(part t cs j).run P w= .ok v w:=by cases d<;>simp_all [part,Go.isAgg,run_underlying hd,tF]
theorem wS{P:cC}(w:bw):∀(fs:ax Field) (ks:ax Ck) (pre H6 xs ys:ax AV) (r:aU),DS P pre.length ks fs=aj->H6.length=pre.length->xs.map DE=ks->ys.map DE=ks->Sq xs ys=ah r->
  (KG 9999 ((pre++xs).map kB).toArray ((H6++ys).map kB).toArray fs).run P w= .ok r w
 |[],[],pre,H6,xs,ys,r,_,_,hx,hy,he=>by
  have:xs=[]:=by simpa using hx
  subst this;have:ys=[]:=by simpa using hy
  subst this;cases he;rfl
 |f::fs,k::ks,pre,H6,x::xs,y::ys,r,h,hl,hx,hy,he=>by
  simp only[DS,aJ]at h;obtain⟨⟨⟨h1,h2⟩,h3⟩,h4⟩:=h;have h2:=aN h2;have h1:f.name≠ "_" :=by simpa using h1
  simp only[eF,Va]at hx hy;have gx:((pre++x::xs).map kB).toArray[f.offset]? =ah (kB x):=by rw[h2];simp
  have gy:((H6++y::ys).map kB).toArray[f.offset]? =ah (kB y):=by rw[h2,<-hl];simp
  have ih:=λr' he'=>wS w fs ks (pre++[x]) (H6++[y]) xs ys r' (by simpa using h4) (by simp[hl]) hx.2 hy.2 he';simp only[bY,sC]at ih
  have fin:∀{d:TypeDesc} {a b:a7} {q t:aU},P.underlying f.type=ah d->tF d=aj->kB x=a->kB y=b->(Op.equalIn 9999 f.type a b).run P w= .ok q w->Sq xs ys=ah t->r=(q&&t)->
    (KG 9999 ((pre++x::xs).map kB).toArray ((H6++y::ys).map kB).toArray (f::fs)).run P w= .ok r w:=by
   intro d a b q t hd hp ha hb hq ht hr
   subst ha;subst hb;subst hr
   simp only[KG,ba h1,bV,u7 hd hp gx w,u7 hd hp gy w,bk,hq,lO]
   cases q with
   |false=>rfl
   |true=>simpa using ih t ht
  cases hu:P.underlying f.type with
  |none=>rw[hu]at h3;cases h3
  |some d=>
   rw[hu]at h3;cases x<;>cases y<;>simp only[Sq]at he<;>try (cases he;done)
   ·rename_i k1 n1 k2 n2;split at he
    ·rename_i SJ;subst SJ;split at he
     ·rename_i t ht;cases he;have hk:k= .i k1:=hx.1.symm;subst hk;cases d<;>simp at h3;subst h3;exact fin hu rfl rfl rfl (run_equalIn_int w 9998 f.type _ _ _ _ hu) ht rfl
     ·cases he
    ·cases he
   ·split at he
    ·rename_i t ht;cases he;have hk:k= .b:=hx.1.symm;subst hk;cases d<;>simp at h3;exact fin hu rfl rfl rfl (run_equalIn_bool' w 9998 f.type _ _ hu) ht rfl
    ·cases he
   ·split at he
    ·rename_i t ht;cases he;have hk:k= .s:=hx.1.symm;subst hk;cases d<;>simp at h3;exact fin hu rfl rfl rfl (run_equalIn_string w 9998 f.type _ _ hu) ht rfl
    ·cases he
 |[],_::_,_,_,_,_,_,h,_,_,_,_=>by cases h
 |_::_,[],_,_,_,_,_,h,_,_,_,_=>by cases h
 |_::_,_::_,_,_,[],_,_,_,_,hx,_,_=>by cases hx
 |_::_,_::_,_,_,_::_,[],_,_,_,_,hy,_=>by cases hy
theorem YI{P:cC}{rows:ax ou}{eqs:ax aG}(h:rows.all (Un P)=aj)(h2:eqs.all (Vm P rows)=aj):dP P (QM rows eqs):=by
 have key:∀t ti,xW rows t=ah ti->∃r,r.t=t/\r.ti=ti/\Un P r=aj/\∀f,Bi rows t f=(bif r.ti.agg then r.fs[f]? else ai):=λt ti ht=>by obtain⟨r,h1,h2,h3,h4⟩:=Gm ht;exact⟨r,h2,h3,bf.1 h r h1,h4⟩
 have open_:∀r,Un P r=aj->∃inf d,P.info? r.t=ah inf/\P.underlying r.t=ah d/\inf.size=r.ti.ks.length/\inf.bytes=r.ti.bytes/\0<r.ti.ks.length/\
   (JO r.ti.ks=aj->∃z,inf.zero=ah z/\z.cells.toList=r.ti.ks.map gF/\(r.ti.agg=aj->isAgg z=aj))/\
   ((∃fs,d= .struct fs/\r.ti.agg=aj/\uE P r.ti.ks.length fs.toList r.fs=aj)\/(r.ti.agg=ao/\((∃k,r.ti.ks=[.i k]/\d= .int k)\/(r.ti.ks=[.b]/\d= .bool)\/(r.ti.ks=[.s]/\d= .string)\/(∃e,r.ti.ks=[.l e]/\d= .slice e)\/(r.ti.ks=[.o]/\tF d=aj)))):=by
  intro r hr
  unfold Un at hr
  split at hr
  ·rename_i inf d h1 h2;simp only[aJ]at hr;obtain⟨⟨⟨⟨k1,k2⟩,k3⟩,k4⟩,k5⟩:=hr;refine⟨inf,d,h1,h2,aN k1,aN k2,by simpa [xJ]using k3,λhn=> ?_, ?_⟩
   ·rw[hn,aw]at k4;split at k4
    ·rename_i z hz;simp only[aJ,dq,dA]at k4;exact⟨z,hz,Q1 k4.1,λha=>by rcases k4.2 with h|h;(·rw[ha]at h;cases h);exact h⟩
    ·cases k4
   ·cases d<;>simp only[aJ,dA]at k5;case struct fs=>exact .inl ⟨fs,rfl,k5⟩
    case int k=>exact .inr ⟨k5.1, .inl ⟨k,mA k5.2,rfl⟩⟩
    case bool=>exact .inr ⟨k5.1, .inr (.inl ⟨mA k5.2,rfl⟩)⟩
    case string=>exact .inr ⟨k5.1, .inr (.inr (.inl ⟨mA k5.2,rfl⟩))⟩
    case slice e=>exact .inr ⟨k5.1, .inr (.inr (.inr (.inl ⟨e,mA k5.2,rfl⟩)))⟩
    all_goals exact .inr ⟨k5.1.1, .inr (.inr (.inr (.inr ⟨mA k5.1.2,k5.2⟩)))⟩
  ·cases hr
 refine⟨λt ti ht=> ?_,λt ti ht=> ?_,λt f o n hf=>Jq hf,λt ti ht ha fs hu=> ?_,λt ti he ht w x y xs ys r hr hx hy=> ?_,λ_ _ h=>by cases h⟩
 ·obtain⟨r,rfl,rfl,hr,_⟩:=key t ti ht;obtain⟨inf,d,h1,h2,h3,h4,h5,h6,h7⟩:=open_ r hr;refine⟨inf,h1,h3,h4,h5,λhn=> ?_⟩
  obtain⟨z,z1,z2,z3⟩:=h6 hn;have hc:z.cells=(r.ti.ks.map gF).toArray:=by rw[<-z2]
  refine⟨z,z1,hc,λha=> ?_⟩
  have:=z3 ha;cases z<;>simp[isAgg]at this;rw[show _=_ from hc.symm];rfl
 ·obtain⟨r,rfl,rfl,hr,Ej⟩:=key t ti ht;obtain⟨inf,d,h1,h2,h3,h4,h5,h6,h7⟩:=open_ r hr;refine⟨d,h2,λha=> ?_,λha=> ?_⟩
  ·rcases h7 with ⟨fs,rfl,_,hb⟩|⟨hn,_⟩
   ·refine⟨fs,rfl,λf o n hf=> ?_⟩
    have hf:Bi rows r.t f=ah (o,n):=hf;rw[Ej,ha]at hf;obtain⟨fd,k1,k2⟩:=(tu hb).2 f o n hf;exact⟨fd,by simpa using k1,k2⟩
   ·rw[ha]at hn;cases hn
  ·rcases h7 with ⟨fs,_,hn,_⟩|⟨_,h|h|h|h|⟨h,hb⟩⟩
   ·rw[ha]at hn;cases hn
   ·exact .inl h
   ·exact .inr (.inl h)
   ·exact .inr (.inr (.inl h))
   ·exact .inr (.inr (.inr (.inl h)))
   ·refine .inr (.inr (.inr (.inr ⟨h, ?_⟩)));cases d<;>first|rfl|cases hb
 ·obtain⟨r,rfl,rfl,hr,Ej⟩:=key t ti ht;obtain⟨inf,d,h1,h2,h3,h4,h5,h6,h7⟩:=open_ r hr;rw[h2]at hu;cases hu;rcases h7 with ⟨fs',he,_,hb⟩|⟨hn,_⟩
  ·cases he;refine⟨r.fs,(tu hb).1,λf o n hf=> ?_⟩
   have hf:Bi rows r.t f=ah (o,n):=hf;rw[Ej,ha]at hf;exact hf
  ·rw[ha]at hn;cases hn
 ·have hm:t∈eqs:=by
   have:∀l:ax aG,ld t l=aj->t∈l:=by
    intro l;induction l with
    |nil=>intro h;cases h
    |cons a l ih=>
     intro h;simp only[ld,dq]at h;rcases h with h|h
     ·rw[aN h];exact cw
     ·exact cg _ (ih h)
   exact this _ he
  have hb:=bf.1 h2 t hm;simp only[Vm,aJ,dA]at hb;obtain⟨⟨b1,b2⟩,b3⟩:=hb;rw[show xW rows t=ah ti from ht]at b3;cases hu:P.underlying t with
  |none=>rw[hu]at b3;cases b3
  |some d=>
   rw[hu]at b3;cases d<;>try (cases b3;done)
   rename_i fs;have Ej:P.fieldsOf t=fs:=by unfold Program.fieldsOf;rw[hu]
   have qx:P.underlying t=ah (.struct (P.fieldsOf t)):=by rw[Ej];exact hu
   have key:(Op.equalIn 10000 t (.agg (xs.map kB).toArray) (.agg (ys.map kB).toArray)).run P w= .ok r w:=by rw[run_equalIn_agg w 9999 t _ _ qx b2,Ej];exact wS w fs.toList ti.ks [] [] xs ys r b3 rfl hx hy hr
   refine⟨?_, ?_⟩
   ·simp only[bV,run_eqGuard_agg w .eql t x y _ _ b1,bk,run_eql_struct,key]
   ·simp only[bV,run_eqGuard_agg w .neq t x y _ _ b1,bk,run_neq_struct,key]
def ae9(rows:ax ou)(eqs:ax aG)(N8:ax (aG×aG)):Tab:={QM rows eqs with N8:=λt f=>N8.any λp=>bA t p.1&&bA f p.2}
def flB(P:cC)(p:aG×aG):aU:=
 match P.underlying p.1 with
 |some (.struct fs)=>(match fs[p.2]? with|some fd=>(match P.underlying fd.type with|some d=>tF d|none=>ao)|none=>ao)
 |_=>ao
theorem Yk{P:cC}{t:aG}{d:TypeDesc}(h:P.underlying t=ah d)(hb:tF d=aj)(w:bw):(Go.isAgg t).run P w= .ok ao w:=by unfold Go.isAgg;rw[bV,run_underlying h,bk];cases d<;>first|rfl|cases hb
theorem Sm{P:cC}{rows:ax ou}{eqs:ax aG}{N8:ax (aG×aG)}(h:dP P (QM rows eqs))(hf:N8.all (flB P)=aj):dP P (ae9 rows eqs N8):=by
 refine⟨h.info,h.desc,h.fo,h.pl,h.eq,λt f hq fs fd hu hd w=> ?_⟩
 obtain⟨p,hp,he⟩:=List.any_eq_true.1 (show(N8.any λp=>bA t p.1&&bA f p.2)=aj from hq);rw[aJ]at he;have hb:=bf.1 hf p hp;unfold flB at hb;rw[<-aN he.1,<-aN he.2,hu]at hb;dsimp only at hb;rw[hd]at hb;dsimp only at hb;split at hb
 ·rename_i d h2;exact Yk h2 hb w
 ·cases hb
end Go.FG

