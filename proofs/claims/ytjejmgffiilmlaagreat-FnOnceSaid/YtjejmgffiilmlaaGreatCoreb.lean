/- An evaluator for the part of the language that this program uses, proved sound over the model: states told as values and lists; what an evaluation tells, the call does. No condition. -/
import Derived.Calls
import Derived.Orders
import Derived.Below
import Derived.Laws.AppendOwn
import Derived.Laws.Slices
import Derived.Laws.StructEq
import Derived.Laws.Tables
import Derived.Laws.MakeOwn
import Derived.Laws.IdiomStrings
import Derived.Laws.BytesArg
import Derived.Laws.NewFold
import Derived.SizedLaws
import Derived.Carry
import Derived.ProofKit
import Derived.KernelRfl
import Derived.Laws.Strings
import Derived.Test.YtjejmgffiilmlaaGreatCorea
set_option linter.unusedVariables false
set_option linter.unusedSimpArgs false
set_option maxRecDepth 100000
open Array renaming ext'->rE,length_toList->dN,getElem?_toList->cQ,getElem?_eq_some_iff->dQ,getElem?_extract->dW,getElem?_map->Mt,getElem?_append_left->CL,toList_map->yZ,eq_empty_of_size_eq_zero->yY,getD_eq_getD_getElem?->er,getElem?_replicate->CM,replicate->zt
open Bool renaming false->aq,true->ak,or_true->Ip,and_eq_true->aK,and_true->pc,false_eq_true->dp,not_eq_true'->dG,not_eq_false'->mb,or_eq_true->dH,and_false->Gd,not_false->bX,true_or->y_,or_eq_false_iff->ij
open Go renaming World->bF,Value->bg,Program->cR,Oper->e8,IntKind->mH,Operand->dr
open Go.Act renaming put->Tx
open Go.Builtin renaming firstCells->e7,lenOf->oU,append_->g8,zeroCells->fw
open Go.Exit renaming inBlock->Gh
open Go.Instr renaming makeFunc->Ty,loadAt->wN,sureAddr->tD
open Go.IntKind renaming u8->bk
open Go.Op renaming eqFields->Mu
open Go.Oper renaming wp->Mv,upon_enter->Tz
open Go.Region renaming wanted->tZ,binds->me,ready->vh
open Go.Result renaming andThen_ok->bB
open Go.Sem renaming run_bind->cg,run_pure->cM,run->mI,run_ite->mD
open List renaming mem_of_getElem?->aQ,map_append->dm,map_cons->e9,map_nil->Ao,mem_append->a_,mem_map->cJ,mem_singleton->aZ,mem_append_left->bO,mem_append_right->bI,getElem?_append_left->dj,getElem?_append_right->c6,length_append->bP,eq_nil_of_length_eq_zero->fV,length_map->bQ,getElem?_eq_some_iff->aU,mem_cons->cz,getElem?_of_mem->bZ,getElem_mem->bD,map_toArray->Ca,mem_cons_self->dy,mem_cons_of_mem->cW,not_mem_nil->jC,getElem?_cons_succ->dI,mem_flatMap->bG,length_eq_one_iff->gF,getElem?_cons_zero->rF,flatMap_cons->wO,nodup_append->ea,getElem?_map->bE,nodup_cons->j6,getD_eq_getElem?_getD->cL,nil_append->gk,all_eq_true->bn,map_map->jW,append_nil->dn,cons_append->Al,length_singleton->bw,range'->lI,length_cons->c7,getElem?_eq_none->kC,append_assoc->cj,take_append_of_le_length->nS,take_length->fH,singleton_append->tH,length_nil->ju,getElem?_take->dV,countP_cons->kW,range->cO,range_eq_range'->PH,find?_eq_none->p8,length_set->cw,mem_or_eq_of_mem_set->gV,mem_filter->du,mapM_cons->Ug,getD_cons_succ->uA
open List.cons renaming injEq->XM
open Nat renaming lt_of_lt_of_le->jd,mul_le_mul_right->b7,add_mul->dc,add_assoc->lB,eq_of_beq_eq_true->aX,le_refl->cu,zero_le->bL,div_lt_iff_lt_mul->wA,mod_lt->BV,div_add_mod->H9,mul_comm->CS,zero_add->bT,add_comm->iL,beq->bA,le_of_ble_eq_true->cC,add_zero->wP,blt->pX,blt_eq->zc,sub_self->wQ,lt_or_ge->qt,le_trans->db,ble_eq_true_of_le->Iy,ble->fj,sub_zero->uD
open Option renaming some->aj,getD_some->wR,none->ao
open Option.some renaming inj->aF,injEq->jh
open Prod.mk renaming inj->bU,injEq->iT
open _root_ renaming Nat->aG,Bool->aY,List->aA,if_pos->bC,if_neg->bM,absurd->cq,Array->di,Int->az,decide_eq_true_eq->bf,Option->aC,cond_true->ay,cond_false->aD,decide_eq_true->aJ,decide_eq_false->aM,of_decide_eq_true->b9,congrArg->mi
namespace Go.FG
theorem pA{E:fF}{w:bF}{K:aG->Prop}{p:Pl}{xs:aW}{el:aG}{te:TI}(ht:E.ty el=aj te)(hs:p.sz=te.ks.length)(ma:∀y∈xs,y.map CV.kd=te.ks)
  (h:iV w p xs (λ_ _ u x=>cZ E w K u x)) (hK:p.nil=aq->K p.blk):cZ E w K (lh p) (.l el xs):=by
 cases hq:p.nil with
 |true=>rw[mU hq,(h.nil hq).1];exact .nl _ _ _
 |false=>
  rw[eP hq,h.n];obtain⟨vals,hb,QC,hmx,_,hc⟩:=h.mem hq;have G7:=λi y j x (h1:xs[i]? =aj y) (h2:y[j]? =aj x)=>hc i y j x h1 h2;refine .l el xs p.blk p.off p.cap te (λi j=>(vals[p.off+i*p.sz+j]?).getD undef) ht (by rw[<-h.n];exact QC) hmx (hK hq) ma (λi j y x h1 h2=> ?_) (λi j y x h1 h2=> ?_)
  ·obtain⟨u,hu,_⟩:=G7 i y j x h1 h2;rw[hb.cell,<-hs,hu];rfl
  ·obtain⟨u,hu,hr⟩:=G7 i y j x h1 h2;simp only[hu,wR];exact hr
theorem wx{E:fF}{w:bF}{K:aG->Prop}{G:aG->aG->Pl}{i j:aG}{u:bg}{x:CV}(h:XC E w G i j u x)(hK:s8 x=ak->(G i j).nil=aq->K (G i j).blk):cZ E w K u x:=by
 cases x with
 |l e ys=>obtain⟨rfl,t,ht,hp,hs,ma,fW⟩:=h;exact pA ht hs ma (fW.frame (λ_=>rfl) (λi j y x u hi hj hr=>kl (gX hp (ma y (aQ hi)) hj) hr)) (hK rfl)
 |i=>exact kl rfl h
 |b=>exact kl rfl h
 |s=>exact kl rfl h
section
variable {P:cR} {E:fF} {σ:St} {a:Act} {w:bF} {c:eO} {o:e8} {nm:aG} {e:rT}
structure Io (E:fF) (σ:St) (w:bF) (c:eO) (te:TI) (v:bg) (B0:aY) (xs:aW) (b:aA aG) (p:Pl) (g:aG->aG->Pl):Prop where
 v:v=lh p
 sz:p.sz=te.ks.length
 sh:∀y∈xs,y.map CV.kd=te.ks
 at_:iV w p xs (λi j u x=>if B0=ak then XC E w g i j u x else cZ E w c.K u x)
 inn:B0=ak->DV p g xs
 own:p.nil=aq->∃nm ob,nm∈b/\σ (cX nm)= .o ob/\fu c nm ob p.blk
 owni:B0=ak->∀i j,fZ xs i j->(g i j).nil=aq->∃nm ob,nm∈b/\σ (cX nm)= .o ob/\fu c nm ob (g i j).blk
 kn:∀nm∈b,∃ob,σ (cX nm)= .o ob
def K1(σ:St)(c:eO)(D:aA (aG×Obj))(q:aG):Prop:=c.K q\/∃n e xs ob,(n,Obj.fI e xs)∈D/\σ (cX n)= .o ob/\fu c n ob q
structure qD (E:fF) (σ:St) (w:bF) (c:eO) (te:TI) (b:aA aG) (zm:aY) (ys:aW) (D:aA (aG×Obj)) (news:aA bg) (gx:aG->aG->Pl):Prop where
 sh:∀y∈ys,y.map CV.kd=te.ks
 cellX:zm=ak->∀(i:aG) (y:aA CV) (j:aG) (x:CV),ys[i]? =aj y->y[j]? =aj x->∃u:bg,news[i*te.ks.length+j]? =aj u/\XC E w gx i j u x
 cellH:zm=aq->∀(i:aG) (y:aA CV) (j:aG) (x:CV),ys[i]? =aj y->y[j]? =aj x->∃u:bg,news[i*te.ks.length+j]? =aj u/\cZ E w (K1 σ c D) u x
 own:zm=ak->∀i j,fZ ys i j->(gx i j).nil=aq->∃n ob,(n,Obj.dead)∈D/\σ (cX n)= .o ob/\fu c n ob (gx i j).blk
 one:zm=ak->∀i j i' j',fZ ys i j->fZ ys i' j'->(gx i j).nil=aq->(gx i' j').nil=aq->(gx i j).blk=(gx i' j').blk->i=i'/\j=j'
 D:∀n x,(n,x)∈D->n∉b/\(∃ob,σ (cX n)= .o ob)/\(x= .dead\/(zm=aq/\∃e xs,x= .fI e xs/\cZ E w (K1 σ c D) (lh (c.P n)) (.l e xs)/\(c.P n).n=xs.length/\∃ti,E.ty e=aj ti/\(c.P n).sz=ti.ks.length))
theorem Dl(b8:Ok E σ w c)(dD:e_ E σ a w c)(hd:∀d,o.dst=aj d->d<a.tmps.size){sB el:aG}{te:TI}(ht:E.ty el=aj te)(hf:σ (cX sB)= .jH)(jG:sB<900000000)
  {v:bg} {B0 zm:aY} {xs ys:aW} {b:aA aG} {p p':Pl} {g gx:aG->aG->Pl} {D2:aA (aG×Obj)} {news:aA bg} {w':bF}
  (hB:Io E σ w c te v B0 xs b p g) (hM:qD E σ w c te b zm ys D2 news gx) (hA:aal w w' p p' ys.length news) (hr:(execOp a.eval o).run P w= .ok (.value (lh p')) w'):
  gD P E σ a w c o (nN b++(jQ D2++[(cX sB,eE.o (.row el (B0&&zm) (xs++ys)))])++dw o (.v aq [.own sB])):=by
 have abr:(B0&&zm)=ak->B0=ak/\zm=true:=λh=>by simpa using h
 generalize abq:(B0&&zm)=MM at abr;let D:aA (aG×Obj):=Db b++(D2++[(sB, .row el MM (xs++ys))])
 have hD:nN b++(jQ D2++[(cX sB,eE.o (.row el MM (xs++ys)))])=jQ D:=by rw[AL];simp only[D,jQ,dm,e9,Ao]
 rw[hD];have mem:∀m x,(m,x)∈D->(m∈b/\x= .dead)\/(m,x)∈D2\/(m=sB/\x= .row el MM (xs++ys)):=by
  intro m x hm;rcases a_.1 hm with hm|hm
  ·obtain⟨q,hq,h⟩:=cJ.1 hm;cases h;exact .inl ⟨hq,rfl⟩
  ·rcases a_.1 hm with hm|hm
   ·exact .inr (.inl hm)
   ·rw[aZ]at hm;cases hm;exact .inr (.inr ⟨rfl,rfl⟩)
 have Ln:∀m,m∈b->tC D m:=λm hm=>⟨.dead,bO _ (cJ.2 ⟨m,hm,rfl⟩)⟩
 have Qr:∀m x,(m,x)∈D2->tC D m:=λm x hm=>⟨x,bI _ (bO _ hm)⟩
 have aeO:tC D sB:=⟨_,bI _ (bI _ (aZ.2 rfl))⟩
 have F1:p'.nil=aq->p'.blk=w.heap.size\/∃m ob,m∈b/\σ (cX m)= .o ob/\fu c m ob p'.blk:=by
  intro hn;rcases hA.blk hn with ⟨h1,h2⟩|h
  ·rw[h2];exact .inr (hB.own h1)
  ·exact .inl h
 have Dne:∀n x ob q,(n,x)∈D2->σ (cX n)= .o ob->fu c n ob q->¬(p'.nil=aq/\q=p'.blk):=by
  rintro n x ob q hx mn pq ⟨hn,rfl⟩;have UZ:=vj.lt b8 ⟨n,ob,mn,pq⟩;rcases F1 hn with h|⟨m,ob',h1,h2,h3⟩
  ·omega
  ·have:=b8.sep n ob m ob' _ mn h2 pq h3;subst this;exact(hM.D n x hx).1 h1
 have Kne:∀q,c.K q->¬(p'.nil=aq/\q=p'.blk):=by
  rintro q hq ⟨hn,rfl⟩;have UZ:=b8.lt _ hq;rcases F1 hn with h|⟨m,ob',h1,h2,h3⟩
  ·omega
  ·exact b8.kk m ob' _ h2 h3 hq
 have Gne:B0=ak->∀i j,fZ xs i j->(g i j).nil=aq->¬(p'.nil=aq/\(g i j).blk=p'.blk):=by
  rintro hx i j hh hn ⟨j_,he⟩;obtain⟨m,ob,q1,q2,q3⟩:=hB.owni hx i j hh hn;have UZ:=vj.lt b8 ⟨m,ob,q2,q3⟩;rcases hA.blk j_ with ⟨h1,h2⟩|h
  ·exact(hB.inn hx).out i j hh hn h1 (he.trans h2)
  ·omega
 let K':aG->Prop:=λq=>c.K q\/(MM=aq/\jJ (tC D) σ c q/\¬(p'.nil=aq/\q=p'.blk))
 have aeq:∀q,K' q->q<w.heap.size:=by
  rintro q (h|⟨_,h,_⟩)
  ·exact b8.lt q h
  ·exact vj.lt b8 h.own
 have aer:∀q,K' q->¬(p'.nil=aq/\q=p'.blk):=by
  rintro q (h|⟨_,_,h⟩)
  ·exact Kne q h
  ·exact h
 have F3:∀q,K' q->w'.heap[q]? =w.heap[q]? :=λq hq=>hA.old q (aeq q hq) (λhn he=>aer q hq ⟨hn,he⟩);have F4:MM=aq->∀q,K1 σ c D2 q->K' q:=by
  rintro hR q (h|⟨n,e',zs,ob,h1,h2,h3⟩)
  ·exact .inl h
  ·exact .inr ⟨hR,⟨n,ob,Qr n _ h1,h2,h3⟩,Dne n _ ob q h1 h2 h3⟩
 have F5:MM=aq->B0=ak->∀i j,fZ xs i j->(g i j).nil=aq->K' (g i j).blk:=by intro hR hx i j hh hn;obtain⟨m,ob,q1,q2,q3⟩:=hB.owni hx i j hh hn;exact .inr ⟨hR,⟨m,ob,Ln m q1,q2,q3⟩,Gne hx i j hh hn⟩
 have F6:MM=aq->zm=ak->∀i j,fZ ys i j->(gx i j).nil=aq->K' (gx i j).blk:=by intro hR hx i j hh hn;obtain⟨n,ob,q1,q2,q3⟩:=hM.own hx i j hh hn;exact .inr ⟨hR,⟨n,ob,Qr n _ q1,q2,q3⟩,Dne n _ ob _ q1 q2 q3⟩
 let G':aG->aG->Pl:=λi j=>if i<xs.length then g i j else gx (i-xs.length) j
 have G'l:∀i j,i<xs.length->G' i j=g i j:=λi j h=>bC h;have G'r:∀i j,¬i<xs.length->G' i j=gx (i-xs.length) j:=λi j h=>bM h;have QO:∀i j,i<xs.length->fZ (xs++ys) i j->fZ xs i j:=by rintro i j hi ⟨y,x,h1,h2,h3⟩;rw[dj hi]at h1;exact⟨y,x,h1,h2,h3⟩
 have Vd:∀i j,¬i<xs.length->fZ (xs++ys) i j->fZ ys (i-xs.length) j:=by rintro i j hi ⟨y,x,h1,h2,h3⟩;rw[c6 (by omega)]at h1;exact⟨y,x,h1,h2,h3⟩
 let c':eO:=⟨λm=>if m=sB then p' else c.P m,λm=>if m=sB then G' else c.G m,K'⟩
 have hP:c'.P sB=p':=bC rfl;have hG:c'.G sB=G':=bC rfl;have hAg:jj σ c c':=λm hm=>by
  have:m≠sB:=by rintro rfl;rcases hm with h|h;exact h hf;omega
  exact⟨bM this,bM this⟩
 have aft:MM=ak->∀i j,fZ (xs++ys) i j->(G' i j).nil=aq->¬(p'.nil=aq/\(G' i j).blk=p'.blk)/\jJ (tC D) σ c (G' i j).blk:=by
  intro hR i j hh hn;obtain⟨r1,r2⟩:=abr hR;by_cases hi:i<xs.length
  ·rw[G'l i j hi]at hn⊢;obtain⟨m,ob,q1,q2,q3⟩:=hB.owni r1 i j (QO i j hi hh) hn;exact⟨Gne r1 i j (QO i j hi hh) hn,m,ob,Ln m q1,q2,q3⟩
  ·rw[G'r i j hi]at hn⊢;obtain⟨n,ob,q1,q2,q3⟩:=hM.own r2 _ j (Vd i j hi hh) hn;exact⟨Dne n _ ob _ q1 q2 q3,n,ob,Qr n _ q1,q2,q3⟩
 have hlen:∀y∈xs++ys,y.map CV.kd=te.ks:=λy hy=>(a_.1 hy).elim (hB.sh y) (hM.sh y);refine Jl b8 dD hd (D:=D) (c':=c') (w':=w') hAg ?_ ?_ ?_ ?_ (λq h=> .inl h) ?_ (λq hq=>jd (aeq q hq) hA.size) ?_ hA.size hA.os hA.tape hA.output ?_ ?_ hr
 ·intro m x hm;rcases mem m x hm with ⟨_,rfl⟩|UT|⟨rfl,rfl⟩
  ·trivial
  ·obtain⟨_,⟨ob,mn⟩,hx⟩:=hM.D m x UT;rcases hx with rfl|⟨TR,e',zs,rfl,q1,q2,q3⟩
   ·trivial
   ·have hR:MM=false:=by rw[<-abq,TR];simp
    obtain⟨a1,a2⟩:=hAg m (.inl (by rw[mn];simp));show cZ E w' K' (lh (c'.P m)) _/\(c'.P m).n=_/\_;rw[a1];exact⟨q1.frame (λq hq=>F3 q (F4 hR q hq)) (F4 hR),q2,q3⟩
  ·refine⟨⟨te,ht,by rw[hP,hA.sz];exact hB.sz,hlen⟩, ?_,λhR=> ?_⟩
   ·rw[hP,hG];refine⟨by rw[hA.n,hB.at_.n,bP],λhn=> ?_,λhn=> ?_⟩
    ·obtain⟨n1,n2,n3⟩:=hA.nil hn;refine⟨?_,n1⟩
     have e1:xs.length=0:=by rw[<-hB.at_.n];exact n2
     rw[fV e1,fV n3];rfl
    ·obtain⟨iN,m1,m2,m3,m4,m5,m6⟩:=hA.mem hn;refine⟨iN,m1,m2,m3,m4,λi y j x hy hx=> ?_⟩
     have hj:j<te.ks.length:=by rw[<-hlen y (aQ hy),bQ];exact(aU.1 hx).1
     by_cases hi:i<xs.length
     ·rw[dj hi]at hy;have hpn:p.nil=false:=by
       cases hq:p.nil with
       |false=>rfl
       |true=>have:=(hB.at_.nil hq).1;subst this;simp at hi
      obtain⟨vals,k1,k2,k3,k4,k5⟩:=hB.at_.mem hpn;obtain⟨u,hu,hR⟩:=k5 i y j x hy hx;have hk:i*p.sz+j<p.n*p.sz:=by have:(i+1)*p.sz<=p.n*p.sz:=b7 _ (by rw[hB.at_.n];exact hi);rw[dc]at this;rw[hB.sz]at this⊢;omega
      refine⟨u, ?_, ?_⟩
      ·rw[hA.sz,lB];refine m5 _ u hk ?_;rw[k1.cell,<-lB];exact hu
      ·cases hxb:B0 with
       |true=>
        rw[hxb,bC rfl]at hR;cases U8:MM with
        |true=>
         rw[bC rfl];have N9:XC E w' g i j u x:=hR.frame (λhl j_=>hA.old _ (by obtain⟨m,ob,_,q2,q3⟩:=hB.owni hxb i j ⟨y,x,hy,hx,hl⟩ j_;exact vj.lt b8 ⟨m,ob,q2,q3⟩) (λabB he=>Gne hxb i j ⟨y,x,hy,hx,hl⟩ j_ ⟨abB,he⟩));cases x with
         |l e1 z1=>simpa only[XC,G'l i j hi]using N9
         |_=>exact N9
        |false=>rw[bM (by simp)];have:=wx (K:=K') hR (λhl j_=>F5 U8 hxb i j ⟨y,x,hy,hx,hl⟩ j_);exact this.frame F3 (λ_ h=>h)
       |false=>
        have U8:MM=false:=by rw[<-abq,hxb];rfl
        rw[hxb,bM (by simp)]at hR;rw[U8,bM (by simp)];exact hR.frame (λq hq=>F3 q (.inl hq)) (λq hq=> .inl hq)
     ·rw[c6 (by omega)]at hy;have Hj:i-xs.length<ys.length:=(aU.1 hy).1;have hk:(i-xs.length)*p.sz+j<ys.length*p.sz:=by have:(i-xs.length+1)*p.sz<=ys.length*p.sz:=b7 _ Hj;rw[dc]at this;rw[hB.sz]at this⊢;omega
      have amH:p'.off+i*p'.sz+j=p'.off+p.n*p.sz+((i-xs.length)*p.sz+j):=by
       rw[hA.sz,hB.at_.n];have:i*p.sz=xs.length*p.sz+(i-xs.length)*p.sz:=by rw[<-dc];congr 1;omega
       omega
      have got:∀u,news[(i-xs.length)*te.ks.length+j]? =aj u->iN[p'.off+i*p'.sz+j]? =aj u:=λu hu=>by rw[amH,m6 _ hk,hB.sz];exact hu
      cases TR:zm with
      |true=>
       obtain⟨u,hu,hX⟩:=hM.cellX TR _ y j x hy hx;refine⟨u,got u hu, ?_⟩
       cases U8:MM with
       |true=>
        rw[bC rfl];have N9:XC E w' gx (i-xs.length) j u x:=hX.frame (λhl j_=>hA.old _ (by obtain⟨n,ob,_,q2,q3⟩:=hM.own TR _ j ⟨y,x,hy,hx,hl⟩ j_;exact vj.lt b8 ⟨n,ob,q2,q3⟩) (λabB he=>by obtain⟨n,ob,q1,q2,q3⟩:=hM.own TR _ j ⟨y,x,hy,hx,hl⟩ j_;exact Dne n _ ob _ q1 q2 q3 ⟨abB,he⟩));cases x with
        |l e1 z1=>simpa only[XC,G'r i j hi]using N9
        |_=>exact N9
       |false=>rw[bM (by simp)];have:=wx (K:=K') hX (λhl j_=>F6 U8 TR _ j ⟨y,x,hy,hx,hl⟩ j_);exact this.frame F3 (λ_ h=>h)
      |false=>
       have U8:MM=false:=by rw[<-abq,TR];simp
       obtain⟨u,hu,hH⟩:=hM.cellH TR _ y j x hy hx;refine⟨u,got u hu, ?_⟩
       rw[U8,bM (by simp)];exact hH.frame (λq hq=>F3 q (F4 U8 q hq)) (F4 U8)
   ·rw[hP,hG];refine⟨λi j hh hn hpn he=>(aft hR i j hh hn).1 ⟨hpn,he⟩,λi j i' j' hh zo hn j_ he=> ?_⟩
    obtain⟨r1,r2⟩:=abr hR;have XS:∀i j i' j',i<xs.length->¬i'<xs.length->fZ (xs++ys) i j->fZ (xs++ys) i' j'->(G' i j).nil=aq->(G' i' j').nil=aq->(G' i j).blk≠(G' i' j').blk:=by intro i j i' j' hi lD hh zo hn j_ he;rw[G'l i j hi]at hn he;rw[G'r i' j' lD]at j_ he;obtain⟨m,ob,q1,q2,q3⟩:=hB.owni r1 i j (QO i j hi hh) hn;obtain⟨n,ob',s1,s2,s3⟩:=hM.own r2 _ j' (Vd i' j' lD zo) j_;rw[he]at q3;have:=b8.sep m ob n ob' _ q2 s2 q3 s3;subst this;exact(hM.D m _ s1).1 q1
    by_cases hi:i<xs.length
    ·by_cases lD:i'<xs.length
     ·rw[G'l i j hi]at hn he;rw[G'l i' j' lD]at j_ he;exact(hB.inn r1).one i j i' j' (QO i j hi hh) (QO i' j' lD zo) hn j_ he
     ·exact cq he (XS i j i' j' hi lD hh zo hn j_)
    ·by_cases lD:i'<xs.length
     ·exact cq he.symm (XS i' j' i j lD hi zo hh j_ hn)
     ·rw[G'r i j hi]at hn he;rw[G'r i' j' lD]at j_ he;have:=hM.one r2 _ j _ j' (Vd i j hi hh) (Vd i' j' lD zo) hn j_ he;exact⟨by omega,this.2⟩
 ·intro m x q hm pq;rcases mem m x hm with ⟨_,rfl⟩|UT|⟨rfl,rfl⟩
  ·exact pq.elim
  ·obtain⟨_,_,hx⟩:=hM.D m x UT;rcases hx with rfl|⟨_,e',zs,rfl,_⟩
   ·exact pq.elim
   ·exact pq.elim
  ·rcases pq with ⟨hn,rfl⟩|⟨hR,i,j,hh,hn,rfl⟩
   ·rw[hP]at hn⊢;refine⟨?_,λhk=>aer _ hk ⟨hn,rfl⟩⟩
    rcases F1 hn with h|⟨m,ob,h1,h2,h3⟩
    ·right;omega
    ·exact .inl ⟨m,ob,Ln m h1,h2,h3⟩
   ·rw[hG]at hn⊢;obtain⟨q1,q2⟩:=aft hR i j hh hn;refine⟨.inl q2, ?_⟩
    rintro (h|⟨h,_⟩)
    ·exact b8.HB q2.own h
    ·rw[hR]at h;cases h
 ·intro m x m' x' q hm vN pq Qy;have only:∀m x,(m,x)∈D->fu c' m x q->m=sB:=by
   intro m x hm pq;rcases mem m x hm with ⟨_,rfl⟩|UT|⟨rfl,rfl⟩
   ·exact pq.elim
   ·obtain⟨_,_,hx⟩:=hM.D m x UT;rcases hx with rfl|⟨_,e',zs,rfl,_⟩
    ·exact pq.elim
    ·exact pq.elim
   ·rfl
  rw[only m x hm pq,only m' x' vN Qy]
 ·intro m zs hm;rcases mem m _ hm with ⟨_,h⟩|UT|⟨_,h⟩
  ·cases h
  ·obtain⟨_,_,hx⟩:=hM.D m _ UT;rcases hx with h|⟨_,e',zs,h,_⟩<;>cases h
  ·cases h
 ·rintro q (h|⟨_,h,_⟩)
  ·exact .inl h
  ·exact .inr (.inl h)
 ·intro q hq UU;refine hA.old q hq (λhn he=>UU ?_);rcases F1 hn with h|⟨m,ob,h1,h2,h3⟩
  ·omega
  ·rw[he];exact⟨m,ob,Ln m h1,h2,h3⟩
 ·show _=lh (c'.P sB);rw[hP]
 ·intro m hm;have:m=sB:=by simpa [cD,bJ]using hm
  subst this;exact .inr aeO
end
end Go.FG

namespace Go.FG
theorem Hs:∀{l:aA aG} {n:aG},n∈l->lZ n l=true:=by
 intro l;induction l with
 |nil=>intro n h;cases h
 |cons m r ih=>
  intro n h;rcases cz.1 h with rfl|h
  ·simp[lZ]
  ·simp only[lZ,ih h,Ip]
theorem pR{l:aA aG}{n:aG}(h:lZ n l=aq):n∉l:=λhm=>by rw[Hs hm]at h;cases h
theorem cZ.one{E:fF}{w:bF}{K:aG->Prop}{u:bg}{x:CV}(h:cZ E w K u x):u.oneCell'=true:=by cases h<;>rfl
theorem US(p:Pl):(lh p).oneCell'=true:=by unfold lh;split<;>rfl
theorem XC.one{E:fF}{w:bF}{G:aG->aG->Pl}{i j:aG}{u:bg}{x:CV}(h:XC E w G i j u x):u.oneCell'=true:=by
 cases x with
 |l e ys=>rw[h.1];exact US _
 |i=>rw[show u=_ from h.1];rfl
 |b=>rw[show u=_ from h.1];rfl
 |s=>rw[show u=_ from h.1];rfl
theorem HV{x:CV}:(NJ x).oneCell'=true:=by cases x<;>rfl
theorem vC{α:Type}{b:aY}{x y:Rd α}(h:b=ak):(bif b then x else y)=x:=by rw[h];rfl
theorem C_{α:Type}{b:aY}{x y:Rd α}(h:b=aq):(bif b then x else y)=y:=by rw[h];rfl
theorem rN{α β γ:Type}{σ:St}{a x:α}{b y:β}{c z:γ}(h:(Rd.ret (a,b,c)).val σ=aj (x,y,z)):a=x/\b=y/\c=z:=by obtain⟨h1,h2⟩:=bU (aF h);obtain⟨h2,h3⟩:=bU h2;exact⟨h1,h2,h3⟩
section
variable {P:cR} {E:fF} {σ:St} {a:Act} {w:bF} {c:eO} {o:e8} {nm:aG} {e:rT}
theorem AF(b8:Ok E σ w c){el:aG}{te:TI}(ht:E.ty el=aj te){s:AV}{v:bg}(hs:ej E w c s v){B0:aY}{xs:aW}{b:aA aG}(h:(vB el s).val σ=aj (B0,xs,b)):
  ∃p g,Io E σ w c te v B0 xs b p g:=by
 have afT:∀b,(∀m∈b,∃ob,σ (cX m)= .o ob)->v= .slice ao 0 0->∀B0,Io E σ w c te v B0 [] b ⟨ak,0,0,0,0,te.ks.length⟩ (JG E te.ks):=λb hb hv B0=>
  ⟨hv,rfl,λy hy=>(by cases hy),⟨rfl,λ_=>⟨rfl,rfl⟩,λh=>(by cases h)⟩,λ_=>uU (λ_ _=>rfl),λh=>(by cases h),λ_ i j ⟨y,x,h,_⟩=>(by simp at h),hb⟩
 cases s with
 |nl=>obtain⟨rfl,rfl,rfl⟩:=rN h;exact⟨_,_,afT [] (λm hm=>by cases hm) hs ak⟩
 |own n=>
  obtain⟨ob,hg,h⟩:=Rd.bind_some h;have hg:=dt hg;cases ob with
  |row e' ex ys=>obtain⟨h1,h9⟩:=cE h;have:=aX h1;subst this;have h:=h9;obtain⟨rfl,rfl,rfl⟩:=rN h;obtain⟨⟨t2,q1,q2,q3⟩,q4,q5⟩:=b8.obj n _ hg;obtain rfl:te=t2:=aF (ht.symm.trans q1);exact⟨c.P n,c.G n,hs,q2,q3,q4,q5,λhn=>⟨n,_,by simp,hg, .inl ⟨hn,rfl⟩⟩,λhx i j hh hn=>⟨n,_,by simp,hg, .inr ⟨hx,i,j,hh,hn,rfl⟩⟩,λm hm=>by rw[aZ]at hm;subst hm;exact⟨_,hg⟩⟩
  |_=>simp at h
 |vw n lo hi=>
  obtain⟨ob,hg,h⟩:=Rd.bind_some h;have hg:=dt hg;cases ob with
  |row e' ex ys=>
   obtain⟨h1,h9⟩:=cE h;have:=aX h1;subst this;have h:=h9;obtain⟨rfl,rfl,rfl⟩:=rN h;obtain⟨⟨t2,q1,q2,q3⟩,q4,q5⟩:=b8.obj n _ hg;obtain rfl:te=t2:=aF (ht.symm.trans q1);obtain⟨v1,v2,v3,v4⟩:=hs;have hle:hi<=ys.length:=by rw[<-q4.n];exact v2
   have hvl:=lR (xs:=ys) (lo:=lo) hle;have hb:∀m∈[n],∃ob,σ (cX m)= .o ob:=λm hm=>by rw[aZ]at hm;subst hm;exact⟨_,hg⟩
   cases hq:(c.P n).nil with
   |true=>
    have hy:=(q4.nil hq).1;subst hy;have N8:eT ([]:aW) lo hi=[]:=by unfold eT;simp
    rw[N8];exact⟨_,_,afT [n] hb (v3 hq) ex⟩
   |false=>
    obtain⟨vals,k1,k2,k3,k4,k5⟩:=q4.mem hq;rcases v4 hq with ⟨u1,hv⟩|⟨u1,oo,u2,hv⟩
    ·have Vc:∀i j,fZ (eT ys lo hi) i j->fZ ys (lo+i) j:=by
      rintro i j ⟨y,x,h1,h2,h3⟩;rw[sO]at h1;split at h1
      ·exact⟨y,x,h1,h2,h3⟩
      ·cases h1
     refine⟨⟨aq,(c.P n).blk,(c.P n).off+lo*(c.P n).sz,(c.P n).cap-lo,hi-lo,(c.P n).sz⟩,λi j=>c.G n (lo+i) j,hv,q2,λy hy=>q3 y (Bc hy),⟨hvl.symm,λh=>(by cases h),λ_=>⟨vals,k1,by show hi-lo<=(c.P n).cap-lo;omega,by show(c.P n).cap-lo<=maxLen;omega, ?_,λi y j x h1 h2=> ?_⟩⟩,λhx=>⟨λi j hh hn _=>(q5 hx).out _ j (Vc i j hh) hn hq,λi j i' j' hh zo hn j_ he=> ?_⟩,λ_=>⟨n,_,by simp,hg, .inl ⟨hq,rfl⟩⟩,λhx i j hh hn=>⟨n,_,by simp,hg, .inr ⟨hx,lo+i,j,Vc i j hh,hn,rfl⟩⟩,hb⟩
     ·show(c.P n).off+lo*(c.P n).sz+((c.P n).cap-lo)*(c.P n).sz<=vals.size;have:lo*(c.P n).sz+((c.P n).cap-lo)*(c.P n).sz=(c.P n).cap*(c.P n).sz:=by rw[<-dc];congr 1;omega
      omega
     ·rw[sO]at h1;split at h1
      ·obtain⟨u,hu,hr⟩:=k5 (lo+i) y j x h1 h2;refine⟨u, ?_, ?_⟩
       ·show vals[(c.P n).off+lo*(c.P n).sz+i*(c.P n).sz+j]? =aj u;rw[<-hu];congr 1;rw[dc];omega
       ·split at hr
        ·rename_i hx;rw[bC hx];cases x with
         |l e1 z1=>exact hr
         |_=>exact hr
        ·rename_i hx;rw[bM hx];exact hr
      ·cases h1
     ·have:=(q5 hx).one _ j _ j' (Vc i j hh) (Vc i' j' zo) hn j_ he;exact⟨by omega,this.2⟩
    ·have h0:hi-lo=0:=by omega
     have N8:eT ys lo hi=[]:=fV (hvl.trans h0);rw[N8];exact⟨⟨aq,(c.P n).blk,oo,0,0,(c.P n).sz⟩,JG E te.ks,hv,q2,λy hy=>(by cases hy),⟨rfl,λh=>(by cases h),λ_=>⟨vals,k1,cu _,bL _,by show oo+0*(c.P n).sz<=vals.size;rw[Nat.zero_mul];omega,λi y j x h=>(by simp at h)⟩⟩,λ_=>uU (λ_ _=>rfl),λ_=>⟨n,_,by simp,hg, .inl ⟨hq,rfl⟩⟩,λ_ i j ⟨y,x,h,_⟩=>(by simp at h),hb⟩
  |_=>simp at h
 |_=>simp[vB]at h
theorem qM{u:aG}(hu:(∃e',P.underlying u=aj (.slice e'))\/P.underlying u=aj .string){z:di bg}{v:bg}{ys:aW}{ks:aA Ck}(kH:0<ks.length){R:aG->aG->bg->CV->Prop}(hs:nL w v ys ks.length R)(ma:∀y∈ys,y.map CV.kd=ks)(h1:∀i j u x,R i j u x->u.oneCell'=ak):
  ∃news,App P w u v z ks.length ys.length news/\∀(i:aG) (y:aA CV) (j:aG) (x:CV),ys[i]? =aj y->y[j]? =aj x->∃u:bg,news[i*ks.length+j]? =aj u/\R i j u x:=by
 have hl:∀y∈ys,y.length=ks.length:=λy hy=>by rw[<-ma y hy];simp
 obtain⟨A,cp,news,rfl,n1,n2,n3⟩:=hs.list hl;have first:∀W:bF,(∀q,W.cell? q=w.cell? q)->(e7 ks.length ys.length (.slice A ys.length cp)).run P W= .ok news.toArray W:=by
  intro W hW;rcases n2 with h|⟨b,oo,rfl,h⟩
  ·subst h;have hn:news=[]:=fV (by rw[n1];simp);subst hn;cases A with
   |none=>exact run_firstCells_none _ _ _ _ _
   |some a=>exact run_firstCells_some W ks.length 0 a _ _ [] (by simp) (λj v hj=>by simp at hj)
  ·exact run_firstCells_some W ks.length ys.length _ _ _ news n1 (λj v hj=>by rw[hW,Addr.nA];exact h j v hj)
 refine⟨news,⟨.inl ⟨hu,by simp[oU],first w (λ_=>rfl),first w.drew (λ_=>rfl)⟩,n1,λv hv=> ?_⟩,n3⟩
 obtain⟨q,hq⟩:=bZ hv;have UZ:q<ys.length*ks.length:=by rw[<-n1];exact(aU.1 hq).1
 have hi:q/ks.length<ys.length:=by rw[wA kH];exact UZ
 have hj:q%ks.length<ys[q/ks.length].length:=by rw[hl _ (bD hi)];exact BV _ kH
 obtain⟨u',rA,hr⟩:=n3 (q/ks.length) ys[q/ks.length] (q%ks.length) (ys[q/ks.length][q%ks.length]) (by simp[hi]) (by simp[hj]);have:q/ks.length*ks.length+q%ks.length=q:=by have:=H9 q ks.length;rw[CS]at this;exact this
 rw[this,hq]at rA;cases rA;exact h1 _ _ _ _ hr
theorem Rf(hE:eg P E)(b8:Ok E σ w c){sB el:aG}{te:TI}(ht:E.ty el=aj te)(kH:0<te.ks.length){u:aG}(hu:(∃e',P.underlying u=aj (.slice e'))\/P.underlying u=aj .string){z:di bg}{b:aA aG}{x:AV}{v:bg}(hx:ej E w c x v)
  {zm:aY} {ys:aW} {w2:aA (aG×eE)} (h:(Re E sB el te.ks b x).val σ=aj (zm,ys,w2)):
  ∃D news gx,w2=jQ D/\App P w u v z te.ks.length ys.length news/\qD E σ w c te b zm ys D news gx:=by
 have inK:∀D q,c.K q->K1 σ c D q:=λD q h=> .inl h;have PL:plain te.ks=ak->∀ys,nL w v ys te.ks.length (λ_ _ u x=>Sc u x)->(∀y∈ys,y.map CV.kd=te.ks)->∃D news gx,([]:aA (aG×eE))=jQ D/\App P w u v z te.ks.length ys.length news/\qD E σ w c te b ak ys D news gx:=by
  intro hp ys hs ma;obtain⟨news,n1,n2⟩:=qM (P:=P) (z:=z) hu kH hs ma (λi j u x hr=>by rw[hr.1];exact HV);refine⟨[],news,λ_ _=>⟨ak,0,0,0,0,0⟩,rfl,n1,ma,λ_ i y j x hy hx=> ?_,λh=>(by cases h),λ_ i j _ hn=>(by cases hn),λ_ i j _ _ _ _ hn=>(by cases hn),λn x hn=>(by cases hn)⟩
  obtain⟨u,hu,hr⟩:=n2 i y j x hy hx;exact⟨_,hu,tu (gX hp (ma y (aQ hy)) hx) hr⟩
 have PLr:plain te.ks=ak->∀ys,(lU E x).val σ=aj (el,ys)->∃D news gx,([]:aA (aG×eE))=jQ D/\App P w u v z te.ks.length ys.length news/\qD E σ w c te b ak ys D news gx:=by intro hp ys hr;obtain⟨q1,q2,_⟩:=yW b8 hx hr ht hp;exact PL hp ys q1 q2
 have SH:∀ys,nL w v ys te.ks.length (λ_ _ u x=>cZ E w c.K u x)->(∀y∈ys,y.map CV.kd=te.ks)->∃D news gx,([]:aA (aG×eE))=jQ D/\App P w u v z te.ks.length ys.length news/\qD E σ w c te b aq ys D news gx:=by
  intro ys hs ma;obtain⟨news,n1,n2⟩:=qM (P:=P) (z:=z) hu kH hs ma (λi j u x hr=>hr.one);refine⟨[],news,λ_ _=>⟨ak,0,0,0,0,0⟩,rfl,n1,ma,λh=>(by cases h),λ_ i y j x hy hx=> ?_,λh=>(by cases h),λh=>(by cases h),λn x hn=>(by cases hn)⟩
  obtain⟨u,hu,hr⟩:=n2 i y j x hy hx;exact⟨_,hu,hr.frame (λ_ _=>rfl) (inK [])⟩
 have SHv:∀ys,cZ E w c.K v (.l el ys)->∃D news gx,([]:aA (aG×eE))=jQ D/\App P w u v z te.ks.length ys.length news/\qD E σ w c te b aq ys D news gx:=by intro ys hh;obtain⟨q1,q2⟩:=yu ht hh;exact SH ys q1 q2
 have HP:∀ys,cZ E w c.K v (.l el ys)->(lU E x).val σ=aj (el,ys)->∃D news gx,([]:aA (aG×eE))=jQ D/\App P w u v z te.ks.length ys.length news/\qD E σ w c te b (plain te.ks) ys D news gx:=by
  intro ys hh hr;cases hp:plain te.ks with
  |true=>exact PLr hp ys hr
  |false=>exact SHv ys hh
 have FZ:∀n xs lo hi,σ (cX n)= .o (.row el ak xs)->n∉b->vA (c.P n) lo hi v->∃D news gx,[(cX n,eE.o (.fI el xs))]=jQ D/\App P w u v z te.ks.length (eT xs lo hi).length news/\qD E σ w c te b aq (eT xs lo hi) D news gx:=by
  intro n xs lo hi hg Js hv;obtain⟨⟨t2,q1,q2,q3⟩,q4,q5⟩:=b8.obj n _ hg;obtain rfl:te=t2:=aF (ht.symm.trans q1);obtain⟨t3,r1,r2,r3⟩:=v8 b8 hg hv;obtain rfl:te=t3:=aF (ht.symm.trans r1);let D:aA (aG×Obj):=[(n, .fI el xs)]
  have kin:∀i j,fZ xs i j->(c.G n i j).nil=aq->K1 σ c D (c.G n i j).blk:=λi j hh hn=> .inr ⟨n,el,xs,_,aZ.2 rfl,hg, .inr ⟨rfl,i,j,hh,hn,rfl⟩⟩;have fW:iV w (c.P n) xs (λ_ _ u x=>cZ E w (K1 σ c D) u x):=q4.frame (λ_=>rfl) (λi j y x u hy hx hr=>by rw[bC rfl]at hr;exact wx hr (λhl hn=>kin i j ⟨y,x,hy,hx,hl⟩ hn));have Cz:nL w v (eT xs lo hi) te.ks.length (λ_ _ u x=>cZ E w (K1 σ c D) u x):=by have:=Ka fW hv;rwa[q2]at this
  obtain⟨news,n1,n2⟩:=qM (P:=P) (z:=z) hu kH Cz r2 (λi j u x hr=>hr.one);refine⟨D,news,λ_ _=>⟨ak,0,0,0,0,0⟩,rfl,n1,r2,λh=>(by cases h),λ_=>n2,λh=>(by cases h),λh=>(by cases h),λm y hm=> ?_⟩
  rw[aZ]at hm;cases hm;exact⟨Js,⟨_,hg⟩, .inr ⟨rfl,el,xs,rfl,pA ht q2 q3 fW (λhn=> .inr ⟨n,el,xs,_,aZ.2 rfl,hg, .inl ⟨hn,rfl⟩⟩),q4.n,te,ht,q2⟩⟩
 cases x with
 |s s=>
  obtain⟨h1,h⟩:=cE h;obtain⟨rfl,rfl,rfl⟩:=rN h;have hk:te.ks=[.i .u8]:=by
   unfold u8s at h1;split at h1
   ·assumption
   ·cases h1
  have hv:v= .string s:=hx.1;subst hv;refine⟨[],(s.data.map λb=>Value.int .u8 b.toNat).toList,λ_ _=>⟨ak,0,0,0,0,0⟩,rfl,⟨.inl ⟨hu, ?_, ?_, ?_⟩, ?_, ?_⟩,by rw[hk];exact HK s,λ_ i y j x hy hx=> ?_,λh=>(by cases h),λ_ i j _ hn=>(by cases hn),λ_ i j _ _ _ _ hn=>(by cases hn),λn x hn=>(by cases hn)⟩
  ·simp[oU,lE]
  ·simp[e7,lE];apply rE;simp
  ·simp[e7,lE];apply rE;simp
  ·rw[hk,lE];simp
  ·intro v hv;have hv:∃b,b∈s.data/\Value.int bk (b.toNat:az)=v:=by simpa using hv
   obtain⟨b,_,rfl⟩:=hv;rfl
  ·obtain⟨rfl,b,hb,rfl⟩:=Fq hy hx;refine⟨.int .u8 b.toNat, ?_,rfl,trivial⟩
   rw[hk];simp[hb]
 |nl=>obtain⟨rfl,rfl,rfl⟩:=rN h;have hv:v= .slice ao 0 0:=hx;subst hv;refine⟨[],[],λ_ _=>⟨ak,0,0,0,0,0⟩,rfl,⟨.inl ⟨hu,by simp[oU],run_firstCells_none _ _ _ _ _,run_firstCells_none _ _ _ _ _⟩,by simp,λv hv=>(by cases hv)⟩,λy hy=>(by cases hy),λ_ i y j x hy=>(by simp at hy),λh=>(by cases h),λ_ i j _ hn=>(by cases hn),λ_ i j _ _ _ _ hn=>(by cases hn),λn x hn=>(by cases hn)⟩
 |sh e' xs=>obtain⟨h1,h9⟩:=cE h;have:=aX h1;subst this;have h:=h9;obtain⟨rfl,rfl,rfl⟩:=rN h;exact HP xs hx rfl
 |own n=>
  obtain⟨ob,hg,h⟩:=Rd.bind_some h;have hg:=dt hg;have hv:v=lh (c.P n):=hx;cases ob with
  |row e' ex xs=>
   obtain⟨h1,h9⟩:=cE h;have:=aX h1;subst this;have h:=h9;have Hh:(lU E (.own n)).val σ=aj (el,xs):=by simp[lU,jq,hg]
   have hvw:vA (c.P n) 0 xs.length v:=by rw[hv];exact u6 b8 hg
   cases hp:plain te.ks with
   |true=>rw[vC (by rw[hp];rfl)]at h;obtain⟨rfl,rfl,rfl⟩:=rN h;rw[hp];exact PLr hp xs Hh
   |false=>
    cases ex with
    |false=>rw[vC (by simp)]at h;obtain⟨rfl,rfl,rfl⟩:=rN h;rw[hp];obtain⟨t3,r1,r2,r3⟩:=v8 b8 hg hvw;obtain rfl:te=t3:=aF (ht.symm.trans r1);rw[qq]at r2 r3;exact SH xs (r3.imp λi y j x u _ _ hr=>by simpa using hr) r2
    |true=>
     rw[C_ (by rw[hp];rfl)]at h;cases hm:lZ n b with
     |true=>rw[hm]at h;simp at h
     |false=>
      have Js:=pR hm;rw[hm]at h;cases E2:E.tk sB with
      |true=>rw[E2]at h;obtain⟨rfl,rfl,rfl⟩:=rN h;have:=FZ n xs 0 xs.length hg Js hvw;rwa[qq]at this
      |false=>
       rw[E2]at h;obtain⟨rfl,rfl,rfl⟩:=rN h;obtain⟨t3,r1,r2,r3⟩:=v8 b8 hg hvw;obtain rfl:te=t3:=aF (ht.symm.trans r1);rw[qq]at r2 r3;have r3':=r3.imp (R':=λi j u x=>XC E w (c.G n) i j u x) (λi y j x u _ _ hr=>by rw[bC rfl,bT]at hr;exact hr);obtain⟨news,n1,n2⟩:=qM (P:=P) (z:=z) hu kH r3' r2 (λi j u x hr=>hr.one);refine⟨[(n, .dead)],news,c.G n,rfl,n1,r2,λ_=>n2,λh=>(by cases h),λ_ i j hh hn=>⟨n,_,aZ.2 rfl,hg, .inr ⟨rfl,i,j,hh,hn,rfl⟩⟩,λ_=>((b8.obj n _ hg).inn rfl).one,λm y hm=> ?_⟩
       rw[aZ]at hm;cases hm;exact⟨Js,⟨_,hg⟩, .inl rfl⟩
  |fI e' xs=>obtain⟨h1,h9⟩:=cE h;have:=aX h1;subst this;have h:=h9;obtain⟨rfl,rfl,rfl⟩:=rN h;refine HP xs ?_ (by simp[lU,jq,hg]);rw[hv];exact(b8.obj n _ hg).1
  |_=>simp at h
 |vw n lo hi=>
  obtain⟨ob,hg,h⟩:=Rd.bind_some h;have hg:=dt hg;cases ob with
  |row e' ex xs=>
   obtain⟨h1,h9⟩:=cE h;have:=aX h1;subst this;have h:=h9;have Hh:(lU E (.vw n lo hi)).val σ=aj (el,eT xs lo hi):=by simp[lU,jq,hg]
   cases hp:plain te.ks with
   |true=>rw[vC (by rw[hp];rfl)]at h;obtain⟨rfl,rfl,rfl⟩:=rN h;rw[hp];exact PLr hp _ Hh
   |false=>
    cases ex with
    |false=>rw[vC (by simp)]at h;obtain⟨rfl,rfl,rfl⟩:=rN h;rw[hp];obtain⟨t3,r1,r2,r3⟩:=v8 b8 hg hx;obtain rfl:te=t3:=aF (ht.symm.trans r1);exact SH _ (r3.imp λi y j x u _ _ hr=>by simpa using hr) r2
    |true=>
     rw[C_ (by rw[hp];rfl)]at h;cases hm:lZ n b with
     |true=>rw[hm]at h;simp at h
     |false=>
      have Js:=pR hm;rw[hm]at h;cases E2:E.tk sB with
      |true=>rw[E2]at h;obtain⟨rfl,rfl,rfl⟩:=rN h;exact FZ n xs lo hi hg Js hx
      |false=>rw[E2]at h;simp at h
  |fI e' xs=>obtain⟨h1,h9⟩:=cE h;have:=aX h1;subst this;have h:=h9;obtain⟨rfl,rfl,rfl⟩:=rN h;exact HP _ (oL b8 hg hx) (by simp[lU,jq,hg])
  |_=>simp at h
 |inn n i j=>obtain⟨h1,h⟩:=cE h;obtain⟨⟨e',xs⟩,h2,h⟩:=Rd.bind_some h;obtain⟨h3,h9⟩:=cE h;have:=aX h3;subst this;have h:=h9;obtain⟨rfl,rfl,rfl⟩:=rN h;exact PLr h1 xs h2
 |_=>simp[Re]at h
theorem Nm(hE:eg P E)(b8:Ok E σ w c)(dD:e_ E σ a w c)(hd:∀d,o.dst=aj d->d<a.tmps.size){cl:Call}(ho:o.op= .call cl)(hb:cl.callee= .builtin .append)(h:(lF E nm o).val σ=aj e)(hc:e.cond=ak):gD P E σ a w c o e.ws:=by
 simp only[lF,ho,hb]at h;split at h
 ·rename_i s x t u rq abH;obtain⟨ku,h1,h⟩:=Rd.bind_some h;obtain⟨sv,h2,h⟩:=Rd.bind_some h;obtain⟨xv,h3,h⟩:=Rd.bind_some h;obtain⟨es,_⟩:=iJ dD h2;obtain⟨ex,_⟩:=iJ dD h3;have rq:=BK rq;have abH:=BK abH;have exec:∀{r w'},(g8 #[t,u] o.type #[a.eval s,a.eval x]).run P w= .ok r w'->(execOp a.eval o).run P w= .ok (.value r) w':=by intro r w' hr;obtain⟨cs,FW⟩:=mj (P:=P) (a:=a) (w:=w) ho hb;rw[FW,rq,abH];simp only[builtin,Ca,e9,Ao];exact iF hr
  have APP:((∃e',P.underlying u=aj (.slice e'))\/P.underlying u=aj .string)->∀b v wl,(EC E nm t sv xv).val σ=aj (b,v,wl)->b=ak->gD P E σ a w c o (wl++dw o (.v aq [v])):=by
   intro hu b v wl h hbt;obtain⟨ti,k1,h⟩:=Rd.bind_some h;have k1:=dS k1;split at h
   ·rename_i el s7 zq;obtain⟨te,k2,h⟩:=Rd.bind_some h;have k2:=dS k2;obtain⟨uS,h⟩:=cE h;obtain⟨⟨B0,xs,bl⟩,k3,h⟩:=Rd.bind_some h;obtain⟨⟨zm,ys,w2⟩,k4,h⟩:=Rd.bind_some h;obtain⟨_,k5,h⟩:=Rd.bind_some h;obtain⟨rfl,rfl,rfl⟩:=rN h;obtain⟨hf,jG⟩:=j9 k5;have ht:=oG hE k1 s7 zq;obtain⟨inf,hi,fX,hby,kH,hz⟩:=hE.info el te k2;obtain⟨z,Ih,CB,_⟩:=hz uS;obtain⟨p,g,hB⟩:=AF b8 k2 es k3;obtain⟨D,news,gx,rfl,hA,hM⟩:=Rf (P:=P) (z:=z.cells) hE b8 k2 kH hu ex k4;simp only[cK,aK,bf]at hbt;obtain⟨p',w',hr,hAd⟩:=sJ (P:=P) (w:=w) (ty:=o.type) (p:=p) (x:=a.eval x) ht hi Ih (by rw[CB,hB.sz];simp) (by rw[fX,hB.sz]) (λhn=>by rw[hB.at_.n,(hB.at_.nil hn).1];rfl) (λhn=>by obtain⟨vals,m1,m2,m3,m4,_⟩:=hB.at_.mem hn;exact⟨vals,m1,m2,m3,m4⟩) (by rw[hB.sz];exact hA) (by rw[hB.at_.n,hby];exact hbt.1) (by rw[hB.at_.n];exact hbt.2);rw[<-hB.v]at hr;exact Dl b8 dD hd k2 hf jG hB hM hAd (exec hr)
   ·simp at h
  have ZER:∀k,P.underlying u=aj (.int k)->∀(kn:mH) (n:az),a.eval x= .int kn n->∀b v wl,(Tt E nm t sv n).val σ=aj (b,v,wl)->b=ak->gD P E σ a w c o (wl++dw o (.v aq [v])):=by
   intro k hu kn n hxn b v wl h hbt;obtain⟨ti,k1,h⟩:=Rd.bind_some h;have k1:=dS k1;split at h
   ·rename_i el s7 zq;obtain⟨te,k2,h⟩:=Rd.bind_some h;have k2:=dS k2;obtain⟨N6,h⟩:=cE h;simp only[aK]at N6;obtain⟨uS,Lp⟩:=N6;obtain⟨⟨B0,xs,bl⟩,k3,h⟩:=Rd.bind_some h;obtain⟨_,k5,h⟩:=Rd.bind_some h;obtain⟨rfl,rfl,rfl⟩:=rN h;obtain⟨hf,jG⟩:=j9 k5;have ht:=oG hE k1 s7 zq;obtain⟨inf,hi,fX,hby,kH,hz⟩:=hE.info el te k2;obtain⟨z,Ih,CB,_⟩:=hz uS;obtain⟨p,g,hB⟩:=AF b8 k2 es k3;simp only[cK,aK,bf]at hbt;obtain⟨⟨c0,c1,c2⟩,c3⟩:=hbt;have Jx:(aT te.ks n.toNat).length=n.toNat:=by simp[aT]
    have hzc:fw z.cells n.toNat=madeCells (te.ks.map im).toArray (n.toNat*te.ks.length):=by rw[CB];show madeCells _ (n.toNat*(te.ks.map im).toArray.size)=_;simp
    have hA:App P w u (a.eval x) z.cells te.ks.length (aT te.ks n.toNat).length (fw z.cells n.toNat).toList:=by
     refine⟨.inr ⟨⟨k,hu⟩,⟨kn, ?_⟩, ?_⟩, ?_,λv hv=> ?_⟩
     ·rw[hxn,Jx,Int.toNat_of_nonneg c0]
     ·rw[Jx]
     ·rw[Jx,dN,size_zeroCells,CB];simp
     ·rw[hzc]at hv;obtain⟨q,hq⟩:=bZ hv;have UZ:q<n.toNat*te.ks.length:=by have:=(aU.1 hq).1;simpa [size_madeCells]using this
      have h1:q/te.ks.length<n.toNat:=by rw[wA kH];exact UZ
      have h2:q%te.ks.length<te.ks.length:=BV _ kH;have:=lj (n:=n.toNat) h1 (show te.ks[q%te.ks.length]? =aj te.ks[q%te.ks.length]by simp[h2]);rw[show q/te.ks.length*te.ks.length+q%te.ks.length=q by have:=H9 q te.ks.length;rw[CS]at this;exact this]at this;rw[cQ,this]at hq;cases hq;cases te.ks[q%te.ks.length]<;>rfl
    have hM:qD E σ w c te bl ak (aT te.ks n.toNat) [] (fw z.cells n.toNat).toList (JG E te.ks):=by
     refine⟨wy uS _,λ_ i y j x hy hx=> ?_,λh=>(by cases h),λ_ i j _ hn=>(by cases hn),λ_ i j _ _ _ _ hn=>(by cases hn),λn x hn=>(by cases hn)⟩
     obtain⟨gQ,k,hk,rfl⟩:=tB hy hx;refine⟨im k, ?_,Mr Lp uS hk⟩
     rw[hzc,cQ];exact lj gQ hk
    obtain⟨p',w',hr,hAd⟩:=sJ (P:=P) (w:=w) (ty:=o.type) (p:=p) (x:=a.eval x) ht hi Ih (by rw[CB,hB.sz];simp) (by rw[fX,hB.sz]) (λhn=>by rw[hB.at_.n,(hB.at_.nil hn).1];rfl) (λhn=>by obtain⟨vals,m1,m2,m3,m4,_⟩:=hB.at_.mem hn;exact⟨vals,m1,m2,m3,m4⟩) (by rw[hB.sz];exact hA) (by rw[hB.at_.n,hby,Jx];exact c1) (by rw[hB.at_.n,Jx];exact c2);rw[<-hB.v]at hr;have:=Dl b8 dD hd k2 hf jG hB hM hAd (exec hr);rw[pc]at this;exact this
   ·simp at h
  cases ku with
  |i k=>
   cases xv with
   |i k' n=>obtain⟨⟨b,v,wl⟩,h4,h⟩:=Rd.bind_some h;obtain rfl:=aF h;exact ZER k (xU hE h1) k' n ex b v wl h4 hc
   |_=>simp at h
  |l e'=>obtain⟨⟨b,v,wl⟩,h4,h⟩:=Rd.bind_some h;obtain rfl:=aF h;exact APP (.inl ⟨e',kg hE h1⟩) b v wl h4 hc
  |s=>obtain⟨⟨b,v,wl⟩,h4,h⟩:=Rd.bind_some h;obtain rfl:=aF h;exact APP (.inr (kJ hE h1)) b v wl h4 hc
  |b=>simp at h
  |o=>simp at h
 ·simp at h
end
end Go.FG

namespace Go.FG
section
variable {P:cR} {E:fF} {σ:St} {a:Act} {w:bF} {c:eO} {o:e8} {nm:aG} {e:rT}
theorem Ut:∀{xs:aA AV} {cs:aA CV},(P6.aaZ xs).val σ=aj cs->cs.length=xs.length/\∀(vals:di bg),fQ E w c vals xs->∀(q:aG) (x:CV),cs[q]? =aj x->∃u:bg,vals[q]? =aj u/\cZ E w c.K u x:=by
 intro xs;induction xs with
 |nil=>intro cs h;obtain rfl:=aF h;exact⟨rfl,λ_ _ q x hq=>by simp at hq⟩
 |cons a xs ih=>
  intro cs h;obtain⟨l,h1,h⟩:=Rd.bind_some h;obtain⟨i1,i2⟩:=ih h1;have main:∀cv,(∀u,ej E w c a u->cZ E w c.K u cv)->cs=cv::l->cs.length=(a::xs).length/\∀(vals:di bg),fQ E w c vals (a::xs)->∀(q:aG) (x:CV),cs[q]? =aj x->∃u:bg,vals[q]? =aj u/\cZ E w c.K u x:=by
   rintro cv XZ rfl;refine⟨by simp[i1],λvals hv q x hq=> ?_⟩
   cases q with
   |zero=>cases hq;obtain⟨u,hu,ha⟩:=hv.2 0 a rfl;exact⟨u,hu,XZ u ha⟩
   |succ q=>
    have Lw:fQ E w c (vals.extract 1 vals.size) xs:=by
     refine⟨by simp;have:=hv.1;simp at this;omega,λj b hj=> ?_⟩
     obtain⟨u,hu,hb⟩:=hv.2 (j+1) b hj;refine⟨u, ?_,hb⟩
     have:=(dQ.1 hu).1;rw[dW,bC (by omega),iL];exact hu
    obtain⟨u,r1,r2⟩:=i2 _ Lw q x hq;refine⟨u, ?_,r2⟩
    rw[dW]at r1;split at r1
    ·rw[iL];exact r1
    ·cases r1
  cases a with
  |i k n=>exact main (.i k n) (λu hu=>by rw[show u=_ from hu];exact .i _ _) (aF h).symm
  |b x=>exact main (.b x) (λu hu=>by rw[show u=_ from hu];exact .b _) (aF h).symm
  |s x=>exact main (.s x) (λu hu=>by rw[show u=_ from hu.1];exact .s _ hu.2) (aF h).symm
  |sh e xs=>exact main (.l e xs) (λu hu=>hu) (aF h).symm
  |_=>simp at h
def adM(E:fF)(σ:St)(w:bF)(c:eO)(D:aA (aG×Obj))(cs:aA CV)(v:bg):Prop:=
 ∃n,v= .pointer (aj (ad (c.P n).blk 0))/\(((n,Obj.nC cs)∈D)\/σ (cX n)= .o (.nC cs))
theorem Uu(b8:Ok E σ w c)(dD:e_ E σ a w c):∀{xs:aA dr} {l:aA (aA CV)} {ws:aA (aG×eE)},(P6 xs).val σ=aj (l,ws)->l.length=xs.length/\∃D,ws=jQ D/\
  (∀n x,(n,x)∈D->∃cs ys,x= .nC cs/\σ (cX n)= .o (.box ys)/\∀(q:aG) (y:CV),cs[q]? =aj y->∃u:bg,w.cell? (ad (c.P n).blk q)=aj u/\cZ E w c.K u y)/\
  ∀(q:aG) (cs:aA CV),l[q]? =aj cs->∃x,xs[q]? =aj x/\adM E σ w c D cs (a.eval x):=by
 intro xs;induction xs with
 |nil=>intro l ws h;obtain⟨rfl,rfl⟩:=bU (aF h);exact⟨rfl,[],rfl,λn x h=>(by cases h),λq cs h=>by simp at h⟩
 |cons x xs ih=>
  intro l ws h;obtain⟨v,h1,h⟩:=Rd.bind_some h;have hv:=(iJ dD h1).1;split at h
  ·rename_i n;obtain⟨ob,hg,h⟩:=Rd.bind_some h;have hg:=dt hg;have hv:a.eval x= .pointer (aj (ad (c.P n).blk 0)):=hv;cases ob with
   |box ys=>
    obtain⟨cs,h2,h⟩:=Rd.bind_some h;obtain⟨⟨l',CK⟩,h3,h⟩:=Rd.bind_some h;obtain⟨rfl,rfl⟩:=bU (aF h);obtain⟨i1,D,rfl,i2,i3⟩:=ih h3;obtain⟨_,c2⟩:=Ut (E:=E) (w:=w) (c:=c) h2;obtain⟨vals,hb,fX,XZ⟩:=b8.obj n _ hg;refine⟨by simp[i1],(n, .nC cs)::D,rfl,λm y hm=> ?_,λq cs' hq=> ?_⟩
    ·rcases cz.1 hm with hm|hm
     ·cases hm;refine⟨cs,ys,rfl,hg,λq y hq=> ?_⟩
      obtain⟨u,hu,hh⟩:=c2 vals ⟨fX,XZ⟩ q y hq;exact⟨u,(hb.cell q).trans hu,hh⟩
     ·exact i2 m y hm
    ·cases q with
     |zero=>cases hq;exact⟨x,rfl,n,hv, .inl (dy ..)⟩
     |succ q=>obtain⟨x',oW,m,e1,e2⟩:=i3 q cs' hq;exact⟨x',oW,m,e1,e2.imp (cW _) id⟩
   |nC cs=>
    obtain⟨⟨l',CK⟩,h3,h⟩:=Rd.bind_some h;obtain⟨rfl,rfl⟩:=bU (aF h);obtain⟨i1,D,rfl,i2,i3⟩:=ih h3;refine⟨by simp[i1],D,rfl,i2,λq cs' hq=> ?_⟩
    cases q with
    |zero=>cases hq;exact⟨x,rfl,n,hv, .inr hg⟩
    |succ q=>exact i3 q cs' hq
   |_=>simp at h
  ·simp at h
theorem HD(b8:Ok E σ w c)(dD:e_ E σ a w c)(hd:∀d,o.dst=aj d->d<a.tmps.size){fn:Fn}{first iC:di dr}(ho:o.op= .makeFunc fn first iC)(h:(lF E nm o).val σ=aj e):gD P E σ a w c o e.ws:=by
 cases fn with
 |func f=>
  simp only[lF,ho]at h;obtain⟨h1,h⟩:=cE h;obtain⟨⟨l,ws⟩,h2,h⟩:=Rd.bind_some h;obtain rfl:=aF h;obtain⟨hl,D,rfl,hD,MZ⟩:=Uu b8 dD h2;have Ie:first= #[]:=by simpa using h1
  let K':aG->Prop:=λb=>c.K b\/∃n x,(n,x)∈D/\b=(c.P n).blk;let c':eO:=⟨c.P,c.G,K'⟩
  have kin:∀b,c.K b->K' b:=λb h=> .inl h;have own:∀n x,(n,x)∈D->jJ (tC D) σ c (c.P n).blk:=λn x hm=>by obtain⟨cs,ys,_,hg,_⟩:=hD n x hm;exact⟨n,_,⟨x,hm⟩,hg,rfl⟩
  have fb:∀n cs,(n,Obj.nC cs)∈D->FB E w K' (c.P n).blk cs:=λn cs hm=>by obtain⟨cs',ys,hx,hg,hc⟩:=hD n _ hm;cases hx;exact⟨.inr ⟨n,_,hm,rfl⟩,λq x hq=>by obtain⟨u,hu,hh⟩:=hc q x hq;exact⟨u,hu,hh.frame (λ_ _=>rfl) kin⟩⟩
  refine Jl b8 dD hd (c':=c') (w':=w) (v:= .func (.func f) #[] (iC.map a.eval)) (λm _=>⟨rfl,rfl⟩) ?_ ?_ ?_ ?_ kin ?_ ?_ (λb _ _=>rfl) (cu _) rfl rfl rfl ?_ ?_ ?_
  ·intro n x hm;obtain⟨cs,ys,rfl,hg,hc⟩:=hD n x hm;exact fb n cs hm
  ·intro n x b hm hf;obtain⟨cs,ys,rfl,_⟩:=hD n x hm;exact hf.elim
  ·intro n x n' x' b hm _ hf;obtain⟨cs,ys,rfl,_⟩:=hD n x hm;exact hf.elim
  ·intro n xs hm;obtain⟨cs,ys,hx,_⟩:=hD n _ hm;cases hx
  ·rintro b (h|⟨n,x,hm,rfl⟩)
   ·exact .inl h
   ·exact .inr (.inl (own n x hm))
  ·rintro b (h|⟨n,x,hm,rfl⟩)
   ·exact b8.lt b h
   ·exact vj.lt b8 (own n x hm).own
  ·refine⟨iC.map a.eval,rfl,by simp[hl],λq cs hq=> ?_⟩
   obtain⟨x,hx,n,hv,hor⟩:=MZ q cs hq;rw[cQ]at hx;refine⟨(c.P n).blk,by rw[Mt,hx,<-hv];rfl, ?_⟩
   rcases hor with hm|hg
   ·exact fb n cs hm
   ·exact FB.frame (b8.obj n _ hg) (λ_ _=>rfl) kin
  ·intro n hn;simp[cD,bJ]at hn
  ·unfold execOp;rw[ho,Ie];refine iF (s:=Ty (.func f) ((#[]:di dr).map a.eval) (iC.map a.eval)) ?_;simp[Ty]
 |_=>simp[lF,ho]at h
end
end Go.FG

namespace Go.FG
theorem nh:∀{l:aA (aG×eE)} {k:aG} {c:eE},fO l k=c->c≠ .jH->(k,c)∈l:=by
 intro l;induction l with
 |nil=>intro k c h hc;exact cq h.symm hc
 |cons d l ih=>
  obtain⟨k',c'⟩:=d;intro k c h hc;unfold fO at h;cases hb:bA k k' with
  |true=>rw[hb]at h;have:=aX hb;subst this;have:c'=c:=h;subst this;exact dy ..
  |false=>rw[hb]at h;exact cW _ (ih h hc)
theorem q_:∀{l:aA (aG×eE)} {k:aG} {c:eE},(k,c)∈l->(∀d∈l,d.2≠ .jH)->fO l k≠ .jH:=by
 intro l;induction l with
 |nil=>intro k c h;cases h
 |cons d l ih=>
  obtain⟨k',c'⟩:=d;intro k c h hn;unfold fO;cases hb:bA k k' with
  |true=>exact hn _ (dy ..)
  |false=>
   rcases cz.1 h with h|h
   ·cases h;simp at hb
   ·exact ih h (λd hd=>hn d (cW _ hd))
theorem Ng{nm:aG}{a:AA}{k:aG}{c:eE}:(k,c)∈Dq nm a↔∃e ex xs,a= .ow e ex xs/\k=cX nm/\c= .o (.row e ex xs):=by
 cases a with
 |ow e ex xs=>simp only[Dq,aZ,iT];exact⟨λ⟨h1,h2⟩=>⟨e,ex,xs,rfl,h1,h2⟩,λ⟨e',s6,Kk,h,h1,h2⟩=>by cases h;exact⟨h1,h2⟩⟩
 |_=>simp[Dq]
theorem Ba:∀{xs:aA AA} {nm:aG} {k:aG} {c:eE},(k,c)∈sq nm xs↔∃j e ex ys,xs[j]? =aj (.ow e ex ys)/\k=cX (nm+j)/\c= .o (.row e ex ys):=by
 intro xs;induction xs with
 |nil=>intro nm k c;simp[sq]
 |cons a xs ih=>
  intro nm k c;simp only[sq,a_,Ng,ih];constructor
  ·rintro (⟨e,ex,ys,rfl,h1,h2⟩|⟨j,e,ex,ys,h0,h1,h2⟩)
   ·exact⟨0,e,ex,ys,rfl,h1,h2⟩
   ·exact⟨j+1,e,ex,ys,h0,by rw[h1];congr 1;omega,h2⟩
  ·rintro ⟨j,e,ex,ys,h0,h1,h2⟩;cases j with
   |zero=>cases h0;exact .inl ⟨e,ex,ys,rfl,h1,h2⟩
   |succ j=>exact .inr ⟨j,e,ex,ys,h0,by rw[h1];congr 1;omega,h2⟩
theorem h_{p:aG}{a:eV}{k:aG}{c:eE}:(k,c)∈uf p a↔(∃xs,a= .pt xs/\k=cX (dO p 900)/\c= .o (.box (gi (dO p 0) xs)))\/∃xs j e ex ys,((∃g,a= .v g xs)\/a= .pt xs)/\xs[j]? =aj (.ow e ex ys)/\k=cX (dO p j)/\c= .o (.row e ex ys):=by
 have hn:∀j,dO p 0+j=dO p j:=λj=>by unfold dO;omega
 cases a with
 |v g xs=>
  simp only[uf,Ba,hn];constructor
  ·rintro ⟨j,e,ex,ys,h⟩;exact .inr ⟨xs,j,e,ex,ys, .inl ⟨g,rfl⟩,h⟩
  ·rintro (⟨Kk,h,_⟩|⟨Kk,j,e,ex,ys,h,h'⟩)
   ·cases h
   ·rcases h with ⟨g',h⟩|h<;>cases h;exact⟨j,e,ex,ys,h'⟩
 |pt xs=>
  simp only[uf,cz,Ba,hn,iT];constructor
  ·rintro (⟨h1,h2⟩|⟨j,e,ex,ys,h⟩)
   ·exact .inl ⟨xs,rfl,h1,h2⟩
   ·exact .inr ⟨xs,j,e,ex,ys, .inr rfl,h⟩
  ·rintro (⟨Kk,h,h1,h2⟩|⟨Kk,j,e,ex,ys,h,h'⟩)
   ·cases h;exact .inl ⟨h1,h2⟩
   ·rcases h with ⟨g',h⟩|h<;>cases h;exact .inr ⟨j,e,ex,ys,h'⟩
 |fb xs=>
  simp only[uf,jC,false_iff];rintro (⟨Kk,h,_⟩|⟨Kk,j,e,ex,ys,h,h'⟩)
  ·cases h
  ·rcases h with ⟨g',h⟩|h<;>cases h
theorem lk:∀{l:aA eV} {q:aG} {k:aG} {c:eE},(k,c)∈Jy q l↔∃p a,l[p]? =aj a/\((k=pS (q+p)/\c= .v (sr (q+p) a))\/(k,c)∈uf (q+p) a):=by
 intro l;induction l with
 |nil=>intro q k c;simp[Jy]
 |cons a l ih=>
  intro q k c;simp only[Jy,cz,a_,ih,iT];constructor
  ·rintro ((⟨h1,h2⟩|h)|⟨p,b,h0,h⟩)
   ·exact⟨0,a,rfl, .inl ⟨h1,h2⟩⟩
   ·exact⟨0,a,rfl, .inr h⟩
   ·exact⟨p+1,b,h0,by rw[show q+(p+1)=q+1+p by omega];exact h⟩
  ·rintro ⟨p,b,h0,h⟩;cases p with
   |zero=>
    cases h0;rcases h with ⟨h1,h2⟩|h
    ·exact .inl (.inl ⟨h1,h2⟩)
    ·exact .inl (.inr h)
   |succ p=>exact .inr (⟨p,b,h0,by rw[show q+1+p=q+(p+1)by omega];exact h⟩)
theorem Hk{l:aA eV}{q:aG}:∀d∈Jy q l,d.2≠ .jH:=by
 rintro ⟨k,c⟩ h;obtain⟨p,a,_,h⟩:=lk.1 h;rcases h with ⟨_,h⟩|h
 ·rw[h];simp
 ·rcases h_.1 h with ⟨_,_,_,h⟩|⟨_,_,_,_,_,_,_,_,h⟩<;>rw[h]<;>simp
theorem zO{args:aA eV}{m:aG}{ob:Obj}(h:inj args (cX m)= .o ob):∃p a,args[p]? =aj a/\((∃xs,a= .pt xs/\m=dO p 900/\ob= .box (gi (dO p 0) xs))\/∃xs j e ex ys,((∃g,a= .v g xs)\/a= .pt xs)/\xs[j]? =aj (.ow e ex ys)/\m=dO p j/\ob= .row e ex ys):=by
 obtain⟨p,a,h0,h⟩:=lk.1 (nh h (by simp));rw[bT]at h;refine⟨p,a,h0, ?_⟩
 rcases h with ⟨h,_⟩|h
 ·exact cq h (lL _ _)
 ·rcases h_.1 h with ⟨xs,h1,h2,h3⟩|⟨xs,j,e,ex,ys,h1,h2,h3,h4⟩
  ·cases h3;exact .inl ⟨xs,h1,jE h2,rfl⟩
  ·cases h4;exact .inr ⟨xs,j,e,ex,ys,h1,h2,jE h3,rfl⟩
theorem Hm{args:aA eV}{n:aG}:(∃a,args[n]? =aj a/\slot (inj args) n=sr n a)\/slot (inj args) n= .un:=by
 unfold slot;cases h:inj args (pS n)with
 |v x=>
  obtain⟨p,a,h0,h⟩:=lk.1 (nh h (by simp));rw[bT]at h;rcases h with ⟨h1,h2⟩|h
  ·have:=Fv h1;subst this;cases h2;exact .inl ⟨a,h0,rfl⟩
  ·rcases h_.1 h with ⟨_,_,h,_⟩|⟨_,_,_,_,_,_,_,h,_⟩<;>exact cq h (qY _ _)
 |o=>exact .inr rfl
 |jH=>exact .inr rfl
theorem qi{args:aA eV}{p:aG}{a:eV}(h:args[p]? =aj a):(∀xs,a= .pt xs->inj args (cX (dO p 900))≠ .jH)/\∀xs j e ex ys,((∃g,a= .v g xs)\/a= .pt xs)->xs[j]? =aj (.ow e ex ys)->inj args (cX (dO p j))≠ .jH:=by
 constructor
 ·intro xs hx;exact q_ (lk.2 ⟨p,a,h, .inr (h_.2 (.inl ⟨xs,hx,by rw[bT],rfl⟩))⟩) Hk
 ·intro xs j e ex ys hx hj;exact q_ (lk.2 ⟨p,a,h, .inr (h_.2 (.inr ⟨xs,j,e,ex,ys,hx,hj,by rw[bT],rfl⟩))⟩) Hk
theorem ie:∀{xs:aA AA} {nm j:aG},(gi nm xs)[j]? =(xs[j]?).map (kQ (nm+j)):=by
 intro xs;induction xs with
 |nil=>intro nm j;simp[gi]
 |cons a xs ih=>
  intro nm j;cases j with
  |zero=>rfl
  |succ j=>simp only[gi,dI,ih];congr 2;omega
theorem iA:∀{xs:aA AA} {nm:aG},(gi nm xs).length=xs.length:=by
 intro xs;induction xs with
 |nil=>intro nm;rfl
 |cons a xs ih=>intro nm;simp[gi,ih]
theorem sA{nm:aG}{a:AA}{n:aG}(h:n∈bJ (kQ nm a)):n=nm/\∃e ex ys,a= .ow e ex ys:=by cases a<;>simp[kQ,bJ]at h;exact⟨h,_,_,_,rfl⟩
theorem Hl{args:aA eV}(n:aG):mf (inj args) (slot (inj args) n):=by
 rcases Hm (args:=args) (n:=n)with ⟨a,h0,h⟩|h
 ·rw[h];intro m hm;have cells:∀xs,((∃g,a= .v g xs)\/a= .pt xs)->m∈(gi (dO n 0) xs).flatMap bJ->inj args (cX m)≠ .jH:=by
   intro xs hx hm;obtain⟨v,hv,hm⟩:=bG.1 hm;obtain⟨j,hj⟩:=bZ hv;rw[ie]at hj;cases hy:xs[j]? with
   |none=>rw[hy]at hj;cases hj
   |some y=>
    rw[hy]at hj;cases hj;obtain⟨rfl,e,ex,ys,rfl⟩:=sA hm;have:=(qi h0).2 xs j e ex ys hx hy;have hn:dO n 0+j=dO n j:=by unfold dO;omega
    rw[hn];exact this
  cases a with
  |v g xs=>exact cells xs (.inl ⟨g,rfl⟩) hm
  |pt xs=>
   have:m=dO n 900:=by simpa [sr,cD,bJ]using hm
   rw[this];exact(qi h0).1 xs rfl
  |fb xs=>simp[sr,cD,bJ]at hm
 ·rw[h];intro m hm;simp[cD]at hm
theorem E3{args:aA eV}{nm:aG}{xs:aA AV}(h:inj args (cX nm)= .o (.box xs)):∀a∈xs,iU (inj args) a:=by
 obtain⟨p,a,h0,hh⟩:=zO h;rcases hh with ⟨ys,rfl,_,hb⟩|⟨_,_,_,_,_,_,_,_,hb⟩
 ·cases hb;intro v hv m hm;obtain⟨j,hj⟩:=bZ hv;rw[ie]at hj;cases hy:ys[j]? with
  |none=>rw[hy]at hj;cases hj
  |some y=>
   rw[hy]at hj;cases hj;obtain⟨rfl,e,ex,zs,rfl⟩:=sA hm;have:=(qi h0).2 ys j e ex zs (.inr rfl) hy;have hn:dO p 0+j=dO p j:=by unfold dO;omega
   rw[hn];exact this
 ·cases hb
end Go.FG

namespace Go.FG
theorem td{p j:aG}(h:j<1000):(dO p j-900000000)/1000=p/\(dO p j-900000000)%1000=j:=by unfold dO;omega
theorem Bh(p j:aG):900000000<=dO p j:=by unfold dO;omega
theorem tf{p j p' j':aG}(h:j<1000)(h':j'<1000)(e:dO p j=dO p' j'):p=p'/\j=j':=by unfold dO at e;omega
section
variable {P:cR} {E:fF} {σ:St} {a:Act} {w:bF} {c:eO} {o:e8} {nm:aG} {e:rT}
theorem qX(b8:Ok E σ w c){n el:aG}{ex:aY}{xs:aW}(hg:σ (cX n)= .o (.row el ex xs)){K:aG->Prop}(hK:∀b,c.K b->K b)(hF:∀b,fu c n (.row el ex xs) b->K b):cZ E w K (lh (c.P n)) (.l el xs):=by
 obtain⟨⟨t2,q1,q2,q3⟩,q4,q5⟩:=b8.obj n _ hg;refine pA q1 q2 q3 (q4.frame (λ_=>rfl) (λi j y x u hy hx hr=> ?_)) (λhn=>hF _ (.inl ⟨hn,rfl⟩));split at hr
 ·rename_i oW;exact wx hr (λhl hn=>hF _ (.inr ⟨oW,i,j,⟨y,x,hy,hx,hl⟩,hn,rfl⟩))
 ·exact hr.frame (λ_ _=>rfl) hK
theorem DJ(b8:Ok E σ w c){n el:aG}{ex:aY}{xs:aW}(hg:σ (cX n)= .o (.row el ex xs)){K:aG->Prop}(hK:∀b,c.K b->K b)(hF:∀b,fu c n (.row el ex xs) b->K b){lo hi:aG}{v:bg}(hv:vA (c.P n) lo hi v):cZ E w K v (.l el (eT xs lo hi)):=by obtain⟨⟨t2,q1,q2,q3⟩,q4,q5⟩:=b8.obj n _ hg;exact Hf q1 (qX b8 hg hK hF) q4.n q2 hv
def K1r(σ:St)(c:eO)(mW:aA aG)(b:aG):Prop:=c.K b\/∃n∈mW,∃o,σ (cX n)= .o o/\fu c n o b
def uE(T:Tab)(σ:St)(w:bF)(c:eO)(mW:aA aG)(k:Pk)(u:bg):Prop:=
 match k.src with
 | .own nm e ex=>∃xs,σ (cX nm)= .o (.row e ex xs)/\k.a= .ow e ex xs/\u=lh (c.P nm)
 | .no=>(∀c1:eO,(∀b,K1r σ c mW b->c1.K b)->∀nm,ej T w c1 (kQ nm k.a) u)/\∀e ex xs,k.a≠ .ow e ex xs
theorem uE.mono{T:Tab}{mW R5:aA aG}{k:Pk}{u:bg}(h:uE T σ w c mW k u)(hs:∀n∈mW,n∈R5):uE T σ w c R5 k u:=by
 unfold uE at h⊢;split
 ·rename_i hk;rw[hk]at h;exact h
 ·rename_i hk;rw[hk]at h;exact⟨λc1 h1=>h.1 c1 (λb hb=>h1 b (hb.imp id (λ⟨n,hn,hh⟩=>⟨n,hs n hn,hh⟩))),h.2⟩
theorem Bs(b8:Ok E σ w c){mt:aY}{x:AV}{k:Pk}{u:bg}(h:(yU E mt x).val σ=aj k)(hx:ej E w c x u):uE E σ w c k.rd k u:=by
 have rd:∀{n el:aG} {ex:aY} {xs:aW},σ (cX n)= .o (.row el ex xs)->∀c1:eO,(∀b,K1r σ c [n] b->c1.K b)->(∀b,c.K b->c1.K b)/\∀b,fu c n (.row el ex xs) b->c1.K b:=λhg c1 h=>⟨λb hb=>h b (.inl hb),λb hb=>h b (.inr ⟨_,aZ.2 rfl,_,hg,hb⟩)⟩
 cases x with
 |i=>obtain rfl:=aF h;exact⟨λc1 _ _=>hx,λ_ _ _ hh=>by cases hh⟩
 |b=>obtain rfl:=aF h;exact⟨λc1 _ _=>hx,λ_ _ _ hh=>by cases hh⟩
 |s=>obtain rfl:=aF h;exact⟨λc1 _ _=>hx,λ_ _ _ hh=>by cases hh⟩
 |nl=>obtain rfl:=aF h;exact⟨λc1 _ _=>hx,λ_ _ _ hh=>by cases hh⟩
 |sh e xs=>obtain rfl:=aF h;exact⟨λc1 h1 _=>cZ.frame hx (λ_ _=>rfl) (λb hb=>h1 b (.inl hb)),λ_ _ _ hh=>by cases hh⟩
 |fn f iC=>obtain rfl:=aF h;exact⟨λc1 h1 _=>ej.frame (a:= .fn f iC) hx (λ_ _=>rfl) (λb hb=>h1 b (.inl hb)) (λn hn=>by simp[bJ]at hn),λ_ _ _ hh=>by cases hh⟩
 |own n=>
  obtain⟨ob,hg,h⟩:=Rd.bind_some h;have hg:=dt hg;have hx:u=lh (c.P n):=hx;cases ob with
  |row el ex xs=>
   cases mt with
   |true=>obtain rfl:=aF h;exact⟨xs,hg,rfl,hx⟩
   |false=>
    obtain rfl:=aF h;refine⟨λc1 h1 _=> ?_,λ_ _ _ hh=>by cases hh⟩
    obtain⟨r1,r2⟩:=rd hg c1 h1;rw[hx];exact qX b8 hg r1 r2
  |fI el xs=>
   obtain rfl:=aF h;refine⟨λc1 h1 _=> ?_,λ_ _ _ hh=>by cases hh⟩
   rw[hx];exact cZ.frame (b8.obj n _ hg).1 (λ_ _=>rfl) (λb hb=>h1 b (.inl hb))
  |_=>simp at h
 |vw n lo hi=>
  cases mt with
  |true=>simp[yU]at h
  |false=>
  obtain⟨ob,hg,h⟩:=Rd.bind_some h;have hg:=dt hg;cases ob with
  |row el ex xs=>
   obtain rfl:=aF h;refine⟨λc1 h1 _=> ?_,λ_ _ _ hh=>by cases hh⟩
   obtain⟨r1,r2⟩:=rd hg c1 h1;exact DJ b8 hg r1 r2 hx
  |fI el xs=>
   obtain rfl:=aF h;refine⟨λc1 h1 _=> ?_,λ_ _ _ hh=>by cases hh⟩
   exact cZ.frame (oL b8 hg hx) (λ_ _=>rfl) (λb hb=>h1 b (.inl hb))
  |_=>simp at h
 |inn n i j=>
  obtain⟨ob,hg,h⟩:=Rd.bind_some h;have hg:=dt hg;cases ob with
  |row el ex xs=>
   cases ex with
   |false=>simp at h
   |true=>
   obtain⟨te,ht,h⟩:=Rd.bind_some h;have ht:=dS ht;split at h
   ·rename_i e2 zp;obtain⟨t2,E1,h⟩:=Rd.bind_some h;obtain⟨_,h⟩:=cE h;obtain rfl:=aF h;obtain⟨⟨hi,hx⟩,_⟩:=hx;obtain⟨zs,y,t3,q1,q2,q3,q4,q5,q6,q7,q8⟩:=zP b8 hg ht zp hi;refine⟨λc1 h1 _=> ?_,λ_ _ _ hh=>by cases hh⟩
    show cZ E w c1.K u (.l e2 (jx (aw xs i j)));rw[fc q1 q2,hx];obtain⟨r1,r2⟩:=rd hg c1 h1;exact pA q3 q5 q6 (q7.frame (λ_=>rfl) (λi' j' y' x' u' hy' oW hr=>kl (gX q4 (q6 y' (aQ hy')) oW) hr)) (λhn=>r2 _ (.inr ⟨rfl,i,j,⟨y,_,q1,q2,rfl⟩,hn,rfl⟩))
   ·simp at h
  |_=>simp at h
 |_=>simp[yU]at h
theorem DB(b8:Ok E σ w c){mt:aY}:∀{xs:aA AV} {l:aA Pk},(Bt E mt xs).val σ=aj l->l.length=xs.length/\∀(j:aG) (k:Pk),l[j]? =aj k->∃x,xs[j]? =aj x/\(yU E mt x).val σ=aj k:=by
 intro xs;induction xs with
 |nil=>intro l h;obtain rfl:=aF h;exact⟨rfl,λj k h=>by simp at h⟩
 |cons x xs ih=>
  intro l h;obtain⟨k,h1,h⟩:=Rd.bind_some h;obtain⟨l',h2,h⟩:=Rd.bind_some h;obtain rfl:=aF h;obtain⟨i1,i2⟩:=ih h2;refine⟨by simp[i1],λj k' hj=> ?_⟩
  cases j with
  |zero=>cases hj;exact⟨x,rfl,h1⟩
  |succ j=>exact i2 j k' hj
structure zd (T:Tab) (σ:St) (w:bF) (c:eO) (mW:aA aG) (pa:Pa) (v:bg):Prop where
 len:pa.cs.length<=100
 val:pa.box=ao->∃agg,pa.arg= .v agg (pa.cs.map (·.a))/\((agg=aq/\∃k,pa.cs=[k]/\uE T σ w c mW k v)\/(agg=ak/\∃vals:di bg,v= .agg vals/\vals.size=pa.cs.length/\∀(j:aG) (k:Pk),pa.cs[j]? =aj k->∃u:bg,vals[j]? =aj u/\uE T σ w c mW k u))
 box:∀n xs,pa.box=aj (n,xs)->pa.arg= .pt (pa.cs.map (·.a))/\v= .pointer (aj (ad (c.P n).blk 0))/\σ (cX n)= .o (.box xs)/\pa.cs.length=xs.length/\
  (∃vals,nq w (c.P n).blk vals/\vals.size=xs.length/\∀(j:aG) (k:Pk),pa.cs[j]? =aj k->∃u:bg,vals[j]? =aj u/\uE T σ w c mW k u)/\
  ∀(j:aG) (k:Pk) (nm e:aG) (ex:aY),pa.cs[j]? =aj k->k.src= .own nm e ex->xs[j]? =aj (.own nm)
theorem Fa{pa:Pa}{j:aG}{k:Pk}(h:pa.cs[j]? =aj k):∀n∈k.rd,n∈pa.mW:=λn hn=>bG.2 ⟨k,aQ h,hn⟩
theorem Nt{mt:aY}{x:AV}{k:Pk}(h:(yU E mt x).val σ=aj k){nm e:aG}{ex:aY}(hs:k.src= .own nm e ex):x= .own nm:=by
 cases x with
 |own n=>
  obtain⟨ob,hg,h⟩:=Rd.bind_some h;cases ob with
  |row el s6 xs=>
   cases mt with
   |true=>obtain rfl:=aF h;cases hs;rfl
   |false=>obtain rfl:=aF h;cases hs
  |fI el xs=>obtain rfl:=aF h;cases hs
  |_=>simp at h
 |vw n lo hi=>
  cases mt with
  |true=>simp[yU]at h
  |false=>
  obtain⟨ob,hg,h⟩:=Rd.bind_some h;cases ob with
  |row=>obtain rfl:=aF h;cases hs
  |fI=>obtain rfl:=aF h;cases hs
  |_=>simp at h
 |inn n i j=>
  obtain⟨ob,hg,h⟩:=Rd.bind_some h;cases ob with
  |row el ex xs=>
   cases ex with
   |false=>simp at h
   |true=>
   obtain⟨te,ht,h⟩:=Rd.bind_some h;split at h
   ·obtain⟨t2,E1,h⟩:=Rd.bind_some h;obtain⟨_,h⟩:=cE h;obtain rfl:=aF h;cases hs
   ·simp at h
  |_=>simp at h
 |i=>obtain rfl:=aF h;cases hs
 |b=>obtain rfl:=aF h;cases hs
 |s=>obtain rfl:=aF h;cases hs
 |nl=>obtain rfl:=aF h;cases hs
 |sh=>obtain rfl:=aF h;cases hs
 |fn=>obtain rfl:=aF h;cases hs
 |_=>simp[yU]at h
theorem Uq(b8:Ok E σ w c){mt:aY}{x:SV}{pa:Pa}{v:bg}(h:(aaS E mt x).val σ=aj pa)(hl:pa.cs.length<=100)(hx:iW E w c x v):zd E σ w c pa.mW pa v:=by
 have gen:∀agg xs,x= .v agg xs->((Bt E mt xs).bind λl=>Rd.ret (⟨.v agg (l.map (·.a)),ao,l⟩:Pa)).val σ=aj pa->zd E σ w c pa.mW pa v:=by
  rintro agg xs rfl h;obtain⟨l,h1,h⟩:=Rd.bind_some h;obtain rfl:=aF h;obtain⟨i1,i2⟩:=DB b8 h1;refine⟨hl,λ_=>⟨agg,rfl, ?_⟩,λn ys hb=>by cases hb⟩
  replace hx:pM E w c agg xs v:=hx;unfold pM at hx;split at hx
  ·rename_i y;left;obtain⟨k,rfl⟩:=gF.1 (i1.trans rfl);obtain⟨y',hy,hk⟩:=i2 0 k rfl;cases hy;exact⟨rfl,k,rfl,(Bs b8 hk hx).mono (Fa (j:=0) (pa:=⟨.v aq ([k].map (·.a)),ao,[k]⟩) rfl)⟩
  ·obtain⟨vals,rfl,hs,hv⟩:=hx;right;refine⟨rfl,vals,rfl,by rw[hs];exact i1.symm,λj k hj=> ?_⟩
   obtain⟨y,hy,hk⟩:=i2 j k hj;obtain⟨u,hu,ha⟩:=hv j y hy;exact⟨u,hu,(Bs b8 hk ha).mono (Fa (j:=j) (pa:=⟨.v ak (l.map (·.a)),ao,l⟩) hj)⟩
  ·exact hx.elim
 unfold aaS at h;split at h
 ·rename_i n;obtain⟨_,h⟩:=cE h;obtain⟨ob,hg,h⟩:=Rd.bind_some h;have hg:=dt hg;cases ob with
  |box xs=>
   obtain⟨l,h1,h⟩:=Rd.bind_some h;obtain rfl:=aF h;obtain⟨i1,i2⟩:=DB b8 h1;obtain⟨vals,hb,hs,hv⟩:=b8.obj n _ hg;refine⟨hl,λhb=>(by cases hb),λm ys N4=> ?_⟩
   cases N4;refine⟨rfl,hx,hg,i1,⟨vals,hb,hs,λj k hj=> ?_⟩,λj k nm e ex hj Cz=> ?_⟩
   ·obtain⟨y,hy,hk⟩:=i2 j k hj;obtain⟨u,hu,ha⟩:=hv j y hy;exact⟨u,hu,(Bs b8 hk ha).mono (Fa (j:=j) (pa:=⟨.pt (l.map (·.a)),aj (n,xs),l⟩) hj)⟩
   ·obtain⟨y,hy,hk⟩:=i2 j k hj;rw[hy,Nt hk Cz]
  |_=>simp at h
 ·rename_i agg xs _;exact gen _ _ rfl h
 ·simp at h
theorem LI{T:Tab}{k:Ck}{y:AV}{u:bg}(h:ej T w c y u):ej T w c (Wp k y) u:=by
 unfold Wp;split
 ·rename_i e;have:u= .slice ao 0 0:=h;subst this;exact .nl _ _ _
 ·exact h
theorem Hz:∀(ks:aA Ck) (xs:aA AV),(Bg ks xs).length=xs.length
 |[],[]=>rfl
 |[],_::_=>rfl
 |_::_,[]=>rfl
 |k::ks,y::r=>by simp[Bg,Hz ks r]
theorem LJ{T:Tab}:∀(ks:aA Ck) (xs:aA AV) (j:aG) (y:AV),(Bg ks xs)[j]? =aj y->∃z,xs[j]? =aj z/\∀u,ej T w c z u->ej T w c y u
 |[],xs,j,y,h=>⟨y,by simpa [Bg]using h,λ_ h=>h⟩
 |_::_,[],j,y,h=>by simp[Bg]at h
 |k::ks,x::r,0,y,h=>by
  simp only[Bg,rF,jh]at h;subst h;exact⟨x,rfl,λu hu=>LI hu⟩
 |k::ks,x::r,j+1,y,h=>by simp only[Bg,dI]at h;exact LJ ks r j y h
theorem acj{T:Tab}{t:aC aG}{s:SV}{v:bg}(h:iW T w c s v):iW T w c (nlz T t s) v:=by
 unfold nlz;split
 ·exact h
 ·split
  ·rename_i ti g xs _;have h:pM T w c g xs v:=h;show pM T w c g (Bg ti.ks xs) v;unfold pM at h;split at h
   ·rename_i y;cases hk:ti.ks with
    |nil=>exact h
    |cons k ks=>
     have e:∀z,Bg (k::ks) [z]=[Wp k z]:=λz=>by cases ks<;>rfl
     rw[e];exact LI h
   ·obtain⟨vals,h1,h2,h3⟩:=h;refine⟨vals,h1,by rw[Hz];exact h2,λj y hj=> ?_⟩
    obtain⟨z,hz,hy⟩:=LJ (T:=T) (w:=w) (c:=c) ti.ks _ j y hj;obtain⟨u,hu,ha⟩:=h3 j z hz;exact⟨u,hu,hy u ha⟩
   ·cases h
  ·exact h
theorem PX(b8:Ok E σ w c)(dD:e_ E σ a w c){f:aG}{Ob:aC (aA aG)}:∀{xs:aA dr} {p:aG} {ps:aA Pa},(PW E f Ob p xs).val σ=aj ps->ps.length=xs.length/\∀(q:aG) (pa:Pa),ps[q]? =aj pa->∃x,xs[q]? =aj x/\zd E σ w c pa.mW pa (a.eval x):=by
 intro xs;induction xs with
 |nil=>intro p ps h;obtain rfl:=aF h;exact⟨rfl,λq pa h=>by simp at h⟩
 |cons x xs ih=>
  intro p ps h;obtain⟨v,h1,h⟩:=Rd.bind_some h;obtain⟨pa,h2,h⟩:=Rd.bind_some h;obtain⟨hl,h⟩:=cE h;obtain⟨l,h3,h⟩:=Rd.bind_some h;obtain rfl:=aF h;obtain⟨i1,i2⟩:=ih h3;refine⟨by simp[i1],λq pa' hq=> ?_⟩
  cases q with
  |zero=>
   cases hq;refine⟨x,rfl,Uq b8 h2 (cC hl) ?_⟩
   cases E.mode f p with
   |true=>exact(lM dD h1).1
   |false=>exact acj (lM dD h1).1
  |succ q=>exact i2 q pa' hq
theorem zd.mono{T:Tab}{mW R5:aA aG}{pa:Pa}{v:bg}(h:zd T σ w c mW pa v)(hs:∀n∈mW,n∈R5):zd T σ w c R5 pa v:=by
 refine⟨h.len,λhb=> ?_,λn xs hb=> ?_⟩
 ·obtain⟨agg,h1,h2⟩:=h.val hb;refine⟨agg,h1, ?_⟩
  rcases h2 with ⟨h3,k,h4,h5⟩|⟨h3,vals,h4,h5,h6⟩
  ·exact .inl ⟨h3,k,h4,h5.mono hs⟩
  ·exact .inr ⟨h3,vals,h4,h5,λj k hj=>by obtain⟨u,hu,hk⟩:=h6 j k hj;exact⟨u,hu,hk.mono hs⟩⟩
 ·obtain⟨h1,h2,h3,h4,⟨vals,h5,h6,h7⟩,h8⟩:=h.box n xs hb;exact⟨h1,h2,h3,h4,⟨vals,h5,h6,λj k hj=>by obtain⟨u,hu,hk⟩:=h7 j k hj;exact⟨u,hu,hk.mono hs⟩⟩,h8⟩
end
end Go.FG

namespace Go.FG
theorem ll{α:Type}{f:α->aA aG}:∀{l:aA α},(l.flatMap f).Nodup->(∀(i j:aG) (x y:α) (z:aG),l[i]? =aj x->l[j]? =aj y->z∈f x->z∈f y->i=j)/\∀x∈l,(f x).Nodup:=by
 intro l;induction l with
 |nil=>intro _;exact⟨λi j x y z h=>by simp at h,λx h=>by cases h⟩
 |cons a l ih=>
  intro h;rw[wO]at h;obtain⟨h1,h2,h3⟩:=ea.1 h;obtain⟨i1,i2⟩:=ih h2;refine⟨λi j x y z hi hj hx hy=> ?_,λx hx=> ?_⟩
  ·cases i with
   |zero=>
    cases hi;cases j with
    |zero=>rfl
    |succ j=>exact cq rfl (h3 z hx z (bG.2 ⟨y,aQ hj,hy⟩))
   |succ i=>
    cases j with
    |zero=>cases hj;exact cq rfl (h3 z hy z (bG.2 ⟨x,aQ hi,hx⟩))
    |succ j=>rw[i1 i j x y z hi hj hx hy]
  ·rcases cz.1 hx with rfl|hx
   ·exact h1
   ·exact i2 x hx
def loc(ps:aA Pa)(m:aG):aC aG:=
 match ps[(m-900000000)/1000]? with
 |none=>ao
 |some pa=>if(m-900000000)%1000=900 then pa.box.map (·.1)else(pa.cs[(m-900000000)%1000]?).bind λk=>match k.src with| .own nm _ _=>aj nm| .no=>ao
theorem E8{ps:aA Pa}{p j:aG}{pa:Pa}{k:Pk}{nm e:aG}{ex:aY}(hp:ps[p]? =aj pa)(hj:pa.cs[j]? =aj k)(hs:k.src= .own nm e ex)(hl:j<900):loc ps (dO p j)=aj nm:=by obtain⟨h1,h2⟩:=td (p:=p) (j:=j) (by omega);unfold loc;rw[h1,h2,hp];simp only;rw[bM (by omega),hj];simp only[Option.bind_some,hs]
theorem zR{ps:aA Pa}{p n:aG}{pa:Pa}{xs:aA AV}(hp:ps[p]? =aj pa)(hb:pa.box=aj (n,xs)):loc ps (dO p 900)=aj n:=by obtain⟨h1,h2⟩:=td (p:=p) (j:=900) (by omega);unfold loc;rw[h1,h2,hp];simp[hb]
def qg(σ:St)(c:eO)(ps:aA Pa):eO:=
 ⟨λm=>match loc ps m with|some n=>c.P n|none=>⟨ak,0,0,0,0,0⟩,λm=>match loc ps m with|some n=>c.G n|none=>λ_ _=>⟨ak,0,0,0,0,0⟩,K1r σ c (ps.flatMap (·.mW))⟩
theorem sZ{σ:St}{c:eO}{ps:aA Pa}{m n:aG}(h:loc ps m=aj n):(qg σ c ps).P m=c.P n/\(qg σ c ps).G m=c.G n:=by unfold qg;simp only[h];exact⟨trivial,trivial⟩
section
variable {P:cR} {E:fF} {σ:St} {a:Act} {w:bF} {c:eO} {o:e8} {nm:aG} {e:rT}
structure Handed (T:Tab) (σ:St) (w:bF) (c:eO) (ps:aA Pa) (zJ:aA (aA CV)) (vs:di bg):Prop where
 size:vs.size=ps.length+zJ.length
 at_:∀(q:aG) (pa:Pa),ps[q]? =aj pa->∃v,vs[q]? =aj v/\zd T σ w c (ps.flatMap (·.mW)) pa v
 fb:∀(q:aG) (cs:aA CV),zJ[q]? =aj cs->∃b,vs[ps.length+q]? =aj (.pointer (aj (ad b 0)))/\FB T w c.K b cs
 nd:(ps.flatMap (·.tc)).Nodup
 ap:∀n∈ps.flatMap (·.tc),n∉ps.flatMap (·.mW)
def jo(ps:aA Pa)(zJ:aA (aA CV)):aA eV:=ps.map (·.arg)++zJ.map eV.fb
theorem uM{ps:aA Pa}{zJ:aA (aA CV)}{p:aG}{x:eV}(h:(jo ps zJ)[p]? =aj x):(∃pa,ps[p]? =aj pa/\x=pa.arg)\/(ps.length<=p/\∃cs,zJ[p-ps.length]? =aj cs/\x= .fb cs):=by
 unfold jo at h;by_cases hp:p<ps.length
 ·rw[dj (by simpa using hp),bE]at h;cases hq:ps[p]? with
  |none=>rw[hq]at h;cases h
  |some pa=>rw[hq]at h;cases h;exact .inl ⟨pa,rfl,rfl⟩
 ·rw[c6 (by simp;omega),bE,bQ]at h;cases hq:zJ[p-ps.length]? with
  |none=>rw[hq]at h;cases h
  |some cs=>rw[hq]at h;cases h;exact .inr ⟨by omega,cs,rfl,rfl⟩
theorem RT{T:Tab}{ps:aA Pa}{p j:aG}{pa:Pa}{k:Pk}{u:bg}(hp:ps[p]? =aj pa)(hj:pa.cs[j]? =aj k)(hl:j<900)(h:uE T σ w c (ps.flatMap (·.mW)) k u):ej T w (qg σ c ps) (kQ (dO p j) k.a) u:=by
 unfold uE at h;split at h
 ·rename_i n e ex hs;obtain⟨xs,h1,h2,h3⟩:=h;rw[h2];show u=lh ((qg σ c ps).P (dO p j));rw[(sZ (E8 hp hj hs hl)).1];exact h3
 ·exact h.1 _ (λb hb=>hb) _
theorem RS{T:Tab}{mW:aA aG}{pa:Pa}{v:bg}(h:zd T σ w c mW pa v){xs:aA AA}(hx:(∃g,pa.arg= .v g xs)\/pa.arg= .pt xs):xs=pa.cs.map (·.a)/\∀(j:aG) (k:Pk),pa.cs[j]? =aj k->∃u,uE T σ w c mW k u:=by
 cases hb:pa.box with
 |none=>
  obtain⟨agg,h1,h2⟩:=h.val hb;rw[h1]at hx;have:xs=pa.cs.map (·.a):=by rcases hx with ⟨g,hx⟩|hx<;>cases hx;rfl
  refine⟨this,λj k hj=> ?_⟩
  rcases h2 with ⟨_,k',hk,hp⟩|⟨_,vals,_,_,hp⟩
  ·rw[hk]at hj;cases j with
   |zero=>cases hj;exact⟨_,hp⟩
   |succ j=>simp at hj
  ·obtain⟨u,_,hu⟩:=hp j k hj;exact⟨u,hu⟩
 |some nx=>
  obtain⟨n,ys⟩:=nx;obtain⟨h1,_,_,_,⟨vals,_,_,hp⟩,_⟩:=h.box n ys hb;rw[h1]at hx;have:xs=pa.cs.map (·.a):=by rcases hx with ⟨g,hx⟩|hx<;>cases hx;rfl
  exact⟨this,λj k hj=>by obtain⟨u,_,hu⟩:=hp j k hj;exact⟨u,hu⟩⟩
theorem vP(b8:Ok E σ w c){ps:aA Pa}{zJ:aA (aA CV)}{vs:di bg}(hh:Handed E σ w c ps zJ vs){m:aG}{ob:Obj}(h:inj (jo ps zJ) (cX m)= .o ob):
  ∃n o p pa,loc ps m=aj n/\ps[p]? =aj pa/\n∈pa.tc/\σ (cX n)= .o o/\pf E w (qg σ c ps) m ob/\(∀b,fu (qg σ c ps) m ob b->fu c n o b)/\
   ((m=dO p 900/\∃xs,pa.box=aj (n,xs))\/∃j k e ex,m=dO p j/\j<900/\pa.cs[j]? =aj k/\k.src= .own n e ex):=by
 obtain⟨p,x,h0,h⟩:=zO h;have apa:∀cs xs,x= .fb cs->¬((∃g,x= .v g xs)\/x= .pt xs):=by rintro cs xs rfl (⟨g,h⟩|h)<;>cases h
 rcases uM h0 with ⟨pa,hp,rfl⟩|⟨_,cs,_,hx⟩
 ·obtain⟨v,hv,Jt⟩:=hh.at_ p pa hp;rcases h with ⟨xs,hx,rfl,rfl⟩|⟨xs,j,e,ex,ys,hx,hj,rfl,rfl⟩
  ·cases hb:pa.box with
   |none=>obtain⟨agg,h1,_⟩:=Jt.val hb;rw[h1]at hx;cases hx
   |some nx=>
    obtain⟨n,zs⟩:=nx;obtain⟨h1,h2,h3,h4,⟨vals,h5,h6,h7⟩,_⟩:=Jt.box n zs hb;rw[h1]at hx;cases hx;have QB:=zR hp hb;obtain⟨e1,e2⟩:=sZ (σ:=σ) (c:=c) QB;refine⟨n,_,p,pa,QB,hp,by simp[Pa.tc,hb],h3, ?_,λb hf=>by rw[show b=_ from hf,e1];rfl, .inl ⟨rfl,zs,hb⟩⟩
    refine⟨vals,by rw[e1];exact h5,by rw[iA,bQ,h6];exact h4.symm,λj y hj=> ?_⟩
    rw[ie,bE]at hj;cases hk:pa.cs[j]? with
    |none=>rw[hk]at hj;cases hj
    |some k=>
     rw[hk]at hj;cases hj;obtain⟨u,hu,UX⟩:=h7 j k hk;have jF:j<900:=by have:=(aU.1 hk).1;have:=Jt.len;omega
     refine⟨u,hu, ?_⟩
     have hn:dO p 0+j=dO p j:=by unfold dO;omega
     rw[hn];exact RT hp hk jF UX
  ·obtain⟨Yd,UX⟩:=RS Jt hx;rw[Yd,bE]at hj;cases hk:pa.cs[j]? with
   |none=>rw[hk]at hj;cases hj
   |some k=>
    rw[hk]at hj;have hka:k.a= .ow e ex ys:=by simpa using hj
    obtain⟨u,hu⟩:=UX j k hk;have jF:j<900:=by have:=(aU.1 hk).1;have:=Jt.len;omega
    unfold uE at hu;split at hu
    ·rename_i n e' s6 hs;obtain⟨zs,q1,q2,q3⟩:=hu;rw[hka]at q2;cases q2;have QB:=E8 hp hk hs jF;obtain⟨e1,e2⟩:=sZ (σ:=σ) (c:=c) QB;refine⟨n,_,p,pa,QB,hp, ?_,q1, ?_,λb hf=>by rw[lJ (c:=⟨λ_=>c.P n,λ_=>c.G n,c.K⟩) (c':=qg σ c ps) ⟨e1,e2⟩]at hf;exact hf, .inr ⟨j,k,e,ex,rfl,jF,hk,hs⟩⟩
     ·refine bI _ (bG.2 ⟨k,aQ hk, ?_⟩);simp[Pk.tc,hs]
     ·have mn:=b8.obj n _ q1;obtain⟨⟨t2,r1,r2,r3⟩,r4,r5⟩:=mn;refine⟨⟨t2,r1,by rw[e1];exact r2,r3⟩, ?_,λhx=>by rw[e1,e2];exact r5 hx⟩
      rw[e1,e2];refine r4.frame (λ_=>rfl) (λi j y x u hy hx hr=> ?_);split at hr
      ·rename_i oW;rw[bC oW];exact hr
      ·rename_i oW;rw[bM oW];exact hr.frame (λ_ _=>rfl) (λb hb=> .inl hb)
    ·exact cq hka (hu.2 _ _ _)
 ·rcases h with ⟨xs,h,_⟩|⟨xs,j,e,ex,ys,h,_⟩
  ·rw[hx]at h;cases h
  ·exact cq h (apa cs xs hx)
theorem enter(b8:Ok E σ w c){ps:aA Pa}{zJ:aA (aA CV)}{vs:di bg}(hh:Handed E σ w c ps zJ vs):
  Ok E (inj (jo ps zJ)) w (qg σ c ps)/\(∀(p:aG) (x:eV),(jo ps zJ)[p]? =aj x->∃v,vs[p]? =aj v/\iW E w (qg σ c ps) (sr p x) v)/\
  ∀b,vj (inj (jo ps zJ)) (qg σ c ps) b->∃n∈ps.flatMap (·.tc),∃o,σ (cX n)= .o o/\fu c n o b:=by
 have Hw:∀{p:aG} {pa:Pa} {n:aG},ps[p]? =aj pa->n∈pa.tc->n∈ps.flatMap (·.tc):=λhp hn=>bG.2 ⟨_,aQ hp,hn⟩;obtain⟨nd1,nd2⟩:=ll hh.nd;refine⟨⟨λm ob h=> ?_,λm ob m' ob' b h h' hf wC=> ?_,λm ob b h hf hk=> ?_,λb hb=> ?_,λm xs h=>E3 h⟩,λp x hx=> ?_, ?_⟩
 ·obtain⟨n,o,p,pa,_,_,_,_,h,_⟩:=vP b8 hh h;exact h
 ·obtain⟨n,o,p,pa,_,hp,hn,ho,_,pq,kH⟩:=vP b8 hh h;obtain⟨n',o',p',pa',_,mB,j_,ue,_,Qy,X_⟩:=vP b8 hh h';have:=b8.sep n o n' o' b ho ue (pq b hf) (Qy b wC);subst this;have:=nd1 p p' pa pa' n hp mB hn j_;subst this;rw[hp]at mB;cases mB;have ndm:=nd2 pa (aQ hp);unfold Pa.tc at ndm;obtain⟨_,m2,m3⟩:=ea.1 ndm;have afs:∀(j:aG) (k:Pk) (e:aG) (ex:aY),pa.cs[j]? =aj k->k.src= .own n e ex->n∈pa.cs.flatMap (·.tc):=λj k e ex hk hs=>bG.2 ⟨k,aQ hk,by simp[Pk.tc,hs]⟩;rcases kH with ⟨rfl,xs,hb⟩|⟨j,k,e,ex,rfl,hj,hk,hs⟩
  ·rcases X_ with ⟨rfl,_⟩|⟨j',k',e',s6,rfl,Ls,ud,hs'⟩
   ·rfl
   ·exact cq rfl (m3 n (by simp[hb]) n (afs _ _ _ _ ud hs'))
  ·rcases X_ with ⟨rfl,xs,hb⟩|⟨j',k',e',s6,rfl,Ls,ud,hs'⟩
   ·exact cq rfl (m3 n (by simp[hb]) n (afs _ _ _ _ hk hs))
   ·have:=(ll m2).1 j j' k k' n hk ud (by simp[Pk.tc,hs]) (by simp[Pk.tc,hs']);rw[this]
 ·obtain⟨n,o,p,pa,_,hp,hn,ho,_,pq,_⟩:=vP b8 hh h;rcases hk with hk|⟨n',j_,o',ue,wC⟩
  ·exact b8.kk n o b ho (pq b hf) hk
  ·have:=b8.sep n o n' o' b ho ue (pq b hf) wC;subst this;exact hh.ap n (Hw hp hn) j_
 ·rcases hb with hb|⟨n',j_,o',ue,wC⟩
  ·exact b8.lt b hb
  ·exact vj.lt b8 ⟨n',o',ue,wC⟩
 ·rcases uM hx with ⟨pa,hp,rfl⟩|⟨hle,cs,FW,rfl⟩
  ·obtain⟨v,hv,Jt⟩:=hh.at_ p pa hp;refine⟨v,hv, ?_⟩
   have small:∀{j:aG} {k:Pk},pa.cs[j]? =aj k->j<900:=λhj=>by have:=(aU.1 hj).1;have:=Jt.len;omega
   cases hb:pa.box with
   |none=>
    obtain⟨agg,h1,h2⟩:=Jt.val hb;rw[h1];rcases h2 with ⟨rfl,k,hk,UX⟩|⟨rfl,vals,rfl,hs,hc⟩
    ·rw[hk];have:=RT (j:=0) hp (by rw[hk];rfl) (by omega) UX;exact this
    ·refine⟨vals,rfl,by rw[iA,bQ];exact hs,λj y hj=> ?_⟩
     rw[ie,bE]at hj;cases hk:pa.cs[j]? with
     |none=>rw[hk]at hj;cases hj
     |some k=>
      rw[hk]at hj;cases hj;obtain⟨u,hu,UX⟩:=hc j k hk;refine⟨u,hu, ?_⟩
      have hn:dO p 0+j=dO p j:=by unfold dO;omega
      rw[hn];exact RT hp hk (small hk) UX
   |some nx=>obtain⟨n,zs⟩:=nx;obtain⟨h1,h2,_⟩:=Jt.box n zs hb;rw[h1];show v= .pointer (aj (ad ((qg σ c ps).P (dO p 900)).blk 0));rw[(sZ (zR hp hb)).1];exact h2
  ·obtain⟨b,hv,hf⟩:=hh.fb (p-ps.length) cs FW;rw[show ps.length+(p-ps.length)=p by omega]at hv;exact⟨_,hv,b,rfl,hf.frame (λ_ _=>rfl) (λb hb=> .inl hb)⟩
 ·rintro b ⟨m,ob,h,hf⟩;obtain⟨n,o,p,pa,_,hp,hn,ho,_,pq,_⟩:=vP b8 hh h;exact⟨n,Hw hp hn,o,ho,pq b hf⟩
end
end Go.FG

namespace Go.FG
def sE(p j:aG)(a:AA):AV:=match a with| .kp _=> .own (dO p j)|a=>kQ (dO p (100+j)) a
def nF(p:aG):aG->aA AA->aA AV
 |_,[]=>[]|j,a::r=>sE p j a::nF p (j+1) r
def HI(p j:aG)(a b:AA):aA (aG×eE):=
 match b with
 | .kp ys=>(match a with| .ow e ex _=>[(cX (dO p j), .o (.row e ex ys))]|_=>[])
 | .ow e ex ys=>[(cX (dO p (100+j)), .o (.row e ex ys))]
 |_=>[]
def sF(p:aG):aG->aA AA->aA AA->aA (aG×eE)
 |_,_,[]=>[]|j,as,b::r=>HI p j (as.headD .nl) b++sF p (j+1) as.tail r
def Bp(p:aG)(a:eV)(l:aA AA):aA (aG×eE):=
 match a with
 | .v _ xs=>sF p 0 xs l
 | .pt xs=>(cX (dO p 900), .o (.box (nF p 0 l)))::sF p 0 xs l
 | .fb _=>[]
def JO:aG->aA eV->aA (aA AA)->aA (aG×eE)
 |_,[],_=>[]|p,a::r,l=>Bp p a (l.headD [])++JO (p+1) r l.tail
def JW:aG->aA eV->aA (aG×eE)
 |_,[]=>[]|q,a::r=>uf q a++JW (q+1) r
def nO(args:aA eV)(r:dP):St:=fO (JW 500 r.rs++JO 0 args r.outs)
def ED(q:aG)(a:eV):aY×aA AV:=match a with| .v g xs=>(g,gi (dO q 0) xs)| .pt _=>(aq,[.bp (dO q 900) 0])| .fb xs=>(aq,[.fp xs 0])
def kR:aG->aA eV->aA (aY×aA AV)
 |_,[]=>[]|q,a::r=>ED q a::kR (q+1) r
def WI(rs:aA eV):SV:=rC (kR 500 rs)
def PK(T:Tab)(args:aA eV)(r:dP)(c1:eO)(w:bF)(v:bg)(w':bF):Prop:=
 ∃c3,Ok T (nO args r) w' c3/\nQ (inj args) c1 w (nO args r) c3 w'/\(∀m,inj args (cX m)≠ .jH->c3.P m=c1.P m/\c3.G m=c1.G m)/\iW T w' c3 (WI r.rs) v
def cF(P:cR)(T:Tab)(g:aG)(spec:aA eV->aC (aY×dP)):Prop:=
 ∀args r,spec args=aj (ak,r)->∀(w:bF) (c1:eO) (vs:di bg),Ok T (inj args) w c1->vs.size=args.length->(∀(p:aG) (x:eV),args[p]? =aj x->∃v,vs[p]? =aj v/\iW T w c1 (sr p x) v)->
  (∃fn,P.funcs[g]? =aj fn/\fn.body.isSome=ak/\(fn.name== "runtime.NumGoroutine")=aq)/\Calls P g vs w (λ| .returned v,w'=>PK T args r c1 w v w'|_,_=>False)
abbrev B9:=aG×aC aG×Obj
def find(L:aA B9)(m:aG):aC aG:=
 match L with
 |[]=>ao
 |(n,t,_)::r=>if m=n then t else find r m
theorem G2{L:aA B9}{m x:aG}(h:find L m=aj x):∃ob,(m,aj x,ob)∈L:=by
 induction L with
 |nil=>cases h
 |cons d L ih=>
  obtain⟨n,t,ob⟩:=d;unfold find at h;split at h
  ·rename_i hm;subst hm;rw[h];exact⟨ob,dy ..⟩
  ·obtain⟨ob,h⟩:=ih h;exact⟨ob,cW _ h⟩
theorem UK{L:aA B9}{m:aG}{t:aC aG}{ob:Obj}(h:(m,t,ob)∈L)(hn:(L.map (·.1)).Nodup):find L m=t:=by
 induction L with
 |nil=>cases h
 |cons d L ih=>
  obtain⟨n,t',ob'⟩:=d;rw[e9,j6]at hn;unfold find;rcases cz.1 h with h'|h'
  ·cases h';rw[bC rfl]
  ·have ic:m≠n:=λe=>hn.1 (cJ.2 ⟨_,h',e⟩);rw[bM ic];exact ih h' hn.2
def lA(ok:aY)(L:aA B9)(v v3:AV):Prop:=
 (v=v3/\match v with| .i _ _=>True| .b _=>True| .s _=>True| .nl=>True| .sh _ _=>ok=ak|_=>False)\/∃n x ob,v= .own n/\v3= .own x/\(n,aj x,ob)∈L
def Xi(L:aA B9)(v v3:AV):Prop:=∃n x ob,v= .bp n 0/\v3= .bp x 0/\(n,aj x,ob)∈L
def mZ(ok:aY)(L:aA B9)(vs vs3:aA AV):Prop:=vs.length=vs3.length/\∀(j:aG) (v v3:AV),vs[j]? =aj v->vs3[j]? =aj v3->lA ok L v v3
def ArgRel(ok:aY)(L:aA B9)(s s3:aY×aA AV):Prop:=s.1=s3.1/\s.2.length=s3.2.length/\∀(j:aG) (v v3:AV),s.2[j]? =aj v->s3.2[j]? =aj v3->lA ok L v v3\/Xi L v v3
def DM(ok:aY)(L:aA B9)(s s3:aA (aY×aA AV)):Prop:=s.length=s3.length/\∀(j:aG) (x x3:aY×aA AV),s[j]? =aj x->s3[j]? =aj x3->ArgRel ok L x x3
structure Xl (σ σ3:St) (c c3:eO) (ok:aY) (tc:aA aG) (L:aA B9) (n:aG) (t:aC aG) (ob:Obj):Prop where
 old:σ (cX n)≠ .jH->n∈tc
 new:σ (cX n)= .jH->n<900000000
 dead:t=ao->ob= .dead
 some_:∀x,t=aj x->(σ (cX n)≠ .jH->c3.P x=c.P n/\c3.G x=c.G n)/\
  ((∃e ex ys,ob= .row e ex ys/\σ3 (cX x)= .o (.row e ex ys)/\(ex=ak\/ok=ak))\/∃vs vs3,ob= .box vs/\σ3 (cX x)= .o (.box vs3)/\mZ ok L vs vs3)
section
variable {P:cR} {E:fF} {σ:St} {a:Act} {w:bF} {c:eO} {o:e8} {nm:aG} {e:rT}
theorem leave(b8:Ok E σ w c)(dD:e_ E σ a w c)(hd:∀d,o.dst=aj d->d<a.tmps.size){ps:aA Pa}{zJ:aA (aA CV)}{vs:di bg}(hh:Handed E σ w c ps zJ vs)
  {r:dP} {v:bg} {w':bF} {c3:eO} (EZ:Ok E (nO (jo ps zJ) r) w' c3) (wE:nQ (inj (jo ps zJ)) (qg σ c ps) w (nO (jo ps zJ) r) c3 w') (wF:iW E w' c3 (WI r.rs) v)
  {ok:aY} {L:aA B9} {Fz:aA (aG×Obj)} (hL:∀n t ob,(n,t,ob)∈L->Xl σ (nO (jo ps zJ) r) c c3 ok (ps.flatMap (·.tc)) L n t ob) (He:(L.map (·.1)).Nodup)
  (amI:∀n n' x ob ob',(n,aj x,ob)∈L->(n',aj x,ob')∈L->n=n') (n7:∀n∈ps.flatMap (·.tc),∃t ob,(n,t,ob)∈L)
  (hFz:∀n x,(n,x)∈Fz->ok=ak/\n∈ps.flatMap (·.mW)/\∃el ex xs,σ (cX n)= .o (.row el ex xs)/\x= .fI el xs) (hFa:ok=ak->∀n∈ps.flatMap (·.mW),∃x,(n,x)∈Fz)
  {ss:aA (aY×aA AV)} (hss:DM ok L ss (kR 500 r.rs)):
  ∃c',Ok E (wr σ (jQ (Fz++L.map λt=>(t.1,t.2.2))++dw o (rC ss))) w' c'/\e_ E (wr σ (jQ (Fz++L.map λt=>(t.1,t.2.2))++dw o (rC ss))) (a.put o.dst v) w' c'/\nQ σ c w (wr σ (jQ (Fz++L.map λt=>(t.1,t.2.2))++dw o (rC ss))) c' w'/\jj σ c c':=by
 obtain⟨QD,_,afj⟩:=enter b8 hh;let D:aA (aG×Obj):=Fz++L.map λt=>(t.1,t.2.2)
 have Ra:∀n x,(n,x)∈D->(n,x)∈Fz\/∃t,(n,t,x)∈L:=by
  intro n x hm;rcases a_.1 hm with h|h
  ·exact .inl h
  ·obtain⟨⟨n',t,ob⟩,h1,h2⟩:=cJ.1 h;cases h2;exact .inr ⟨t,h1⟩
 have inD:∀n t ob,(n,t,ob)∈L->(n,ob)∈D:=λn t ob h=>bI _ (cJ.2 ⟨_,h,rfl⟩);have ao9:∀n,n∈ps.flatMap (·.tc)->tC D n:=λn hn=>by obtain⟨t,ob,h⟩:=n7 n hn;exact⟨ob,inD n t ob h⟩
 have JR:∀b,vj (inj (jo ps zJ)) (qg σ c ps) b->jJ (tC D) σ c b:=λb hb=>by obtain⟨n,hn,ob,h1,h2⟩:=afj b hb;exact⟨n,ob,ao9 n hn,h1,h2⟩
 let K':aG->Prop:=λb=>if ok=ak then c3.K b else c.K b
 let c':eO:=⟨λm=>match find L m with|some x=>c3.P x|none=>c.P m,λm=>match find L m with|some x=>c3.G x|none=>c.G m,K'⟩
 have at_:∀n x ob,(n,aj x,ob)∈L->c'.P n=c3.P x/\c'.G n=c3.G x:=λn x ob h=>by have:=UK h He;simp only[c',this];exact⟨trivial,trivial⟩
 have afQ:∀n,find L n=ao->c'.P n=c.P n/\c'.G n=c.G n:=λn h=>by simp only[c',h];exact⟨trivial,trivial⟩
 have hA:jj σ c c':=by
  intro m hm;cases hf:find L m with
  |none=>exact afQ m hf
  |some x=>
   obtain⟨ob,hx⟩:=G2 hf;obtain⟨e1,e2⟩:=at_ m x ob hx;have he:=hL m _ ob hx;rw[e1,e2];by_cases hn:σ (cX m)= .jH
   ·have:=he.new hn;rcases hm with h|h
    ·exact cq hn h
    ·omega
   ·exact(he.some_ x rfl).1 hn
 have Kok:ok=ak->∀b,K' b↔c3.K b:=λh b=>by simp only[K',h,if_true]
 have Kno:ok=aq->∀b,K' b↔c.K b:=λh b=>by simp only[K',h];simp
 have K13:∀b,(qg σ c ps).K b->c3.K b:=wE.K;have cK1:∀b,c.K b->(qg σ c ps).K b:=λb hb=> .inl hb;have hK:∀b,c.K b->K' b:=λb hb=>by
  cases h:ok with
  |true=>exact(Kok h b).2 (K13 b (cK1 b hb))
  |false=>exact(Kno h b).2 hb
 have TL:∀b,K' b->c.K b\/jJ (tC D) σ c b\/w.heap.size<=b:=λb hb=>by
  cases h:ok with
  |true=>
   rcases wE.kn b ((Kok h b).1 hb)with h1|h1|h1
   ·rcases h1 with h1|⟨n,hn,ob,h2,h3⟩
    ·exact .inl h1
    ·obtain⟨x,hx⟩:=hFa h n hn;exact .inr (.inl ⟨n,ob,⟨x,bO _ hx⟩,h2,h3⟩)
   ·exact .inr (.inl (JR b h1))
   ·exact .inr (.inr h1)
  |false=>exact .inl ((Kno h b).1 hb)
 have EW:∀b,K' b->b<w'.heap.size:=λb hb=>by
  cases h:ok with
  |true=>exact EZ.lt b ((Kok h b).1 hb)
  |false=>exact jd (b8.lt b ((Kno h b).1 hb)) wE.size
 have Qn:∀n x ob b,(n,aj x,ob)∈L->fu c' n ob b->∃o3,nO (jo ps zJ) r (cX x)= .o o3/\fu c3 x o3 b:=by
  intro n x ob b hm hf;obtain⟨e1,e2⟩:=at_ n x ob hm;rcases((hL n _ ob hm).some_ x rfl).2 with ⟨e,ex,ys,rfl,h3,_⟩|⟨us,us3,rfl,h3,_⟩
  ·refine⟨_,h3, ?_⟩
   simp only[fu,e1,e2]at hf⊢;exact hf
  ·refine⟨_,h3, ?_⟩
   simp only[fu,e1]at hf⊢;exact hf
 have P8:∀{v v3:AV} {u:bg},lA ok L v v3->ej E w' c3 v3 u->ej E w' c' v u/\∀n∈bJ v,tC D n:=by
  rintro v v3 u (⟨rfl,h⟩|⟨n,x,ob,rfl,rfl,hm⟩) hu
  ·cases v with
   |sh e xs=>exact⟨cZ.frame hu (λ_ _=>rfl) (λb hb=>(Kok h b).2 hb),λn hn=>by simp[bJ]at hn⟩
   |i=>exact⟨hu,λn hn=>by simp[bJ]at hn⟩
   |b=>exact⟨hu,λn hn=>by simp[bJ]at hn⟩
   |s=>exact⟨hu,λn hn=>by simp[bJ]at hn⟩
   |nl=>exact⟨hu,λn hn=>by simp[bJ]at hn⟩
   |_=>exact h.elim
  ·refine⟨?_,λm vN=> ?_⟩
   ·show u=lh (c'.P n);rw[(at_ n x ob hm).1];exact hu
   ·have:m=n:=by simpa [bJ]using vN
    subst this;exact⟨ob,inD _ _ _ hm⟩
 have al_:∀{v v3:AV} {u:bg},Xi L v v3->ej E w' c3 v3 u->ej E w' c' v u/\∀n∈bJ v,tC D n:=by
  rintro v v3 u ⟨n,x,ob,rfl,rfl,hm⟩ hu;refine⟨?_,λm vN=> ?_⟩
  ·show u= .pointer (aj (ad (c'.P n).blk 0));rw[(at_ n x ob hm).1];exact hu
  ·have:m=n:=by simpa [bJ]using vN
   subst this;exact⟨ob,inD _ _ _ hm⟩
 have XP:∀{s s3:aY×aA AV} {u:bg},ArgRel ok L s s3->pM E w' c3 s3.1 s3.2 u->pM E w' c' s.1 s.2 u/\∀n∈s.2.flatMap bJ,tC D n:=by
  rintro ⟨g,xs⟩ ⟨g3,xs3⟩ u ⟨h1,h2,h3⟩ hu;have h1:g=g3:=h1;subst h1;have one:∀(j:aG) (y:AV) (uu:bg),xs[j]? =aj y->(∀y3,xs3[j]? =aj y3->ej E w' c3 y3 uu)->ej E w' c' y uu/\∀n∈bJ y,tC D n:=by
   intro j y uu hj hu3;have jF:j<xs3.length:=by rw[<-h2];exact(aU.1 hj).1
   have Lm:=h3 j y xs3[j] hj (by simp[jF]);have rA:=hu3 xs3[j] (by simp[jF]);rcases Lm with h|h
   ·exact P8 h rA
   ·exact al_ h rA
  replace hu:pM E w' c3 g xs3 u:=hu;unfold pM at hu;split at hu
  ·rename_i y3;obtain⟨y,rfl⟩:=gF.1 (show xs.length=1 from h2);obtain⟨k1,k2⟩:=one 0 y u rfl (λy3' h=>by cases h;exact hu);exact⟨k1,λn hn=>k2 n (by simpa using hn)⟩
  ·obtain⟨vals,rfl,hs,hv⟩:=hu;have cell:∀(j:aG) (y:AV),xs[j]? =aj y->∃uu:bg,vals[j]? =aj uu/\ej E w' c' y uu/\∀n∈bJ y,tC D n:=by
    intro j y hj;have jF:j<xs3.length:=by rw[<-h2];exact(aU.1 hj).1
    obtain⟨uu,hu,ha⟩:=hv j xs3[j] (by simp[jF]);obtain⟨k1,k2⟩:=one j y uu hj (λy3' h=>by simp[jF]at h;rw[<-h];exact ha);exact⟨uu,hu,k1,k2⟩
   refine⟨⟨vals,rfl,by rw[hs];exact h2.symm,λj y hj=> ?_⟩,λn hn=> ?_⟩
   ·obtain⟨uu,k1,k2,_⟩:=cell j y hj;exact⟨uu,k1,k2⟩
   ·obtain⟨y,hy,hn⟩:=bG.1 hn;obtain⟨j,hj⟩:=bZ hy;obtain⟨uu,_,_,k3⟩:=cell j y hj;exact k3 n hn
  ·exact hu.elim
 have ahX:iW E w' c' (rC ss) v/\∀n∈cD (rC ss),tC D n:=by
  obtain⟨hl,hr⟩:=hss;have je:∀(l l3:aA (aY×aA AV)),l=ss->l3=kR 500 r.rs->iW E w' c3 (.je l3) v->iW E w' c' (.je l) v/\∀n∈cD (.je l),tC D n:=by
   rintro l l3 rfl rfl ⟨us,rfl,hs,hv⟩;have cell:∀(j:aG) (x:aY×aA AV),l[j]? =aj x->∃u:bg,us[j]? =aj u/\pM E w' c' x.1 x.2 u/\∀n∈x.2.flatMap bJ,tC D n:=by
    intro j x hj;have jF:j<(kR 500 r.rs).length:=by rw[<-hl];exact(aU.1 hj).1
    have h3:(kR 500 r.rs)[j]? =aj ((kR 500 r.rs)[j].1,(kR 500 r.rs)[j].2):=by simp[jF]
    obtain⟨u,hu,ha⟩:=hv j _ _ h3;obtain⟨k1,k2⟩:=XP (hr j x _ hj h3) ha;exact⟨u,hu,k1,k2⟩
   refine⟨⟨us,rfl,by rw[hs];exact hl.symm,λj g xs hj=> ?_⟩,λn hn=> ?_⟩
   ·obtain⟨u,k1,k2,_⟩:=cell j (g,xs) hj;exact⟨u,k1,k2⟩
   ·obtain⟨x,hx,hn⟩:=bG.1 hn;obtain⟨j,hj⟩:=bZ hx;obtain⟨u,_,_,k3⟩:=cell j x hj;exact k3 n hn
  unfold WI at wF;cases h3:kR 500 r.rs with
  |nil=>rw[h3]at wF hl;have:ss=[]:=fV hl;subst this;exact je [] [] rfl h3.symm wF
  |cons x l=>
   cases l with
   |nil=>obtain⟨g,xs⟩:=x;rw[h3]at wF hl;obtain⟨⟨g',Kk⟩,rfl⟩:=gF.1 (show ss.length=1 from hl);exact XP (s3:=(g,xs)) (hr 0 _ _ rfl (by rw[h3];rfl)) wF
   |cons y l=>
    rw[h3]at wF hl;match ss,hl with
    |s1::s2::st,_=>exact je _ (x::y::l) rfl h3.symm wF
    |[_],hl=>simp at hl
    |[],hl=>simp at hl
 refine⟨c', ?_⟩
 have:=GK b8 dD hd (D:=D) (s:=rC ss) (v:=v) (w':=w') (c':=c') hA ?_ ?_ ?_ ?_ hK TL EW ?_ wE.size wE.os wE.tape wE.output ahX.1 (λn hn=> .inr (ahX.2 n hn))
 ·exact⟨this.1,this.2.1,this.2.2,hA⟩
 ·intro n x hm;rcases Ra n x hm with hm|⟨t,hm⟩
  ·obtain⟨QE,hn,el,ex,xs,hg,rfl⟩:=hFz n x hm;have afg:find L n=none:=by
    cases hf:find L n with
    |none=>rfl
    |some x=>obtain⟨ob,hx⟩:=G2 hf;have:=(hL n _ ob hx).old (by rw[hg];simp);exact cq hn (hh.ap n this)
   obtain⟨e1,_⟩:=afQ n afg;obtain⟨h1,h2,ti,h3,h4⟩:=kL b8 hg;show cZ E w' K' (lh (c'.P n)) _/\(c'.P n).n=_/\_;rw[e1];refine⟨?_,h1,ti,h3,h4.1⟩
   have:=qX b8 hg (K:=(qg σ c ps).K) cK1 (λb hb=> .inr ⟨n,hn,_,hg,hb⟩);exact this.frame (wE.Xo QD) (λb hb=>(Kok QE b).2 (K13 b hb))
  ·have he:=hL n t x hm;cases t with
   |none=>rw[he.dead rfl];trivial
   |some y=>
    obtain⟨e1,e2⟩:=at_ n y x hm;rcases(he.some_ y rfl).2 with ⟨el,ex,ys,rfl,h3,hor⟩|⟨us,us3,rfl,h3,hl,hc⟩
    ·obtain⟨⟨t2,r1,r2,r3⟩,r4,r5⟩:=EZ.obj y _ h3;refine⟨⟨t2,r1,by rw[e1];exact r2,r3⟩, ?_,λhx=>by rw[e1,e2];exact r5 hx⟩
     rw[e1,e2];refine r4.frame (λ_=>rfl) (λi j yy xx u hy hx hr=> ?_);split at hr
     ·rename_i oW;rw[bC oW];exact hr
     ·rename_i oW;rw[bM oW];have QE:=hor.resolve_left oW;exact hr.frame (λ_ _=>rfl) (λb hb=>(Kok QE b).2 hb)
    ·obtain⟨vals,hb,hs,hv⟩:=EZ.obj y _ h3;refine⟨vals,by rw[e1];exact hb,by rw[hs];exact hl.symm,λj yy hj=> ?_⟩
     have jF:j<us3.length:=by rw[<-hl];exact(aU.1 hj).1
     obtain⟨u,hu,ha⟩:=hv j us3[j] (by simp[jF]);exact⟨u,hu,(P8 (hc j yy us3[j] hj (by simp[jF])) ha).1⟩
 ·intro n x b hm hf;rcases Ra n x hm with hm|⟨t,hm⟩
  ·obtain⟨_,_,el,ex,xs,_,rfl⟩:=hFz n x hm;exact hf.elim
  ·cases t with
   |none=>rw[(hL n _ x hm).dead rfl]at hf;exact hf.elim
   |some y=>
    obtain⟨o3,h3,hf3⟩:=Qn n y x b hm hf;have uT:jJ (tC D) σ c b\/w.heap.size<=b:=(wE.own b ⟨y,o3,h3,hf3⟩).imp (JR b) id;refine⟨uT,λhk=> ?_⟩
    cases h:ok with
    |true=>exact EZ.kk y o3 b h3 hf3 ((Kok h b).1 hk)
    |false=>
     have hk:=(Kno h b).1 hk;rcases uT with uT|uT
     ·exact b8.HB uT.own hk
     ·have:=b8.lt b hk;omega
 ·intro n x n' x' b hm vN hf wC;rcases Ra n x hm with hm|⟨t,hm⟩
  ·obtain⟨_,_,el,ex,xs,_,rfl⟩:=hFz n x hm;exact hf.elim
  ·rcases Ra n' x' vN with vN|⟨t',vN⟩
   ·obtain⟨_,_,el,ex,xs,_,rfl⟩:=hFz n' x' vN;exact wC.elim
   ·cases t with
    |none=>rw[(hL n _ x hm).dead rfl]at hf;exact hf.elim
    |some y=>
     cases t' with
     |none=>rw[(hL n' _ x' vN).dead rfl]at wC;exact wC.elim
     |some y'=>obtain⟨o3,h3,hf3⟩:=Qn n y x b hm hf;obtain⟨o3',Lm,amw⟩:=Qn n' y' x' b vN wC;have:=EZ.sep y o3 y' o3' b h3 Lm hf3 amw;subst this;exact amI n n' y x x' hm vN
 ·intro n xs hm y hy m X7;rcases Ra n _ hm with hm|⟨t,hm⟩
  ·obtain⟨_,_,el,ex,zs,_,h⟩:=hFz n _ hm;cases h
  ·have he:=hL n t _ hm;cases t with
   |none=>have:=he.dead rfl;cases this
   |some z=>
    rcases(he.some_ z rfl).2 with ⟨el,ex,ys,h,_⟩|⟨us,us3,h,h3,hl,hc⟩
    ·cases h
    ·cases h;obtain⟨j,hj⟩:=bZ hy;have jF:j<us3.length:=by rw[<-hl];exact(aU.1 hj).1
     rcases hc j y us3[j] hj (by simp[jF])with ⟨h1,h2⟩|⟨n',x',ob',h1,_,h2⟩
     ·exfalso;subst h1;cases h:us3[j]<;>rw[h]at X7 h2<;>first|(simp[bJ]at X7;done)|exact h2
     ·rw[h1]at X7;have:m=n':=by simpa [bJ]using X7
      subst this;exact .inr ⟨ob',inD _ _ _ h2⟩
 ·intro b hb UU;exact wE.same b hb (λho=>UU (JR b ho))
end
end Go.FG

namespace Go.FG
def Kr(a:eV)(xs:aA AA):Prop:=(∃g,a= .v g xs)\/a= .pt xs
inductive Aa (args:aA eV) (r:dP):aG->eE->Prop
 |rb (q xs):r.rs[q]? =aj (.pt xs)->Aa args r (dO (500+q) 900) (.o (.box (gi (dO (500+q) 0) xs)))
 |rr (q a xs j e ex ys):r.rs[q]? =aj a->Kr a xs->xs[j]? =aj (.ow e ex ys)->Aa args r (dO (500+q) j) (.o (.row e ex ys))
 |ob (p xs):args[p]? =aj (.pt xs)->Aa args r (dO p 900) (.o (.box (nF p 0 (r.outs.getD p []))))
 |kp (p a xs j e ex z ys):args[p]? =aj a->Kr a xs->xs[j]? =aj (.ow e ex z)->(r.outs.getD p [])[j]? =aj (.kp ys)->Aa args r (dO p j) (.o (.row e ex ys))
 |nw (p a xs j e ex ys):args[p]? =aj a->Kr a xs->(r.outs.getD p [])[j]? =aj (.ow e ex ys)->Aa args r (dO p (100+j)) (.o (.row e ex ys))
theorem Hv:∀{l:aA eV} {q:aG} {k:aG} {c:eE},(k,c)∈JW q l↔∃i a,l[i]? =aj a/\(k,c)∈uf (q+i) a:=by
 intro l;induction l with
 |nil=>intro q k c;simp[JW]
 |cons a l ih=>
  intro q k c;simp only[JW,a_,ih];constructor
  ·rintro (h|⟨i,b,h0,h⟩)
   ·exact⟨0,a,rfl,h⟩
   ·exact⟨i+1,b,h0,by rw[show q+(i+1)=q+1+i by omega];exact h⟩
  ·rintro ⟨i,b,h0,h⟩;cases i with
   |zero=>cases h0;exact .inl h
   |succ i=>exact .inr ⟨i,b,h0,by rw[show q+1+i=q+(i+1)by omega];exact h⟩
theorem Hu:∀{l:aA eV} {p:aG} {os:aA (aA AA)} {k:aG} {c:eE},(k,c)∈JO p l os↔∃i a,l[i]? =aj a/\(k,c)∈Bp (p+i) a (os.getD i []):=by
 intro l;induction l with
 |nil=>intro p os k c;simp[JO]
 |cons a l ih=>
  intro p os k c;have h0:os.headD []=os.getD 0 []:=by cases os<;>rfl
  have h1:∀i,os.tail.getD i []=os.getD (i+1) []:=λi=>by cases os<;>simp
  simp only[JO,a_,ih,h0,h1];constructor
  ·rintro (h|⟨i,b,hb,h⟩)
   ·exact⟨0,a,rfl,h⟩
   ·exact⟨i+1,b,hb,by rw[show p+(i+1)=p+1+i by omega];exact h⟩
  ·rintro ⟨i,b,hb,h⟩;cases i with
   |zero=>cases hb;exact .inl h
   |succ i=>exact .inr ⟨i,b,hb,by rw[show p+1+i=p+(i+1)by omega];exact h⟩
theorem xX{p j:aG}{a b:AA}{k:aG}{c:eE}:(k,c)∈HI p j a b↔(∃e ex z ys,a= .ow e ex z/\b= .kp ys/\k=cX (dO p j)/\c= .o (.row e ex ys))\/∃e ex ys,b= .ow e ex ys/\k=cX (dO p (100+j))/\c= .o (.row e ex ys):=by
 cases b with
 |kp ys=>
  cases a with
  |ow e ex z=>
   constructor
   ·intro h;have h:=aZ.1 h;cases h;exact .inl ⟨e,ex,z,ys,rfl,rfl,rfl,rfl⟩
   ·rintro (⟨e',s6,z',B7,h1,h2,h3,h4⟩|⟨_,_,_,h,_⟩)
    ·cases h1;cases h2;rw[h3,h4];exact aZ.2 rfl
    ·cases h
  |_=>simp[HI]
 |ow e ex ys=>
  constructor
  ·intro h;have h:=aZ.1 h;cases h;exact .inr ⟨e,ex,ys,rfl,rfl,rfl⟩
  ·rintro (⟨_,_,_,_,_,h,_⟩|⟨e',s6,B7,h2,h3,h4⟩)
   ·cases h
   ·cases h2;rw[h3,h4];exact aZ.2 rfl
 |_=>simp[HI]
theorem JD{p:aG}:∀{l:aA AA} {j:aG} {as:aA AA} {k:aG} {c:eE},(k,c)∈sF p j as l↔∃i b,l[i]? =aj b/\(k,c)∈HI p (j+i) (as.getD i .nl) b:=by
 intro l;induction l with
 |nil=>intro j as k c;simp[sF]
 |cons b l ih=>
  intro j as k c;have h0:as.headD .nl=as.getD 0 .nl:=by cases as<;>rfl
  have h1:∀i,as.tail.getD i .nl=as.getD (i+1) .nl:=λi=>by cases as<;>simp
  simp only[sF,a_,ih,h0,h1];constructor
  ·rintro (h|⟨i,b',hb,h⟩)
   ·exact⟨0,b,rfl,h⟩
   ·exact⟨i+1,b',hb,by rw[show j+(i+1)=j+1+i by omega];exact h⟩
  ·rintro ⟨i,b',hb,h⟩;cases i with
   |zero=>cases hb;exact .inl h
   |succ i=>exact .inr ⟨i,b',hb,by rw[show j+1+i=j+(i+1)by omega];exact h⟩
theorem EU{xs:aA AA}{i e:aG}{ex:aY}{z:aW}:xs.getD i .nl= .ow e ex z↔xs[i]? =aj (.ow e ex z):=by
 rw[cL];cases h:xs[i]? with
 |none=>simp
 |some x=>simp
theorem qj{p:aG}{a:eV}{l:aA AA}{k:aG}{c:eE}:(k,c)∈Bp p a l↔(∃xs,a= .pt xs/\k=cX (dO p 900)/\c= .o (.box (nF p 0 l)))\/∃xs,Kr a xs/\((∃j e ex z ys,xs[j]? =aj (.ow e ex z)/\l[j]? =aj (.kp ys)/\k=cX (dO p j)/\c= .o (.row e ex ys))\/∃j e ex ys,l[j]? =aj (.ow e ex ys)/\k=cX (dO p (100+j))/\c= .o (.row e ex ys)):=by
 have cells:∀xs,(k,c)∈sF p 0 xs l↔((∃j e ex z ys,xs[j]? =aj (.ow e ex z)/\l[j]? =aj (.kp ys)/\k=cX (dO p j)/\c= .o (.row e ex ys))\/∃j e ex ys,l[j]? =aj (.ow e ex ys)/\k=cX (dO p (100+j))/\c= .o (.row e ex ys)):=by
  intro xs;rw[JD];constructor
  ·rintro ⟨i,b,hb,h⟩;rw[bT]at h;rcases xX.1 h with ⟨e,ex,z,ys,h1,rfl,h2,h3⟩|⟨e,ex,ys,rfl,h2,h3⟩
   ·exact .inl ⟨i,e,ex,z,ys,EU.1 h1,hb,h2,h3⟩
   ·exact .inr ⟨i,e,ex,ys,hb,h2,h3⟩
  ·rintro (⟨i,e,ex,z,ys,h1,hb,h2,h3⟩|⟨i,e,ex,ys,hb,h2,h3⟩)
   ·exact⟨i,_,hb,xX.2 (.inl ⟨e,ex,z,ys,EU.2 h1,rfl,by rw[bT];exact h2,h3⟩)⟩
   ·exact⟨i,_,hb,xX.2 (.inr ⟨e,ex,ys,rfl,by rw[bT];exact h2,h3⟩)⟩
 cases a with
 |v g xs=>
  simp only[Bp,cells];constructor
  ·intro h;exact .inr ⟨xs, .inl ⟨g,rfl⟩,h⟩
  ·rintro (⟨ys,h,_⟩|⟨ys,h|h,h'⟩)
   ·cases h
   ·obtain⟨g',h⟩:=h;cases h;exact h'
   ·cases h
 |pt xs=>
  simp only[Bp,cz,cells,iT];constructor
  ·rintro (⟨h1,h2⟩|h)
   ·exact .inl ⟨xs,rfl,h1,h2⟩
   ·exact .inr ⟨xs, .inr rfl,h⟩
  ·rintro (⟨ys,h,h1,h2⟩|⟨ys,h|h,h'⟩)
   ·exact .inl ⟨h1,h2⟩
   ·obtain⟨g',h⟩:=h;cases h
   ·cases h;exact .inr h'
 |fb xs=>
  simp only[Bp,jC,false_iff];rintro (⟨ys,h,_⟩|⟨ys,h|h,_⟩)
  ·cases h
  ·obtain⟨g',h⟩:=h;cases h
  ·cases h
theorem vH{args:aA eV}{r:dP}{m:aG}{c:eE}:(cX m,c)∈JW 500 r.rs++JO 0 args r.outs↔Aa args r m c:=by
 rw[a_,Hv,Hu];constructor
 ·rintro (⟨q,a,h0,h⟩|⟨p,a,h0,h⟩)
  ·rcases h_.1 h with ⟨xs,rfl,h1,rfl⟩|⟨xs,j,e,ex,ys,hx,hj,h1,rfl⟩
   ·rw[jE h1];exact .rb q xs h0
   ·rw[jE h1];exact .rr q a xs j e ex ys h0 hx hj
  ·rw[bT]at h;rcases qj.1 h with ⟨xs,rfl,h1,rfl⟩|⟨xs,hx,⟨j,e,ex,z,ys,h2,h3,h1,rfl⟩|⟨j,e,ex,ys,h3,h1,rfl⟩⟩
   ·rw[jE h1];exact .ob p xs h0
   ·rw[jE h1];exact .kp p a xs j e ex z ys h0 hx h2 h3
   ·rw[jE h1];exact .nw p a xs j e ex ys h0 hx h3
 ·intro h;cases h with
  |rb q xs h0=>exact .inl ⟨q,_,h0,h_.2 (.inl ⟨xs,rfl,rfl,rfl⟩)⟩
  |rr q a xs j e ex ys h0 hx hj=>exact .inl ⟨q,a,h0,h_.2 (.inr ⟨xs,j,e,ex,ys,hx,hj,rfl,rfl⟩)⟩
  |ob p xs h0=>exact .inr ⟨p,_,h0,qj.2 (.inl ⟨xs,rfl,by rw[bT],by rw[bT]⟩)⟩
  |kp p a xs j e ex z ys h0 hx h2 h3=>exact .inr ⟨p,a,h0,qj.2 (.inr ⟨xs,hx, .inl ⟨j,e,ex,z,ys,h2,h3,by rw[bT],rfl⟩⟩)⟩
  |nw p a xs j e ex ys h0 hx h3=>exact .inr ⟨p,a,h0,qj.2 (.inr ⟨xs,hx, .inr ⟨j,e,ex,ys,h3,by rw[bT],rfl⟩⟩)⟩
def WK:aC AA->aC eE
 |some (.ow e ex ys)=>aj (.o (.row e ex ys))|_=>ao
def kpC(a b:aC AA):aC eE:=
 match a,b with|some (.ow e ex _),aj (.kp ys)=>aj (.o (.row e ex ys))|_,_=>ao
def PU:eV->aA AA| .v _ xs=>xs| .pt xs=>xs| .fb _=>[]
theorem Kr.eq{a:eV}{xs:aA AA}(h:Kr a xs):PU a=xs:=by rcases h with ⟨g,rfl⟩|rfl<;>rfl
def De(args:aA eV)(r:dP)(P J:aG):aC eE:=
 if 500<=P then(match r.rs[P-500]? with
  |some a=>if J=900 then aj (.o (.box (gi (dO P 0) (PU a))))else WK (PU a)[J]?
  |none=>ao)
 else(match args[P]? with
  |some a=>if J=900 then aj (.o (.box (nF P 0 (r.outs.getD P []))))else if J<100 then kpC (PU a)[J]? (r.outs.getD P [])[J]? else WK (r.outs.getD P [])[J-100]?
  |none=>ao)
structure Small (args:aA eV) (r:dP):Prop where
 a:∀(p:aG) (a:eV) (xs:aA AA),args[p]? =aj a->Kr a xs->p<500
 rl:∀(q:aG) (a:eV) (xs:aA AA),r.rs[q]? =aj a->Kr a xs->xs.length<=100
 o:∀p:aG,(r.outs.getD p []).length<=100
theorem GX{args:aA eV}{r:dP}(hs:Small args r){m:aG}{c:eE}(h:Aa args r m c):∃P J,m=dO P J/\J<1000/\De args r P J=aj c:=by
 cases h with
 |rb q xs h0=>exact⟨500+q,900,rfl,by omega,by simp[De,h0,PU]⟩
 |rr q a xs j e ex ys h0 hx hj=>
  have:=hs.rl q a xs h0 hx;have jF:=(aU.1 hj).1;refine⟨500+q,j,rfl,by omega, ?_⟩
  have:j≠900:=by omega
  simp[De,h0,hx.eq,hj,this,WK]
 |ob p xs h0=>
  have:=hs.a p _ xs h0 (.inr rfl);have:¬500<=p:=by omega
  exact⟨p,900,rfl,by omega,by simp[De,h0,this]⟩
 |kp p a xs j e ex z ys h0 hx h2 h3=>
  have:=hs.a p _ xs h0 hx;have h5:¬500<=p:=by omega
  have jF:=(aU.1 h3).1;have:=hs.o p;have M1:j≠900:=by omega
  have N5:j<100:=by omega
  refine⟨p,j,rfl,by omega, ?_⟩
  simp only[De,h0,hx.eq,h2,h3,M1,N5,h5,if_false,if_true,kpC]
 |nw p a xs j e ex ys h0 hx h3=>
  have:=hs.a p _ xs h0 hx;have h5:¬500<=p:=by omega
  have jF:=(aU.1 h3).1;have:=hs.o p;have M1:¬100+j=900:=by omega
  have N5:¬100+j<100:=by omega
  refine⟨p,100+j,rfl,by omega, ?_⟩
  have hj3:100+j-100=j:=by omega
  simp only[De,h0,h3,M1,N5,hj3,h5,if_false,WK]
theorem yv:∀{l:aA (aG×eE)} {k:aG} {c:eE},(k,c)∈l->(∀c',(k,c')∈l->c'=c)->fO l k=c:=by
 intro l;induction l with
 |nil=>intro k c h;cases h
 |cons d l ih=>
  obtain⟨k',c'⟩:=d;intro k c h hu;unfold fO;cases hb:bA k k' with
  |true=>have:=aX hb;subst this;exact hu c' (dy ..)
  |false=>
   rcases cz.1 h with h|h
   ·cases h;simp at hb
   ·exact ih h (λc'' h''=>hu c'' (cW _ h''))
theorem vG{args:aA eV}{r:dP}(hs:Small args r){m:aG}{c:eE}(h:Aa args r m c):nO args r (cX m)=c:=by refine yv (vH.2 h) (λc' h'=> ?_);obtain⟨P,J,h1,h2,h3⟩:=GX hs h;obtain⟨P',J',Jm,MV,Lm⟩:=GX hs (vH.1 h');obtain⟨rfl,rfl⟩:=tf h2 MV (h1.symm.trans Jm);rw[h3]at Lm;cases Lm;rfl
theorem qh{args:aA eV}{r:dP}{m:aG}{o:Obj}(h:nO args r (cX m)= .o o):Aa args r m (.o o):=vH.1 (nh h (by simp))
theorem uZ{p:aG}:∀{xs:aA AA} {j i:aG},(nF p j xs)[i]? =(xs[i]?).map (sE p (j+i)):=by
 intro xs;induction xs with
 |nil=>intro j i;simp[nF]
 |cons a xs ih=>
  intro j i;cases i with
  |zero=>rfl
  |succ i=>simp only[nF,dI,ih];congr 2;omega
theorem ug{p:aG}:∀{xs:aA AA} {j:aG},(nF p j xs).length=xs.length:=by
 intro xs;induction xs with
 |nil=>intro j;rfl
 |cons a xs ih=>intro j;simp[nF,ih]
theorem DD:∀{l:aA eV} {q i:aG},(kR q l)[i]? =(l[i]?).map (ED (q+i)):=by
 intro l;induction l with
 |nil=>intro q i;simp[kR]
 |cons a l ih=>
  intro q i;cases i with
  |zero=>rfl
  |succ i=>simp only[kR,dI,ih];congr 2;omega
theorem vR:∀{l:aA eV} {q:aG},(kR q l).length=l.length:=by
 intro l;induction l with
 |nil=>intro q;rfl
 |cons a l ih=>intro q;simp[kR,ih]
end Go.FG

namespace Go.FG
def lQ(L:aA B9):aA (aG×eE):=jQ (L.map λt=>(t.1,t.2.2))
theorem iv(L R:aA B9):lQ (L++R)=lQ L++lQ R:=by simp[lQ,jQ]
def On(ok:aY)(σ:St)(n:aG)(a:AA):Prop:=
 match a with
 | .ow _ ex _=>(ex=ak\/ok=ak)/\σ (cX n)= .jH/\n<900000000
 | .sh _ _=>ok=ak| .kp _=>False| .fn _ _=>False|_=>True
def Ni(n x:aG)(a:AA):aA B9:=match a with| .ow e ex ys=>[(n,aj x, .row e ex ys)]|_=>[]
theorem Ht{n x:aG}{a:AA}{m:aG}{t:aC aG}{ob:Obj}:(m,t,ob)∈Ni n x a↔∃e ex ys,a= .ow e ex ys/\m=n/\t=aj x/\ob= .row e ex ys:=by
 cases a with
 |ow e ex ys=>
  constructor
  ·intro h;have h:=aZ.1 h;cases h;exact⟨e,ex,ys,rfl,rfl,rfl,rfl⟩
  ·rintro ⟨e',s6,B7,h,rfl,rfl,rfl⟩;cases h;exact aZ.2 rfl
 |_=>simp[Ni]
theorem lA.mono{ok:aY}{L L':aA B9}{v v3:AV}(h:lA ok L v v3)(hs:∀e∈L,e∈L'):lA ok L' v v3:=h.imp id (λ⟨n,x,ob,h1,h2,h3⟩=>⟨n,x,ob,h1,h2,hs _ h3⟩)
theorem mZ.mono{ok:aY}{L L':aA B9}{v v3:aA AV}(h:mZ ok L v v3)(hs:∀e∈L,e∈L'):mZ ok L' v v3:=⟨h.1,λj x y hx hy=>(h.2 j x y hx hy).mono hs⟩
section
variable {P:cR} {E:fF} {σ:St} {a:Act} {w:bF} {c:eO} {o:e8} {nm:aG} {e:rT}
theorem C8{ok:aY}{n:aG}{a:AA}{v:AV}{ws:aA (aG×eE)}(h:(qN ok n a).val σ=aj (v,ws)):On ok σ n a/\v=kQ n a/\∀x,ws=lQ (Ni n x a)/\lA ok (Ni n x a) v (kQ x a):=by
 cases a with
 |i=>obtain⟨rfl,rfl⟩:=bU (aF h);exact⟨trivial,rfl,λx=>⟨rfl, .inl ⟨rfl,trivial⟩⟩⟩
 |b=>obtain⟨rfl,rfl⟩:=bU (aF h);exact⟨trivial,rfl,λx=>⟨rfl, .inl ⟨rfl,trivial⟩⟩⟩
 |s=>obtain⟨rfl,rfl⟩:=bU (aF h);exact⟨trivial,rfl,λx=>⟨rfl, .inl ⟨rfl,trivial⟩⟩⟩
 |nl=>obtain⟨rfl,rfl⟩:=bU (aF h);exact⟨trivial,rfl,λx=>⟨rfl, .inl ⟨rfl,trivial⟩⟩⟩
 |sh e xs=>obtain⟨h1,h⟩:=cE h;obtain⟨rfl,rfl⟩:=bU (aF h);exact⟨h1,rfl,λx=>⟨rfl, .inl ⟨rfl,h1⟩⟩⟩
 |ow e ex xs=>obtain⟨h1,h⟩:=cE h;obtain⟨u,h2,h⟩:=Rd.bind_some h;obtain⟨rfl,rfl⟩:=bU (aF h);obtain⟨f1,f2⟩:=j9 h2;exact⟨⟨by simpa using h1,f1,f2⟩,rfl,λx=>⟨rfl, .inr ⟨n,x,_,rfl,rfl,aZ.2 rfl⟩⟩⟩
 |kp=>simp[qN]at h
 |fn=>simp[qN]at h
theorem AD{ok:aY}{P:aG}:∀{xs:aA AA} {n j:aG} {vs:aA AV} {ws:aA (aG×eE)},(zC ok n xs).val σ=aj (vs,ws)->vs=gi n xs/\(∀(i:aG) (a:AA),xs[i]? =aj a->On ok σ (n+i) a)/\
  ∃L,ws=lQ L/\(∀m t ob,(m,t,ob)∈L↔∃i e ex ys,xs[i]? =aj (.ow e ex ys)/\m=n+i/\t=aj (dO P (j+i))/\ob= .row e ex ys)/\∀(i:aG) (v:AV) (a:AA),vs[i]? =aj v->xs[i]? =aj a->lA ok L v (kQ (dO P (j+i)) a):=by
 intro xs;induction xs with
 |nil=>intro n j vs ws h;obtain⟨rfl,rfl⟩:=bU (aF h);exact⟨rfl,λi a h=>by simp at h,[],rfl,λm t ob=>by simp,λi v a h=>by simp at h⟩
 |cons a xs ih=>
  intro n j vs ws h;obtain⟨⟨v,w1⟩,h1,h⟩:=Rd.bind_some h;obtain⟨⟨vr,w2⟩,h2,h⟩:=Rd.bind_some h;obtain⟨rfl,rfl⟩:=bU (aF h);obtain⟨b1,rfl,b2⟩:=C8 h1;obtain⟨rfl,b3⟩:=b2 (dO P j);obtain⟨i1,i2,L,rfl,i3,i4⟩:=ih (j:=j+1) h2;refine⟨by rw[i1];rfl,λi a' hi=> ?_,Ni n (dO P j) a++L,by rw[iv],λm t ob=> ?_,λi v' a' hv ha=> ?_⟩
  ·cases i with
   |zero=>cases hi;exact b1
   |succ i=>have:=i2 i a' hi;rwa[show n+1+i=n+(i+1)by omega]at this
  ·rw[a_,Ht,i3];constructor
   ·rintro (⟨e,ex,ys,rfl,rfl,rfl,rfl⟩|⟨i,e,ex,ys,h1,rfl,rfl,rfl⟩)
    ·exact⟨0,e,ex,ys,rfl,rfl,rfl,rfl⟩
    ·exact⟨i+1,e,ex,ys,h1,by omega,by rw[show j+1+i=j+(i+1)by omega],rfl⟩
   ·rintro ⟨i,e,ex,ys,h1,rfl,rfl,rfl⟩;cases i with
    |zero=>cases h1;exact .inl ⟨e,ex,ys,rfl,rfl,rfl,rfl⟩
    |succ i=>exact .inr ⟨i,e,ex,ys,h1,by omega,by rw[show j+1+i=j+(i+1)by omega],rfl⟩
  ·cases i with
   |zero=>cases hv;cases ha;exact b3.mono (λe he=>bO _ he)
   |succ i=>have:=(i4 i v' a' hv ha).mono (L':=Ni n (dO P j) a++L) (λe he=>bI _ he);rwa[show j+1+i=j+(i+1)by omega]at this
def Gl(σ:St)(ok:aY)(b P:aG)(x:eV)(L:aA B9)(n:aG)(t:aC aG)(ob:Obj):Prop:=
 (∃xs j e ex ys,Kr x xs/\xs[j]? =aj (.ow e ex ys)/\n=b+j/\t=aj (dO P j)/\ob= .row e ex ys/\(ex=ak\/ok=ak)/\σ (cX n)= .jH/\n<900000000)\/
 ∃xs,x= .pt xs/\n=b+30/\t=aj (dO P 900)/\ob= .box (gi b xs)/\σ (cX n)= .jH/\n<900000000/\mZ ok L (gi b xs) (gi (dO P 0) xs)
theorem IL{ok:aY}{b P:aG}{x:eV}{s:aY×aA AV}{ws:aA (aG×eE)}(h:(EF ok b x).val σ=aj (s,ws)):∃L,ws=lQ L/\(∀n t ob,(n,t,ob)∈L->Gl σ ok b P x L n t ob)/\ArgRel ok L s (ED P x):=by
 have sB:∀j,dO P (0+j)=dO P 0+j:=λj=>by unfold dO;omega
 cases x with
 |v g xs=>
  obtain⟨⟨vs,w1⟩,h1,h⟩:=Rd.bind_some h;obtain⟨rfl,rfl⟩:=bU (aF h);obtain⟨rfl,i2,L,rfl,i3,i4⟩:=AD (P:=P) (j:=0) h1;refine⟨L,rfl,λn t ob hm=> ?_,rfl,by simp[ED,iA],λj v v3 hv CA=> .inl ?_⟩
  ·obtain⟨i,e,ex,ys,h1,rfl,rfl,rfl⟩:=(i3 n t ob).1 hm;have:=i2 i _ h1;exact .inl ⟨xs,i,e,ex,ys, .inl ⟨g,rfl⟩,h1,rfl,by rw[bT],rfl,this⟩
  ·have CA:(gi (dO P 0) xs)[j]? =aj v3:=CA;rw[ie]at CA;cases hx:xs[j]? with
   |none=>rw[hx]at CA;cases CA
   |some a=>rw[hx]at CA;cases CA;have:=i4 j v a hv hx;rwa[sB]at this
 |pt xs=>
  obtain⟨⟨vs,w1⟩,h1,h⟩:=Rd.bind_some h;obtain⟨u,h2,h⟩:=Rd.bind_some h;obtain⟨rfl,rfl⟩:=bU (aF h);obtain⟨f1,f2⟩:=j9 h2;obtain⟨rfl,i2,L,rfl,i3,i4⟩:=AD (P:=P) (j:=0) h1;have cr:mZ ok L (gi b xs) (gi (dO P 0) xs):=by
   refine⟨by rw[iA,iA],λj v v3 hv CA=> ?_⟩
   rw[ie]at CA;cases hx:xs[j]? with
   |none=>rw[hx]at CA;cases CA
   |some a=>rw[hx]at CA;cases CA;have:=i4 j v a hv hx;rwa[sB]at this
  refine⟨L++[(b+30,aj (dO P 900), .box (gi b xs))],by rw[iv];rfl,λn t ob hm=> ?_,rfl,rfl,λj v v3 hv CA=> .inr ?_⟩
  ·rcases a_.1 hm with hm|hm
   ·obtain⟨i,e,ex,ys,h1,rfl,rfl,rfl⟩:=(i3 n t ob).1 hm;have:=i2 i _ h1;exact .inl ⟨xs,i,e,ex,ys, .inr rfl,h1,rfl,by rw[bT],rfl,this⟩
   ·rw[aZ]at hm;cases hm;exact .inr ⟨xs,rfl,rfl,rfl,rfl,f1,f2,cr.mono (λe he=>bO _ he)⟩
  ·cases j with
   |zero=>cases hv;cases CA;exact⟨_,_,_,rfl,rfl,bI _ (aZ.2 rfl)⟩
   |succ j=>simp at hv
 |fb xs=>simp[EF]at h
theorem ArgRel.mono{ok:aY}{L L':aA B9}{s s3:aY×aA AV}(h:ArgRel ok L s s3)(hs:∀e∈L,e∈L'):ArgRel ok L' s s3:=⟨h.1,h.2.1,λj x y hx hy=>(h.2.2 j x y hx hy).imp (λh=>h.mono hs) (λ⟨n,x,ob,h1,h2,h3⟩=>⟨n,x,ob,h1,h2,hs _ h3⟩)⟩
theorem Gl.mono{ok:aY}{b P:aG}{x:eV}{L L':aA B9}{n:aG}{t:aC aG}{ob:Obj}(h:Gl σ ok b P x L n t ob)(hs:∀e∈L,e∈L'):Gl σ ok b P x L' n t ob:=h.imp id (λ⟨xs,h1,h2,h3,h4,h5,h6,h7⟩=>⟨xs,h1,h2,h3,h4,h5,h6,h7.mono hs⟩)
theorem Gz{ok:aY}:∀{l:aA eV} {b P:aG} {ss:aA (aY×aA AV)} {ws:aA (aG×eE)},(AE ok b l).val σ=aj (ss,ws)->∃L,ws=lQ L/\(∀n t ob,(n,t,ob)∈L->∃q x,l[q]? =aj x/\Gl σ ok (b+40*q) (P+q) x L n t ob)/\DM ok L ss (kR P l):=by
 intro l;induction l with
 |nil=>intro b P ss ws h;obtain⟨rfl,rfl⟩:=bU (aF h);exact⟨[],rfl,λn t ob h=>(by cases h),rfl,λj x x3 h=>by simp at h⟩
 |cons x l ih=>
  intro b P ss ws h;obtain⟨⟨v,w1⟩,h1,h⟩:=Rd.bind_some h;obtain⟨⟨vr,w2⟩,h2,h⟩:=Rd.bind_some h;obtain⟨rfl,rfl⟩:=bU (aF h);obtain⟨L1,rfl,a1,a2⟩:=IL (P:=P) h1;obtain⟨L2,rfl,b1,b2,b3⟩:=ih (P:=P+1) h2;refine⟨L1++L2,by rw[iv],λn t ob hm=> ?_,by simp[kR,b2],λj s s3 hs hs3=> ?_⟩
  ·rcases a_.1 hm with hm|hm
   ·exact⟨0,x,rfl,(a1 n t ob hm).mono (λe he=>bO _ he)⟩
   ·obtain⟨q,y,hq,hr⟩:=b1 n t ob hm;refine⟨q+1,y,hq, ?_⟩
    rw[show b+40*(q+1)=b+40+40*q by omega,show P+(q+1)=P+1+q by omega];exact hr.mono (λe he=>bI _ he)
  ·cases j with
   |zero=>cases hs;cases hs3;exact a2.mono (λe he=>bO _ he)
   |succ j=>exact(b3 j s s3 hs hs3).mono (λe he=>bI _ he)
end
end Go.FG

namespace Go.FG
section
variable {P:cR} {E:fF} {σ:St} {a:Act} {w:bF} {c:eO} {o:e8} {nm:aG} {e:rT}
def qy(σ:St)(ok bx:aY)(b p j:aG)(k:Pk)(a:AA)(n:aG)(t:aC aG)(ob:Obj):Prop:=
 (∃e ex,k.src= .own n e ex/\t=ao/\ob= .dead)\/
 (∃e ex ys,k.src= .own n e ex/\a= .kp ys/\t=aj (dO p j)/\ob= .row e ex ys/\(ex=ak\/ok=ak))\/
 ∃e ex ys,bx=ak/\a= .ow e ex ys/\n=b+j/\t=aj (dO p (100+j))/\ob= .row e ex ys/\(ex=ak\/ok=ak)/\σ (cX n)= .jH/\n<900000000
theorem RQ{ok:aY}{b p j:aG}{k:Pk}{a:AA}{ws:aA (aG×eE)}(h:(DA ok k a).val σ=aj ws):∃L,ws=lQ L/\(∀n t ob,(n,t,ob)∈L->qy σ ok aq b p j k a n t ob)/\∀n e ex,k.src= .own n e ex->∃t ob,(n,t,ob)∈L:=by
 cases hs:k.src with
 |no=>
  have h:(Rd.ret []:Rd (aA (aG×eE))).val σ=aj ws:=by unfold DA at h;rw[hs]at h;exact h
  obtain rfl:=aF h;exact⟨[],rfl,λn t ob h=>(by cases h),λn e ex h=>by cases h⟩
 |own n e ex=>
  cases a with
  |kp ys=>
   have h:(bif ex||ok then Rd.ret [(cX n,eE.o (.row e ex ys))]else .fail).val σ=aj ws:=by unfold DA at h;rw[hs]at h;exact h
   obtain⟨h1,h⟩:=cE h;obtain rfl:=aF h;refine⟨[(n,aj (dO p j), .row e ex ys)],rfl,λm t ob hm=> ?_,λm e' s6 h=> ?_⟩
   ·rw[aZ]at hm;cases hm;exact .inr (.inl ⟨e,ex,ys,hs,rfl,rfl,rfl,by simpa using h1⟩)
   ·cases h;exact⟨_,_,aZ.2 rfl⟩
  |nl=>
   have h:(Rd.ret [(cX n,eE.o .dead)]:Rd (aA (aG×eE))).val σ=aj ws:=by unfold DA at h;rw[hs]at h;exact h
   obtain rfl:=aF h;refine⟨[(n,ao, .dead)],rfl,λm t ob hm=> ?_,λm e' s6 h=> ?_⟩
   ·rw[aZ]at hm;cases hm;exact .inl ⟨e,ex,hs,rfl,rfl⟩
   ·cases h;exact⟨_,_,aZ.2 rfl⟩
  |_=>unfold DA at h;rw[hs]at h;simp at h
theorem Nr{ok:aY}{b p:aG}:∀{r:aA Pk} {l:aA AA} {j:aG} {ws:aA (aG×eE)},(JQ ok r l).val σ=aj ws->∃L,ws=lQ L/\(∀n t ob,(n,t,ob)∈L->∃i k,r[i]? =aj k/\qy σ ok aq b p (j+i) k (l.getD i .nl) n t ob)/\
  ∀(i:aG) (k:Pk) (n e:aG) (ex:aY),r[i]? =aj k->k.src= .own n e ex->∃t ob,(n,t,ob)∈L:=by
 intro r;induction r with
 |nil=>intro l j ws h;obtain rfl:=aF h;exact⟨[],rfl,λn t ob h=>(by cases h),λi k n e ex h=>by simp at h⟩
 |cons k r ih=>
  intro l j ws h;obtain⟨w1,h1,h⟩:=Rd.bind_some h;obtain⟨w2,h2,h⟩:=Rd.bind_some h;obtain rfl:=aF h;obtain⟨L1,rfl,a1,a2⟩:=RQ (b:=b) (p:=p) (j:=j) h1;obtain⟨L2,rfl,b1,b2⟩:=ih (j:=j+1) h2;have e0:l.headD .nl=l.getD 0 .nl:=by cases l<;>rfl
  have e1:∀i,l.tail.getD i .nl=l.getD (i+1) .nl:=λi=>by cases l<;>simp
  refine⟨L1++L2,by rw[iv],λn t ob hm=> ?_,λi k' n e ex hk hs=> ?_⟩
  ·rcases a_.1 hm with hm|hm
   ·exact⟨0,k,rfl,by rw[<-e0];exact a1 n t ob hm⟩
   ·obtain⟨i,k',hk,hc⟩:=b1 n t ob hm;rw[e1]at hc;exact⟨i+1,k',hk,by rw[show j+(i+1)=j+1+i by omega];exact hc⟩
  ·cases i with
   |zero=>cases hk;obtain⟨t,ob,h⟩:=a2 n e ex hs;exact⟨t,ob,bO _ h⟩
   |succ i=>obtain⟨t,ob,h⟩:=b2 i k' n e ex hk hs;exact⟨t,ob,bI _ h⟩
theorem Np{ok:aY}{b p j:aG}{k:Pk}{v v':AV}{a:AA}{ws:aA (aG×eE)}(hv:∀n e ex,k.src= .own n e ex->v= .own n)(h:(Bo ok (b+j) k v a).val σ=aj (v',ws)):
  ∃L,ws=lQ L/\(∀n t ob,(n,t,ob)∈L->qy σ ok ak b p j k a n t ob)/\(∀n e ex,k.src= .own n e ex->∃t ob,(n,t,ob)∈L)/\lA ok L v' (sE p j a):=by
 have new:∀{v':AV} {ws:aA (aG×eE)},(qN ok (b+j) a).val σ=aj (v',ws)->∃L,ws=lQ L/\(∀n t ob,(n,t,ob)∈L->qy σ ok ak b p j k a n t ob)/\lA ok L v' (sE p j a):=by
  intro v' ws h;obtain⟨b1,rfl,b2⟩:=C8 h;obtain⟨rfl,b3⟩:=b2 (dO p (100+j));refine⟨_,rfl,λn t ob hm=> ?_, ?_⟩
  ·obtain⟨e,ex,ys,rfl,rfl,rfl,rfl⟩:=Ht.1 hm;exact .inr (.inr ⟨e,ex,ys,rfl,rfl,rfl,rfl,rfl,b1⟩)
  ·have:sE p j a=kQ (dO p (100+j)) a:=by cases a<;>first|rfl|exact b1.elim
   rw[this];exact b3
 cases hs:k.src with
 |no=>
  have h:(qN ok (b+j) a).val σ=aj (v',ws):=by unfold Bo at h;rw[hs]at h;exact h
  obtain⟨L,rfl,a1,a2⟩:=new h;exact⟨L,rfl,a1,λm e' s6 h=>(by cases h),a2⟩
 |own n e ex=>
  have other:((qN ok (b+j) a).bind λ(x:AV×aA (aG×eE))=>Rd.ret (x.1,(cX n,eE.o .dead)::x.2)).val σ=aj (v',ws)->∃L,ws=lQ L/\(∀n t ob,(n,t,ob)∈L->qy σ ok ak b p j k a n t ob)/\(∀n' e' s6,Src.own n e ex= .own n' e' s6->∃t ob,(n',t,ob)∈L)/\lA ok L v' (sE p j a):=by
   intro h;obtain⟨⟨v1,w1⟩,h1,h⟩:=Rd.bind_some h;obtain⟨rfl,rfl⟩:=bU (aF h);obtain⟨L,rfl,a1,a2⟩:=new h1;refine⟨(n,ao, .dead)::L,rfl,λm t ob hm=> ?_,λm e' s6 h=> ?_,a2.mono (λe he=>cW _ he)⟩
   ·rcases cz.1 hm with hm|hm
    ·cases hm;exact .inl ⟨e,ex,hs,rfl,rfl⟩
    ·exact a1 m t ob hm
   ·cases h;exact⟨_,_,dy ..⟩
  cases a with
  |kp ys=>
   have h:(bif ex||ok then Rd.ret (v,[(cX n,eE.o (.row e ex ys))])else .fail).val σ=aj (v',ws):=by unfold Bo at h;rw[hs]at h;exact h
   obtain⟨h1,h⟩:=cE h;obtain⟨rfl,rfl⟩:=bU (aF h);refine⟨[(n,aj (dO p j), .row e ex ys)],rfl,λm t ob hm=> ?_,λm e' s6 h=> ?_, .inr ⟨n,dO p j,_,hv n e ex hs,rfl,aZ.2 rfl⟩⟩
   ·rw[aZ]at hm;cases hm;exact .inr (.inl ⟨e,ex,ys,hs,rfl,rfl,rfl,by simpa using h1⟩)
   ·cases h;exact⟨_,_,aZ.2 rfl⟩
  |_=>exact other (by unfold Bo at h;rw[hs]at h;exact h)
theorem JN{ok:aY}{b p:aG}:∀{r:aA Pk} {vs:aA AV} {l:aA AA} {j:aG} {Il:aA AV} {ws:aA (aG×eE)},(∀(i:aG) (k:Pk) (n e:aG) (ex:aY),r[i]? =aj k->k.src= .own n e ex->vs[i]? =aj (.own n))->(qW ok (b+j) r vs l).val σ=aj (Il,ws)->
  l.length=r.length/\∃L,ws=lQ L/\(∀n t ob,(n,t,ob)∈L->∃i k,r[i]? =aj k/\qy σ ok ak b p (j+i) k (l.getD i .nl) n t ob)/\
  (∀(i:aG) (k:Pk) (n e:aG) (ex:aY),r[i]? =aj k->k.src= .own n e ex->∃t ob,(n,t,ob)∈L)/\Il.length=l.length/\∀(i:aG) (v:AV) (a:AA),Il[i]? =aj v->l[i]? =aj a->lA ok L v (sE p (j+i) a):=by
 intro r;induction r with
 |nil=>
  intro vs l j Il ws hv h;cases vs with
  |cons=>cases l<;>simp[qW]at h
  |nil=>
   cases l with
   |cons=>simp[qW]at h
   |nil=>obtain⟨rfl,rfl⟩:=bU (aF h);exact⟨rfl,[],rfl,λn t ob h=>(by cases h),λi k n e ex h=>by simp at h,rfl,λi v a h=>by simp at h⟩
 |cons k r ih=>
  intro vs l j Il ws hv h;cases vs with
  |nil=>cases l<;>simp[qW]at h
  |cons v vs=>
   cases l with
   |nil=>simp[qW]at h
   |cons a l=>
    obtain⟨⟨v1,w1⟩,h1,h⟩:=Rd.bind_some h;obtain⟨⟨vr,w2⟩,h2,h⟩:=Rd.bind_some h;obtain⟨rfl,rfl⟩:=bU (aF h);obtain⟨L1,rfl,a1,a2,a3⟩:=Np (p:=p) (λn e ex hs=>by have:=hv 0 k n e ex rfl hs;simpa using this) h1;obtain⟨i0,L2,rfl,b1,b2,b3,b4⟩:=ih (j:=j+1) (λi k' n e ex hk hs=>hv (i+1) k' n e ex hk hs) h2;refine⟨by simp[i0],L1++L2,by rw[iv],λn t ob hm=> ?_,λi k' n e ex hk hs=> ?_,by simp[b3],λi v' a' hv' ha'=> ?_⟩
    ·rcases a_.1 hm with hm|hm
     ·exact⟨0,k,rfl,a1 n t ob hm⟩
     ·obtain⟨i,k',hk,hc⟩:=b1 n t ob hm;exact⟨i+1,k',hk,by rw[show j+(i+1)=j+1+i by omega];exact hc⟩
    ·cases i with
     |zero=>cases hk;obtain⟨t,ob,h⟩:=a2 n e ex hs;exact⟨t,ob,bO _ h⟩
     |succ i=>obtain⟨t,ob,h⟩:=b2 i k' n e ex hk hs;exact⟨t,ob,bI _ h⟩
    ·cases i with
     |zero=>cases hv';cases ha';exact a3.mono (λe he=>bO _ he)
     |succ i=>have:=(b4 i v' a' hv' ha').mono (L':=L1++L2) (λe he=>bI _ he);rwa[show j+1+i=j+(i+1)by omega]at this
def Gj(σ:St)(ok:aY)(b p:aG)(pa:Pa)(l:aA AA)(L:aA B9)(n:aG)(t:aC aG)(ob:Obj):Prop:=
 (∃i k,pa.cs[i]? =aj k/\qy σ ok pa.box.isSome b p i k (l.getD i .nl) n t ob)\/∃xs Il,pa.box=aj (n,xs)/\t=aj (dO p 900)/\ob= .box Il/\mZ ok L Il (nF p 0 l)
theorem RP{T:Tab}{mW:aA aG}{v:bg}{ok:aY}{b p:aG}{pa:Pa}(Jt:zd T σ w c mW pa v){l:aA AA}{ws:aA (aG×eE)}(h:(RO ok b pa l).val σ=aj ws):
  ∃L,ws=lQ L/\(∀n t ob,(n,t,ob)∈L->Gj σ ok b p pa l L n t ob)/\∀n∈pa.tc,∃t ob,(n,t,ob)∈L:=by
 have cs:∀n,n∈pa.cs.flatMap (·.tc)->∃(i:aG) (k:Pk) (e:aG) (ex:aY),pa.cs[i]? =aj k/\k.src= .own n e ex:=by
  intro n hn;obtain⟨k,hk,hn⟩:=bG.1 hn;obtain⟨i,hi⟩:=bZ hk;unfold Pk.tc at hn;split at hn
  ·rename_i m e ex hs;have:=aZ.1 hn;subst this;exact⟨i,k,e,ex,hi,hs⟩
  ·cases hn
 unfold RO at h;split at h
 ·rename_i n xs hb;obtain⟨⟨Il,w1⟩,h1,h⟩:=Rd.bind_some h;obtain rfl:=aF h;obtain⟨_,_,_,hl,_,uT⟩:=Jt.box n xs hb;obtain⟨i0,L,rfl,a1,a2,a3,a4⟩:=JN (b:=b) (p:=p) (j:=0) uT (by rw[wP];exact h1);have cr:mZ ok L Il (nF p 0 l):=by
   refine⟨by rw[ug,a3],λi v v3 hv CA=> ?_⟩
   rw[uZ]at CA;cases hx:l[i]? with
   |none=>rw[hx]at CA;cases CA
   |some y=>rw[hx]at CA;cases CA;exact a4 i v y hv hx
  refine⟨L++[(n,aj (dO p 900), .box Il)],by rw[iv];rfl,λm t ob hm=> ?_,λm hm=> ?_⟩
  ·rcases a_.1 hm with hm|hm
   ·obtain⟨i,k,hk,hc⟩:=a1 m t ob hm;rw[bT]at hc;exact .inl ⟨i,k,hk,by rw[hb];exact hc⟩
   ·rw[aZ]at hm;cases hm;exact .inr ⟨xs,Il,hb,rfl,rfl,cr.mono (λe he=>bO _ he)⟩
  ·unfold Pa.tc at hm;rw[hb]at hm;rcases a_.1 hm with hm|hm
   ·have:=aZ.1 hm;subst this;exact⟨_,_,bI _ (aZ.2 rfl)⟩
   ·obtain⟨i,k,e,ex,hk,hs⟩:=cs m hm;obtain⟨t,ob,h⟩:=a2 i k m e ex hk hs;exact⟨t,ob,bO _ h⟩
 ·rename_i hb;obtain⟨L,rfl,a1,a2⟩:=Nr (b:=b) (p:=p) (j:=0) h;refine⟨L,rfl,λm t ob hm=> ?_,λm hm=> ?_⟩
  ·obtain⟨i,k,hk,hc⟩:=a1 m t ob hm;rw[bT]at hc;exact .inl ⟨i,k,hk,by rw[hb];exact hc⟩
  ·unfold Pa.tc at hm;rw[hb,gk]at hm;obtain⟨i,k,e,ex,hk,hs⟩:=cs m hm;exact a2 i k m e ex hk hs
theorem Gj.mono{ok:aY}{b p:aG}{pa:Pa}{l:aA AA}{L L':aA B9}{n:aG}{t:aC aG}{ob:Obj}(h:Gj σ ok b p pa l L n t ob)(hs:∀e∈L,e∈L'):Gj σ ok b p pa l L' n t ob:=
 h.imp id (λ⟨xs,Il,h1,h2,h3,h4⟩=>⟨xs,Il,h1,h2,h3,h4.mono hs⟩)
theorem Nq{T:Tab}{mW:aA aG}{ok:aY}:∀{ps:aA Pa} {b p:aG} {os:aA (aA AA)} {ws:aA (aG×eE)},(∀(q:aG) (pa:Pa),ps[q]? =aj pa->∃v,zd T σ w c mW pa v)->(JP ok b ps os).val σ=aj ws->
  ∃L,ws=lQ L/\(∀n t ob,(n,t,ob)∈L->∃q pa,ps[q]? =aj pa/\Gj σ ok (b+40*q) (p+q) pa (os.getD q []) L n t ob)/\∀n∈ps.flatMap (·.tc),∃t ob,(n,t,ob)∈L:=by
 intro ps;induction ps with
 |nil=>intro b p os ws _ h;obtain rfl:=aF h;exact⟨[],rfl,λn t ob h=>(by cases h),λn h=>(by cases h)⟩
 |cons pa ps ih=>
  intro b p os ws E0 h;obtain⟨w1,h1,h⟩:=Rd.bind_some h;obtain⟨w2,h2,h⟩:=Rd.bind_some h;obtain rfl:=aF h;obtain⟨v,Jt⟩:=E0 0 pa rfl;obtain⟨L1,rfl,a1,a2⟩:=RP (p:=p) Jt h1;obtain⟨L2,rfl,b1,b2⟩:=ih (p:=p+1) (λq pa' hq=>E0 (q+1) pa' hq) h2;have e0:os.headD []=os.getD 0 []:=by cases os<;>rfl
  have e1:∀i,os.tail.getD i []=os.getD (i+1) []:=λi=>by cases os<;>simp
  refine⟨L1++L2,by rw[iv],λn t ob hm=> ?_,λn hn=> ?_⟩
  ·rcases a_.1 hm with hm|hm
   ·exact⟨0,pa,rfl,by rw[<-e0];exact(a1 n t ob hm).mono (λe he=>bO _ he)⟩
   ·obtain⟨q,pa',hq,hc⟩:=b1 n t ob hm;rw[e1]at hc;refine⟨q+1,pa',hq, ?_⟩
    rw[show b+40*(q+1)=b+40+40*q by omega,show p+(q+1)=p+1+q by omega];exact hc.mono (λe he=>bI _ he)
  ·rw[wO]at hn;rcases a_.1 hn with hn|hn
   ·obtain⟨t,ob,h⟩:=a2 n hn;exact⟨t,ob,bO _ h⟩
   ·obtain⟨t,ob,h⟩:=b2 n hn;exact⟨t,ob,bI _ h⟩
theorem Qq:∀{l:aA aG} {ws:aA (aG×eE)},(Qp l).val σ=aj ws->∃Fz:aA (aG×Obj),ws=jQ Fz/\(∀n x,(n,x)∈Fz->n∈l/\∃el ex xs,σ (cX n)= .o (.row el ex xs)/\x= .fI el xs)/\∀n∈l,∃x,(n,x)∈Fz:=by
 intro l;induction l with
 |nil=>intro ws h;obtain rfl:=aF h;exact⟨[],rfl,λn x h=>(by cases h),λn h=>(by cases h)⟩
 |cons m l ih=>
  intro ws h;obtain⟨ob,hg,h⟩:=Rd.bind_some h;have hg:=dt hg;cases ob with
  |row el ex xs=>
   obtain⟨w1,h1,h⟩:=Rd.bind_some h;obtain rfl:=aF h;obtain⟨Fz,rfl,a1,a2⟩:=ih h1;refine⟨(m, .fI el xs)::Fz,rfl,λn x hm=> ?_,λn hn=> ?_⟩
   ·rcases cz.1 hm with hm|hm
    ·cases hm;exact⟨dy ..,el,ex,xs,hg,rfl⟩
    ·obtain⟨h1,h2⟩:=a1 n x hm;exact⟨cW _ h1,h2⟩
   ·rcases cz.1 hn with rfl|hn
    ·exact⟨_,dy ..⟩
    ·obtain⟨x,h⟩:=a2 n hn;exact⟨x,cW _ h⟩
  |_=>simp at h
end
end Go.FG

namespace Go.FG
section
variable {P:cR} {E:fF} {σ:St} {a:Act} {w:bF} {c:eO} {o:e8} {nm:aG} {e:rT}
theorem ag6{T:Tab}{mW:aA aG}{pa:Pa}{v:bg}(h:zd T σ w c mW pa v):∃xs,Kr pa.arg xs/\xs=pa.cs.map (·.a)/\∀(j:aG) (k:Pk),pa.cs[j]? =aj k->∃u,uE T σ w c mW k u:=by
 have h1:Kr pa.arg (pa.cs.map (·.a)):=by
  cases hb:pa.box with
  |none=>obtain⟨g,h1,_⟩:=h.val hb;exact .inl ⟨g,h1⟩
  |some nx=>obtain⟨n,xs⟩:=nx;exact .inr (h.box n xs hb).1
 exact⟨_,h1,rfl,(RS h h1).2⟩
theorem UN{l:aA AA}{i:aG}{ys:aW}(h:l.getD i .nl= .kp ys):l[i]? =aj (.kp ys):=by
 rw[cL]at h;cases hx:l[i]? with
 |none=>rw[hx]at h;cases h
 |some x=>rw[hx]at h;rw[<-h];rfl
theorem DF{f:aG}{fn:Func}{vs Zk:di bg}{cl:Call}{fx:dr}(ho:o.op= .call cl)(hc:cl.callee= .value fx)(hf:P.funcs[f]? =aj fn)(hb:fn.body.isSome=ak)(hn:(fn.name== "runtime.NumGoroutine")=aq)(he:a.eval fx= .func (.func f) #[] Zk):
  (execOp a.eval o).run P w= .ok (.enter f (cl.args.map a.eval++Zk)) w:=by
 have N4:fn.body.isNone=false:=by cases h:fn.body<;>simp_all
 unfold execOp;rw[ho];simp only[resolve,hc,he,Deferred.ofValue,cg,cM,bB,invoke,callFunc,program,mI,hf,hn,N4,dp,if_false,Array.empty_append]
def nameOf(nm:aG)(ps:aA Pa)(P J:aG):aC aG:=
 if 500<=P then aj (if J=900 then nm+1+40*(P-500)+30 else nm+1+40*(P-500)+J)
 else if J<100\/J=900 then loc ps (dO P J)else aj (nm+400+40*P+(J-100))
theorem oh:∀{l r:aA aG},qL l r=ak->∀n∈l,n∉r
 |[],_,_,n,h=>by cases h
 |m::l,r,h,n,hn=>by
  simp only[qL,aK,dG]at h;rcases cz.1 hn with rfl|hn
  ·exact pR h.1
  ·exact oh h.2 n hn
theorem HC(hE:eg P E)(hF:∀g,cF P E g (E.call g))(b8:Ok E σ w c)(dD:e_ E σ a w c)(hd:∀d,o.dst=aj d->d<a.tmps.size){cl:Call}{fx:dr}(ho:o.op= .call cl)(hb:cl.callee= .value fx){f:aG}{iC:aA (aA CV)}(ef:ej E w c (.fn f iC) (a.eval fx)){Ob:aC (aA aG)}(h:(EH E nm o f cl.args.toList Ob iC).val σ=aj e)(hc:e.cond=ak):gD P E σ a w c o e.ws:=by
  obtain⟨Zk,he,E0,aeU⟩:=ef;unfold EH at h;obtain⟨ps,h2,h⟩:=Rd.bind_some h;obtain⟨h3,h⟩:=cE h;simp only[aK]at h3;obtain⟨hlen,Jt⟩:=PX b8 dD h2;split at h
  ·rename_i cnd r G8;obtain⟨h4,h⟩:=cE h;simp only[aK]at h4;obtain⟨w0,h5,h⟩:=Rd.bind_some h;obtain⟨w1,h6,h⟩:=Rd.bind_some h;obtain⟨⟨ss,w2⟩,h7,h⟩:=Rd.bind_some h;obtain⟨h8,h⟩:=cE h;obtain rfl:=aF h;have hc:cnd=true:=hc;subst hc;have atf:=cC h4.1.1;have am5:∀{q:aG} {pa:Pa},ps[q]? =aj pa->∀n∈pa.mW,n∈ps.flatMap (·.mW):=λhq n hn=>bG.2 ⟨_,aQ hq,hn⟩;have hh:Handed E σ w c ps iC (cl.args.map a.eval++Zk):=by
    refine⟨by simp[E0,hlen],λq pa hq=> ?_,λq cs hq=> ?_,ql h3.1,oh h3.2⟩
    ·obtain⟨x,hx,hp⟩:=Jt q pa hq;rw[cQ]at hx;have UZ:=(dQ.1 hx).1;exact⟨a.eval x,by rw[CL (by simpa using UZ),Mt,hx];rfl,hp.mono (am5 hq)⟩
    ·obtain⟨b,N4,hf⟩:=aeU q cs hq;refine⟨b, ?_,hf⟩
     rw[Array.getElem?_append_right (by simp[hlen]),<-N4];congr 1;simp[hlen]
   have abD:∀(q:aG) (pa:Pa),ps[q]? =aj pa->∃v,zd E σ w c (ps.flatMap (·.mW)) pa v:=λq pa hq=>by obtain⟨v,_,h⟩:=hh.at_ q pa hq;exact⟨v,h⟩
   obtain⟨QD,am6,_⟩:=enter b8 hh;have fX:(cl.args.map a.eval++Zk).size=(jo ps iC).length:=by simp[jo,E0,hlen]
   have abn:E.call f (jo ps iC)=aj (ak,r):=G8;obtain⟨⟨fn,g1,g2,g3⟩,Jp⟩:=hF f _ r abn w (qg σ c ps) _ QD fX am6;obtain⟨Fz,rfl,z1,z2⟩:=Qq h5;obtain⟨Lo,rfl,l1,l2⟩:=Nq (p:=0) abD h6;obtain⟨Lr,rfl,m1,m2⟩:=Gz (P:=500) h7;generalize afh:(E.tk nm||(ps.flatMap (·.mW)).isEmpty)=ok at l1 m1 m2;have Ya:Small (jo ps iC) r:=by
    refine⟨λp x xs hp hx=> ?_,λq x xs hq hx=> ?_,λp=> ?_⟩
    ·rcases uM hp with ⟨pa,hq,_⟩|⟨_,cs,_,rfl⟩
     ·have:=(aU.1 hq).1;omega
     ·rcases hx with ⟨g,hx⟩|hx<;>cases hx
    ·have:=bn.1 h4.1.2 x (aQ hq);have:=cC this;rcases hx with ⟨g,rfl⟩|rfl<;>(simp only[mL]at this;omega)
    ·rw[cL];cases hx:r.outs[p]? with
     |none=>simp
     |some l=>have:=bn.1 h4.2 l (aQ hx);exact cC this
   have Gy:∀{q:aG} {pa:Pa},ps[q]? =aj pa->(jo ps iC)[q]? =aj pa.arg:=λ{q} {pa} hq=>by have:=(aU.1 hq).1;unfold jo;rw[dj (by simpa using this),bE,hq];rfl
   have Hw:∀{q:aG} {pa:Pa} {n:aG},ps[q]? =aj pa->n∈pa.tc->n∈ps.flatMap (·.tc):=λhp hn=>bG.2 ⟨_,aQ hp,hn⟩;have aeD:∀{q i n e:aG} {ex:aY} {pa:Pa} {k:Pk},ps[q]? =aj pa->pa.cs[i]? =aj k->k.src= .own n e ex->n∈ps.flatMap (·.tc):=λhq hk hs=>Hw hq (bI _ (bG.2 ⟨_,aQ hk,by simp[Pk.tc,hs]⟩));have small:∀{q i:aG} {pa:Pa} {k:Pk},ps[q]? =aj pa->pa.cs[i]? =aj k->i<100:=λhq hk=>by obtain⟨v,hv⟩:=abD _ _ hq;have:=(aU.1 hk).1;have:=hv.len;omega
   unfold gD;intro K Q hK;unfold Mv;rw[DF (vs:=cl.args.map a.eval++Zk) ho hb g1 g2 g3 he,Tz];refine Calls.mono Jp (λen w'' hR=> ?_);cases en with
   |panicked=>exact hR.elim
   |outgrown=>exact hR.elim
   |returned v=>
    obtain⟨c3,EZ,wE,s7,wF⟩:=hR;have fW:∀m,inj (jo ps iC) (cX m)≠ .jH->c3.P m=(qg σ c ps).P m/\c3.G m=(qg σ c ps).G m:=s7;have hL:∀n t ob,(n,t,ob)∈Lo++Lr->Xl σ (nO (jo ps iC) r) c c3 ok (ps.flatMap (·.tc)) (Lo++Lr) n t ob/\∀x,t=aj x->∃PP J,x=dO PP J/\J<1000/\nameOf nm ps PP J=aj n:=by
     intro n t ob hm;rcases a_.1 hm with hm|hm
     ·obtain⟨q,pa,hq,ue⟩:=l1 n t ob hm;obtain⟨v0,N8⟩:=abD q pa hq;obtain⟨xs,hx1,N9,hx3⟩:=ag6 N8;have UZ:=(aU.1 hq).1;rw[bT]at ue;rcases ue with ⟨i,k,hk,hco⟩|⟨ys,Il,hbx,rfl,rfl,hcr⟩
      ·have hi:=small hq hk;rcases hco with ⟨e',ex,hs,rfl,rfl⟩|⟨e',ex,ys,hs,ha,rfl,rfl,hex⟩|⟨e',ex,ys,hbx,ha,rfl,rfl,rfl,hex,hf,jG⟩
       ·refine⟨⟨λ_=>aeD hq hk hs,λhn=> ?_,λ_=>rfl,λx hx=>(by cases hx)⟩,λx hx=>(by cases hx)⟩
        obtain⟨u,hu⟩:=hx3 i k hk;unfold uE at hu;rw[hs]at hu;obtain⟨zs,hg,_⟩:=hu;rw[hg]at hn;cases hn
       ·obtain⟨u,hu⟩:=hx3 i k hk;unfold uE at hu;rw[hs]at hu;obtain⟨zs,hg,hka,_⟩:=hu;refine⟨⟨λ_=>aeD hq hk hs,λhn=>(by rw[hg]at hn;cases hn),λhx=>(by cases hx),λx hx=> ?_⟩,λx hx=> ?_⟩
        ·cases hx;refine⟨λ_=> ?_, .inl ⟨e',ex,ys,rfl, ?_,hex⟩⟩
         ·obtain⟨q1,q2⟩:=fW (dO q i) ((qi (Gy hq)).2 xs i e' ex zs hx1 (by rw[N9,bE,hk];simp[hka]));obtain⟨q3,q4⟩:=sZ (σ:=σ) (c:=c) (E8 hq hk hs (by omega));exact⟨q1.trans q3,q2.trans q4⟩
         ·exact vG Ya (.kp q pa.arg xs i e' ex zs ys (Gy hq) hx1 (by rw[N9,bE,hk];simp[hka]) (UN ha))
        ·cases hx;refine⟨q,i,rfl,by omega, ?_⟩
         unfold nameOf;rw[bM (by omega),bC (.inl hi)];exact E8 hq hk hs (by omega)
       ·have hla:=EU.1 ha;refine⟨⟨λhn=>cq hf hn,λ_=>jG,λhx=>(by cases hx),λx hx=> ?_⟩,λx hx=> ?_⟩
        ·cases hx;exact⟨λhn=>cq hf hn, .inl ⟨e',ex,ys,rfl,vG Ya (.nw q pa.arg xs i e' ex ys (Gy hq) hx1 hla),hex⟩⟩
        ·cases hx;refine⟨q,100+i,rfl,by omega, ?_⟩
         unfold nameOf;rw[bM (by omega),bM (by omega)];congr 1;omega
      ·obtain⟨p1,p2,p3,_⟩:=N8.box n ys hbx;refine⟨⟨λ_=>Hw hq (by simp[Pa.tc,hbx]),λhn=>(by rw[p3]at hn;cases hn),λhx=>(by cases hx),λx hx=> ?_⟩,λx hx=> ?_⟩
       ·cases hx;refine⟨λ_=> ?_, .inr ⟨Il,_,rfl,vG Ya (.ob q _ (by rw[Gy hq,p1])),hcr.mono (λe he=>bO _ he)⟩⟩
        obtain⟨q1,q2⟩:=fW (dO q 900) ((qi (Gy hq)).1 _ p1);obtain⟨q3,q4⟩:=sZ (σ:=σ) (c:=c) (zR hq hbx);exact⟨q1.trans q3,q2.trans q4⟩
       ·cases hx;refine⟨q,900,rfl,by omega, ?_⟩
        unfold nameOf;rw[bM (by omega),bC (.inr rfl)];exact zR hq hbx
     ·obtain⟨q,x0,hq,hra⟩:=m1 n t ob hm;rcases hra with ⟨xs,j,e',ex,ys,hx,hj,rfl,rfl,rfl,hex,hf,jG⟩|⟨xs,rfl,rfl,rfl,rfl,hf,jG,hcr⟩
      ·have jF:=(aU.1 hj).1;have:=Ya.rl q x0 xs hq hx;refine⟨⟨λhn=>cq hf hn,λ_=>jG,λhx=>(by cases hx),λx oW=> ?_⟩,λx oW=> ?_⟩
       ·cases oW;exact⟨λhn=>cq hf hn, .inl ⟨e',ex,ys,rfl,vG Ya (.rr q x0 xs j e' ex ys hq hx hj),hex⟩⟩
       ·cases oW;refine⟨500+q,j,rfl,by omega, ?_⟩
        unfold nameOf;rw[bC (by omega),bM (by omega),show 500+q-500=q by omega]
      ·refine⟨⟨λhn=>cq hf hn,λ_=>jG,λhx=>(by cases hx),λx oW=> ?_⟩,λx oW=> ?_⟩
       ·cases oW;exact⟨λhn=>cq hf hn, .inr ⟨_,_,rfl,vG Ya (.rb q xs hq),hcr.mono (λe he=>bI _ he)⟩⟩
       ·cases oW;refine⟨500+q,900,rfl,by omega, ?_⟩
        unfold nameOf;rw[bC (by omega),bC rfl,show 500+q-500=q by omega]
    have He:((Lo++Lr).map (·.1)).Nodup:=by
     have:=ql h8;rw[<-iv]at this;unfold lQ jQ at this;rw[jW,jW]at this;have e1:(Lo++Lr).map (((λx:aG×eE=>x.1)∘λd:aG×Obj=>(cX d.1,eE.o d.2))∘λt:B9=>(t.1,t.2.2))=((Lo++Lr).map (·.1)).map cX:=by rw[jW];rfl
     rw[e1]at this;exact qS this
    have QE:ok=ak->∀n∈ps.flatMap (·.mW),∃x,(n,x)∈Fz:=by
     intro hk n hn;rw[<-afh]at hk;cases E2:E.tk nm with
     |true=>rw[E2]at z2;exact z2 n hn
     |false=>
      rw[E2]at hk;have:ps.flatMap (·.mW)=[]:=by simpa using hk
      rw[this]at hn;cases hn
    have hFz:∀n x,(n,x)∈Fz->ok=ak/\n∈ps.flatMap (·.mW)/\∃el ex xs,σ (cX n)= .o (.row el ex xs)/\x= .fI el xs:=by
     intro n x hn;obtain⟨y1,y2⟩:=z1 n x hn;cases E2:E.tk nm with
     |true=>rw[E2]at y1;exact⟨by rw[<-afh,E2];rfl,y1,y2⟩
     |false=>rw[E2]at y1;cases y1
    have hws:jQ Fz++(lQ Lo++lQ Lr)++dw o (rC ss)=jQ (Fz++(Lo++Lr).map λt=>(t.1,t.2.2))++dw o (rC ss):=by rw[<-iv];simp only[lQ,jQ,dm]
    obtain⟨c',k1,k2,k3,k4⟩:=leave b8 dD hd hh EZ wE wF (L:=Lo++Lr) (Fz:=Fz) (λn t ob hm=>(hL n t ob hm).1) He
     (λn n' x ob ob' h1 h2=>by obtain⟨P1,J1,e1,e2,e3⟩:=(hL n _ ob h1).2 x rfl;obtain⟨P2,J2,f1,f2,f3⟩:=(hL n' _ ob' h2).2 x rfl;obtain⟨rfl,rfl⟩:=tf e2 f2 (e1.symm.trans f1);rw[e3]at f3;exact aF f3)
     (λn hn=>by obtain⟨t,ob,h⟩:=l2 n hn;exact⟨t,ob,bO _ h⟩) hFz QE
     (show DM ok (Lo++Lr) ss (kR 500 r.rs)from⟨m2.1,λj x x3 hx hx3=>(m2.2 j x x3 hx hx3).mono (λe he=>bI _ he)⟩)
    show K (a.put o.dst v) w'';rw[<-hws]at k1 k2 k3;exact hK v w'' c' k1 k2 k3 k4.w
  ·simp at h
theorem Fl(b8:Ok E σ w c)(dD:e_ E σ a w c){o:e8}(hd:∀d,o.dst=aj d->d<a.tmps.size){nm:aG}{ob ob':Obj}{s:SV}{v:bg}{w':bF}
  (hn:σ (cX nm)= .o ob) (mn:pf E w' c nm ob') (pq:∀b,fu c nm ob' b->fu c nm ob b)
  (Hc:∀xs,ob'= .box xs->∀a∈xs,iU σ a)
  (wF:iW E w' c s v) (zq:mf σ s)
  (hW:∀b,b<w.heap.size->¬fu c nm ob b->w'.heap[b]? =w.heap[b]?) (fX:w.heap.size<=w'.heap.size) (M7:w'.os=w.os) (U1:w'.tape=w.tape) (UW:w'.output=w.output):
  Ok E (wr σ ([(cX nm, .o ob')]++dw o s)) w' c/\e_ E (wr σ ([(cX nm, .o ob')]++dw o s)) (a.put o.dst v) w' c/\nQ σ c w (wr σ ([(cX nm, .o ob')]++dw o s)) c w':=by
 let σ1:=o_ σ (cX nm) (.o ob');obtain⟨s1,s2,s3⟩:=qZ σ1 o s;have key:∀m,wr σ1 (dw o s) (cX m)=if m=nm then .o ob' else σ (cX m):=λm=>by rw[s3];exact pB _ _ _ _
 have ic:∀m,σ (cX m)≠ .jH->wr σ1 (dw o s) (cX m)≠ .jH:=λm hm=>by rw[key];split<;>simp_all
 have gQ:∀b,fu c nm ob b->jJ (λm=>m=nm) σ c b:=λb hb=>⟨nm,ob,rfl,hn,hb⟩
 have hh:=b8.change (σ':=wr σ1 (dw o s)) (w':=w') (c':=c) (λm=>m=nm) (λm hm=>by rw[key,bM hm]) ic (jj.refl _ _)
  (λb hb UU=>hW b hb (λhf=>UU (gQ b hf))) fX (λ_ h=>h) (λ_ h=> .inl h) (λb hb=>jd (b8.lt b hb) fX)
  (λm x hm ho=>by subst hm;rw[key,bC rfl]at ho;cases ho;exact mn)
  (λm x b hm ho hf=>by subst hm;rw[key,bC rfl]at ho;cases ho;exact⟨.inl (gQ b (pq b hf)),b8.kk _ _ b hn (pq b hf)⟩)
  (λm x m' x' b hm vN _ _ _ _=>by rw[hm,vN])
  (λm xs hm ho y hy n j_=>by subst hm;rw[key,bC rfl]at ho;cases ho;exact ic n (Hc xs rfl y hy n j_)) M7 U1 UW
 refine⟨hh.1, ?_,hh.2⟩
 refine dD.change b8 hh.2 (jj.refl _ _) ic o v (λn j_=>by rw[s1 n j_];exact i9 _ _ _ _) (λd ho=>⟨hd d ho, ?_, ?_⟩)
 ·rw[s2 d ho];exact wF
 ·rw[s2 d ho];intro n j_;rw[key];split
  ·simp
  ·exact zq n j_
theorem JK(hE:eg P E)(hF:∀g,cF P E g (E.call g))(b8:Ok E σ w c)(dD:e_ E σ a w c)(hd:∀d,o.dst=aj d->d<a.tmps.size){cl:Call}{fx x y:dr}(ho:o.op= .call cl)(hb:cl.callee= .value fx)(rq:cl.args.toList=[x,y])
  {f n i j:aG} (ef:ej E w c (.fn f []) (a.eval fx)) (hx:ej E w c (.inn n i j) (a.eval x)) (h:(A7 E o f n i j y).val σ=aj e) (hc:e.cond=ak):gD P E σ a w c o e.ws:=by
 unfold A7 at h;obtain⟨⟨k,m⟩,h1,h⟩:=Rd.bind_some h;have ey:=py dD h1;obtain⟨ob,h2,h⟩:=Rd.bind_some h;have hg:=dt h2;split at h
 ·rename_i el xs;obtain⟨te,h3,h⟩:=Rd.bind_some h;have h6:=dS h3;split at h
  ·rename_i e2 zp;split at h
   ·rename_i cnd r G8;split at h
    ·rename_i k2 m2 B7 hrs Hh;obtain rfl:=aF h;have hc:cnd=true:=hc;subst hc;obtain⟨⟨hi,hxv⟩,_⟩:=hx;obtain⟨zs,yy,t2,r1,r2,r3,r4,r5,r6,r7,r8⟩:=zP b8 hg h6 zp hi;rw[fc r1 r2]at G8;simp only[jx]at G8;obtain⟨⟨t1,q1,fX,ma⟩,fW,gQ⟩:=b8.obj n _ hg;obtain rfl:te=t1:=aF (h6.symm.trans q1);have lD:i<xs.length:=(aU.1 r1).1;obtain⟨jg,pv,hpb⟩:=fW.pos hi;have Cw:fZ xs i j:=⟨yy,_,r1,r2,rfl⟩
     generalize hq:c.G n i j=p at r5 r7 r8 hxv;let c1:eO:=⟨λ_=>p,λ_ _ _=>⟨ak,0,0,0,0,0⟩,c.K⟩
     let args:aA eV:=[.v aq [.ow e2 ak zs], .v aq [.i k m]]
     have hO:∀q o',inj args (cX q)= .o o'->q=dO 0 0/\o'= .row e2 ak zs:=by
      intro q o' hq';have hm:=nh hq' (by simp);simp only[args,Jy,sr,uf,sq,Dq,cz,dn,gk,Al,jC,or_false,iT]at hm;rcases hm with ⟨hm,_⟩|⟨hm,h⟩|⟨hm,_⟩
      ·exact cq hm (lL _ _)
      ·exact⟨jE hm,eE.o.inj h⟩
      ·exact cq hm (lL _ _)
     have hX:inj args (cX (dO 0 0))= .o (.row e2 ak zs):=rfl;have Bi:∀i j,¬fZ zs i j:=by rintro i j ⟨y,x,h1,h2,h3⟩;rw[gX r4 (r6 y (aQ h1)) h2]at h3;cases h3
     have G9:∀b,fu c1 (dO 0 0) (.row e2 ak zs) b->p.nil=aq/\b=p.blk:=by
      rintro b (⟨h1,h2⟩|⟨_,i,j,h,_⟩)
      ·exact⟨h1,h2⟩
      ·exact cq h (Bi i j)
     have hpf:p.nil=aq->fu c n (.row el ak xs) p.blk:=λhn=> .inr ⟨rfl,i,j,Cw,by rw[hq];exact hn,by rw[hq]⟩;have QD:Ok E (inj args) w c1:=by
      refine⟨?_, ?_, ?_, ?_, ?_⟩
      ·intro q o' h;obtain⟨rfl,rfl⟩:=hO q o' h;exact⟨⟨t2,r3,r5,r6⟩,r7.frame (λ_=>rfl) (λi j y x u h1 h2 hr=>by rw[bC rfl];exact tu (gX r4 (r6 y (aQ h1)) h2) hr),λ_=>⟨λi j h=>cq h (Bi i j),λi j i' j' h=>cq h (Bi i j)⟩⟩
      ·intro q o' q' o'' b h h' _ _;rw[(hO q o' h).1,(hO q' o'' h').1]
      ·intro q o' b h hf hk;obtain⟨rfl,rfl⟩:=hO q o' h;obtain⟨hn,rfl⟩:=G9 b hf;exact b8.kk _ _ _ hg (hpf hn) hk
      ·exact b8.lt
      ·intro q bs h;obtain⟨_,h⟩:=hO q _ h;cases h
     have QK:(cl.args.map a.eval).size=args.length:=by
      have:cl.args.size=2:=by rw[<-dN,rq];rfl
      simp[args,this]
     have TM:cl.args.map a.eval= #[a.eval x,a.eval y]:=by apply rE;rw[yZ,rq];rfl
     obtain⟨Zk,he,E0,_⟩:=ef;have amY:Zk= #[]:=yY (by simpa using E0);subst amY;obtain⟨⟨fn,g1,g2,g3⟩,Jp⟩:=hF f args r G8 w c1 #[a.eval x,a.eval y] QD rfl (by
      intro q arg hqa;match q with
      |0=>cases hqa;exact⟨_,rfl,hxv⟩
      |1=>cases hqa;exact⟨_,rfl,ey⟩
      |q+2=>cases hqa)
     unfold gD;intro K Q hK;unfold Mv;rw[DF (vs:= #[a.eval x,a.eval y]) ho hb g1 g2 g3 he,TM,Array.append_empty,Tz];refine Calls.mono Jp (λen w' hR=> ?_);cases en with
     |panicked=>exact hR.elim
     |outgrown=>exact hR.elim
     |returned v=>
      obtain⟨c3,EZ,wE,s7,wF⟩:=hR;obtain⟨rs,outs⟩:=r;simp only at hrs Hh;subst hrs;subst Hh;have hv:v= .int k2 m2:=wF;have hp3:c3.P (dO 0 0)=p:=(s7 (dO 0 0) (by rw[hX];simp)).1;have hX3:nO args ⟨[.v aq [.i k2 m2]],[[.kp B7]]⟩ (cX (dO 0 0))= .o (.row e2 ak B7):=rfl;obtain⟨⟨t3,u1,u2,u3⟩,u4,_⟩:=EZ.obj _ _ hX3;obtain rfl:t2=t3:=aF (r3.symm.trans u1);rw[hp3]at u2 u4;have amm:iV w' p B7 (λ_ _ u x=>Sc u x):=u4.frame (λ_=>rfl) (λi j y x u h1 h2 hr=>by rw[bC rfl]at hr;exact tw hr (gX r4 (u3 y (aQ h1)) h2));have qP:∀b,b<w.heap.size->¬(p.nil=aq/\b=p.blk)->w'.heap[b]? =w.heap[b]? :=λb hb Js=>wE.same b hb (by rintro ⟨q,o',h1,h2⟩;obtain⟨rfl,rfl⟩:=hO q o' h1;exact Js (G9 b h2));have hjk:j<te.ks.length:=(aU.1 zp).1;have abu:[CV.l e2 B7].map CV.kd=(te.ks.drop j).take [CV.l e2 B7].length:=by rw[bw,List.take_one,List.head?_drop,zp];rfl
      have rM:=wh (i:=i) (j:=j) (cs:=[CV.l e2 B7]) ma abu (by simp;omega) lD;have Ha:=kI ma;have A1:=kI rM;have same:∀i' j',fZ (eA xs i j [CV.l e2 B7]) i' j'->fZ xs i' j':=λi' j' hx=>(Ha i' j').2 (by have:=(A1 i' j').1 hx;rwa[jz]at this);have jG:∀b,fu c n (.row el ak xs) b->b<w.heap.size:=λb hb=>vj.lt b8 ⟨n,_,hg,hb⟩;have abC:p.nil=aq->(c.P n).blk≠p.blk:=λhn e=>(gQ rfl).out i j Cw (by rw[hq];exact hn) jg (by rw[hq];exact e.symm);have n8:iV w' (c.P n) (eA xs i j [CV.l e2 B7]) (λi1 j1 u1 x1=>if ak=ak then XC E w' (c.G n) i1 j1 u1 x1 else cZ E w' c.K u1 x1):=by
       obtain⟨vs,k1,k2,k3,k4,k5⟩:=fW.mem jg;refine⟨by rw[jz];exact fW.n,λhn=>(by rw[jg]at hn;cases hn),λ_=>⟨vs,k1.frame (qP _ (jG _ (.inl ⟨jg,rfl⟩)) (λh=>abC h.1 h.2)),k2,k3,k4,λi1 y1 j1 x1 g1 g2=> ?_⟩⟩
       rw[we r1]at g1;simp only[if_true]at k5⊢;by_cases G_:i1=i
       ·subst G_;rw[bC rfl]at g1;cases g1;have Hj:yy.length=te.ks.length:=by rw[<-ma yy (aQ r1)];simp
        rw[oQ (by simp;omega)]at g2;by_cases hqq:j<=j1/\j1<j+[CV.l e2 B7].length
        ·rw[bC hqq]at g2;have:j1=j:=by simp at hqq;omega
         subst this;simp at g2;subst g2;obtain⟨u,hu,hr⟩:=k5 _ _ _ _ r1 r2;refine⟨u,hu,hr.1,t2,r3,r4,by rw[hq];exact r5,u3,by rw[hq];exact amm⟩
        ·rw[bM hqq]at g2;obtain⟨u,hu,hr⟩:=k5 _ _ _ _ r1 g2;refine⟨u,hu,hr.frame (λhl hn=>qP _ (jG _ (.inr ⟨rfl,_,_,⟨yy,x1,r1,g2,hl⟩,hn,rfl⟩)) (λe=> ?_))⟩
         have:=((gQ rfl).one _ _ _ _ ⟨yy,x1,r1,g2,hl⟩ Cw hn (by rw[hq];exact e.1) (by rw[hq];exact e.2)).2;simp at hqq;omega
       ·rw[bM G_]at g1;obtain⟨u,hu,hr⟩:=k5 _ _ _ _ g1 g2;exact⟨u,hu,hr.frame (λhl hn=>qP _ (jG _ (.inr ⟨rfl,_,_,⟨y1,x1,g1,g2,hl⟩,hn,rfl⟩)) (λe=>G_ ((gQ rfl).one _ _ _ _ ⟨y1,x1,g1,g2,hl⟩ Cw hn (by rw[hq];exact e.1) (by rw[hq];exact e.2)).1))⟩
      obtain⟨z1,z2,z3⟩:=Fl b8 dD hd hg (ob':= .row el ak (eA xs i j [CV.l e2 B7])) (w':=w') (s:= .v aq [.i k2 m2]) (v:=v)
       ⟨⟨te,q1,fX,rM⟩,n8,λhx=>⟨λi1 j1 hh=>(gQ hx).out i1 j1 (same i1 j1 hh),λi1 j1 i2 j2 h1 h2=>(gQ hx).one i1 j1 i2 j2 (same i1 j1 h1) (same i2 j2 h2)⟩⟩
       (by
        rintro b (hb|⟨hx,i1,j1,hh,hn⟩)
        ·exact .inl hb
        ·exact .inr ⟨hx,i1,j1,same i1 j1 hh,hn⟩)
       (λzs hz=>by cases hz) hv (λn hn=>by simp[cD,bJ]at hn)
       (λb hb N6=>qP b hb (λe=>N6 (by rw[e.2];exact hpf e.1))) wE.size wE.os wE.tape wE.output
      exact hK v w' c z1 z2 z3 (jj.refl _ _).w
    ·simp at h
   ·simp at h
  ·simp at h
 ·simp at h
theorem FJ{α:Type}{x y:Rd α}{σ:St}{e:α}(h:(x.or y).val σ=aj e):x.val σ=aj e\/y.val σ=aj e:=by
 induction x with
 |ret a=>exact .inl h
 |fail=>exact .inr h
 |get k f ih=>
  have h':((f (σ k)).or y).val σ=aj e:=by rw[<-h];unfold Rd.val;simp only[Rd.or,Rd.run];rw[kO,kO]
  rcases ih (σ k) h' with h|h
  ·refine .inl ?_;rw[<-h];unfold Rd.val;simp only[Rd.run];rw[kO,kO]
  ·exact .inr h
theorem Bj(hE:eg P E)(hF:∀g,cF P E g (E.call g))(b8:Ok E σ w c)(dD:e_ E σ a w c)(hd:∀d,o.dst=aj d->d<a.tmps.size){cl:Call}{fx:dr}(ho:o.op= .call cl)(hb:cl.callee= .value fx){f:aG}{iC:aA (aA CV)}(ef:ej E w c (.fn f iC) (a.eval fx)){Ob:aA aG}(h:(KZ E nm o f cl.args.toList Ob iC).val σ=aj e)(hc:e.cond=ak):gD P E σ a w c o e.ws:=by
 rcases FJ h with h|h
 ·exact HC hE hF b8 dD hd ho hb ef h hc
 ·exact HC hE hF b8 dD hd ho hb ef h hc
theorem Wu(hE:eg P E)(hF:∀g,cF P E g (E.call g))(b8:Ok E σ w c)(dD:e_ E σ a w c)(hd:∀d,o.dst=aj d->d<a.tmps.size){cl:Call}{fx:dr}(ho:o.op= .call cl)(hb:cl.callee= .value fx)(h:(lF E nm o).val σ=aj e)(hc:e.cond=ak):gD P E σ a w c o e.ws:=by
 simp only[lF,ho,hb]at h;obtain⟨fv,h1,h⟩:=Rd.bind_some h;have ef:=(iJ dD h1).1;cases fv with
 |fn f iC=>
  simp only at h;split at h
  ·rename_i x y rq;obtain⟨sx,h2,h⟩:=Rd.bind_some h;split at h
   ·rename_i n i j;cases hm:E.mode f 0 with
    |true=>rw[hm,ay]at h;exact JK hE hF b8 dD hd ho hb rq ef (lM dD h2).1 h hc
    |false=>rw[hm,aD]at h;exact Bj hE hF b8 dD hd ho hb ef h hc
   ·exact Bj hE hF b8 dD hd ho hb ef h hc
  ·exact Bj hE hF b8 dD hd ho hb ef h hc
 |_=>simp at h
end
end Go.FG

namespace Go.FG
section
variable {P:cR} {E:fF} {σ:St} {a:Act} {w:bF} {c:eO} {o:e8} {nm:aG} {e:rT}
theorem ag5(hE:eg P E)(hF:∀g,cF P E g (E.call g))(b8:Ok E σ w c)(dD:e_ E σ a w c)(hd:∀d,o.dst=aj d->d<a.tmps.size)(h:(lF E nm o).val σ=aj e)(hc:e.cond=ak):gD P E σ a w c o e.ws:=by
 cases ho:o.op with
 |move x=>exact LP b8 dD hd (.inl ho) h
 |assign x=>exact LP b8 dD hd (.inr ho) h
 |nilCheck x=>exact HE b8 dD hd ho h
 |pick x y z=>exact Ww b8 dD hd ho h hc
 |alloc t=>exact RB hE b8 dD hd ho h
 |box t x=>exact acr b8 dD hd ho h
 |build t ps=>exact RD hE b8 dD hd ho h
 |buildSlice t n ps=>exact CD hE b8 dD hd ho h hc
 |load t p=>exact Wv hE b8 dD hd ho h
 |store t p x=>exact RI hE b8 dD hd ho h
 |fieldAddr t p f=>exact Fc hE b8 dD hd ho h
 |field t x f=>exact RF hE b8 dD hd ho h
 |indexAddr t x i=>exact Ff hE b8 dD hd ho h hc
 |index t x i=>exact RG hE b8 dD hd ho h hc
 |binOp op t x y ty=>exact RC hE b8 dD hd ho h hc
 |unOp op t x=>exact Wx b8 dD hd ho h
 |convert s d x=>exact JL hE b8 dD hd ho h hc
 |makeSlice t l m=>exact Fg hE b8 dD hd ho h hc
 |slice t x lo hi mx=>exact RH hE b8 dD hd ho h hc
 |extract x i=>exact JM b8 dD hd ho h
 |makeFunc f first iC=>exact HD b8 dD hd ho h
 |call cl=>
  cases hb:cl.callee with
  |value f=>exact Wu hE hF b8 dD hd ho hb h hc
  |builtin b=>
   cases b with
   |len=>exact acu hE b8 dD hd ho hb h
   |cap=>exact acs hE b8 dD hd ho hb h
   |min=>exact Dz aq b8 dD hd ho hb h
   |max=>exact Dz ak b8 dD hd ho hb h
   |clear=>exact RE hE b8 dD hd ho hb h
   |append=>exact Nm hE b8 dD hd ho hb h hc
   |_=>simp[lF,ho,hb]at h
  |_=>simp[lF,ho,hb]at h
 |_=>simp[lF,ho]at h
end
end Go.FG

namespace Go.FG
theorem BN{σ:St}{k:aG}{c:eE}(h:σ k=c):o_ σ k c=σ:=by
 funext n;by_cases hn:n=k
 ·subst hn;rw[sN,h]
 ·rw[yw σ c hn]
def Tw(c c':eO):Prop:=∀m,900000000<=m->c'.P m=c.P m/\c'.G m=c.G m
theorem Tw.refl(c:eO):Tw c c:=λ_ _=>⟨rfl,rfl⟩
theorem Tw.trans{c c1 c2:eO}(h:Tw c c1)(k:Tw c1 c2):Tw c c2:=λm hm=>⟨(k m hm).1.trans (h m hm).1,(k m hm).2.trans (h m hm).2⟩
theorem Ve{m:aG}(h:900000000<=m):xT m=false:=by
 unfold xT;cases hb:pX m 900000000 with
 |true=>have:m<900000000:=by simpa [zc]using hb
        omega
 |false=>simp
theorem qx.aga{σ:St}{c c':eO}(h:qx σ c c'):Tw c c':=λm hm=>⟨(h m (.inr hm)).1,(h m (.inr hm)).2 (Ve hm)⟩
def lN(all:di e8)(o:e8)(σ:St):aC aY:=
 match o.guard with
 |none=>aj ak
 |some (g,want)=>match (all.getD g default).dst with
  |none=>ao
  |some d=>match σ (pS d)with| .v (.v aq [.b x])=>aj (x==want)| .v (.je [])=>aj aq|_=>ao
def po(all:di e8)(o:e8):aA aG:=
 match o.guard with
 |none=>[]
 |some (g,_)=>match (all.getD g default).dst with|none=>[]|some d=>[pS d]
def ua(E:fF)(all:di e8)(nm:aG)(o:e8)(σ:St)(ws:aA (aG×eE))(lg:Lg):Prop:=
 (lN all o σ=aj ak/\∃e l,(lF E nm o).run σ []=aj (e,l)/\e.cond=ak/\ws=e.ws/\lg=⟨po all o++l,e.ws.map (·.1)⟩)\/
 (lN all o σ=aj aq/\ws=dw o (.je [])/\lg=⟨po all o,(dw o (.je [])).map (·.1)⟩)
def JH(nG i:aG):aG:=(nG+1)*1000000+i*1000
abbrev Tr:=aA (aA (aG×eE)×Lg)
def vf(E:fF)(all:di e8)(nG:aG):aG->aA e8->St->Tr->St->Prop
 |_,[],σ,tr,σ'=>tr=[]/\σ'=σ
 |i,o::os,σ,tr,σ'=>∃ws lg tr',tr=(ws,lg)::tr'/\ua E all (JH nG i) o σ ws lg/\vf E all nG (i+1) os (wr σ ws) tr' σ'
theorem Nn{R:Type}(E:fF)(all:di e8)(nG:aG):∀(os:aA e8) (i:aG) (σ:St) (lg:aA Lg) (K:St->aA Lg->aC R) (r:R),ops E all nG i os σ lg K=aj r->
  ∃tr σ',vf E all nG i os σ tr σ'/\K σ' ((tr.map (·.2)).reverse++lg)=aj r:=by
 intro os;induction os with
 |nil=>intro i σ lg K r h;exact⟨[],σ,⟨rfl,rfl⟩,by simpa [ops]using h⟩
 |cons o os ih=>
  intro i σ lg K r h;have next:∀ws l,ua E all (JH nG i) o σ ws l->ops E all nG (i+1) os (wr σ ws) (l::lg) K=aj r->∃tr σ',vf E all nG i (o::os) σ tr σ'/\K σ' ((tr.map (·.2)).reverse++lg)=aj r:=by intro ws l hs h;obtain⟨tr,σ',h1,h2⟩:=ih _ _ _ _ _ h;exact⟨(ws,l)::tr,σ',⟨ws,l,tr,rfl,hs,h1⟩,by simpa using h2⟩
  have ag7:∀rs,rs=po all o->lN all o σ=aj ak->(match (lF E (JH nG i) o).run σ []with
    |some (e,l)=>bif e.cond then ops E all nG (i+1) os (wr σ e.ws) (⟨rs++l,e.ws.map (·.1)⟩::lg) K else ao
    |none=>ao)=aj r->∃tr σ',vf E all nG i (o::os) σ tr σ'/\K σ' ((tr.map (·.2)).reverse++lg)=aj r:=by
   intro rs hrs hw h
   cases hr:(lF E (JH nG i) o).run σ []with
   |none=>rw[hr]at h;cases h
   |some el=>
    obtain⟨e,l⟩:=el;rw[hr]at h;cases hc:e.cond with
    |false=>simp[hc]at h
    |true=>simp only[hc,ay]at h;exact next e.ws _ (.inl ⟨hw,e,l,hr,hc,rfl,by rw[hrs]⟩) h
  unfold ops at h;simp(config:={zeta:=false}) only[Dk]at h;cases hg:o.guard with
  |none=>rw[hg]at h;exact ag7 [] (by simp[po,hg]) (by simp[lN,hg]) h
  |some gw=>
   obtain⟨g,want⟩:=gw;rw[hg]at h;dsimp only at h;cases hd:(all.getD g default).dst with
   |none=>rw[hd]at h;cases h
   |some d=>
    rw[hd]at h;dsimp only at h;have wE:po all o=[pS d]:=by unfold po;rw[hg];dsimp only;rw[hd]
    cases hs:σ (pS d)with
    |v sv=>
     rw[hs]at h;cases sv with
     |v agg xs=>
      cases agg with
      |true=>cases h
      |false=>
       match xs with
       |[]=>cases h
       |_::_::_=>simp at h
       |[av]=>
        cases av with
        |b x=>
         have hwa:lN all o σ=aj (x==want):=by unfold lN;rw[hg];dsimp only;rw[hd];dsimp only;rw[hs]
         have hup:o_ σ (pS d) (.v (.v aq [.b x]))=σ:=BN hs;have skip:lN all o σ=aj aq->ops E all nG (i+1) os (wr (o_ σ (pS d) (.v (.v aq [.b x]))) (dw o (.je []))) (⟨[pS d],(dw o (.je [])).map (·.1)⟩::lg) K=aj r->∃tr σ',vf E all nG i (o::os) σ tr σ'/\K σ' ((tr.map (·.2)).reverse++lg)=aj r:=by intro hw h;rw[hup]at h;exact next (dw o (.je [])) _ (.inr ⟨hw,rfl,by rw[wE]⟩) h
         have Zi:lN all o σ=aj ak->(match (lF E (JH nG i) o).run (o_ σ (pS d) (.v (.v aq [.b x]))) []with
           |some (e,l)=>bif e.cond then ops E all nG (i+1) os (wr (o_ σ (pS d) (.v (.v aq [.b x]))) e.ws) (⟨pS d::l,e.ws.map (·.1)⟩::lg) K else ao
           |none=>ao)=aj r->∃tr σ',vf E all nG i (o::os) σ tr σ'/\K σ' ((tr.map (·.2)).reverse++lg)=aj r:=by
          intro hw h
          rw[hup]at h
          exact ag7 [pS d] wE.symm hw h
         cases x with
         |true=>
          cases want with
          |true=>exact Zi (by rw[hwa];rfl) h
          |false=>exact skip (by rw[hwa];rfl) h
         |false=>
          cases want with
          |true=>exact skip (by rw[hwa];rfl) h
          |false=>exact Zi (by rw[hwa];rfl) h
        |_=>simp at h
     |je l=>cases l with
      |nil=>
       have hwa:lN all o σ=aj false:=by unfold lN;rw[hg];dsimp only;rw[hd];dsimp only;rw[hs]
       exact next (dw o (.je [])) _ (.inr ⟨hwa,rfl,by rw[wE]⟩) h
      |cons=>simp at h
     |un=>simp at h
    |o x=>rw[hs]at h;cases h
    |jH=>rw[hs]at h;cases h
section
variable {P:cR} {E:fF} {σ:St} {a:Act} {w:bF} {c:eO} {o:e8} {nm:aG} {e:rT}
theorem DK(dD:e_ E σ a w c){all:di e8}{x:aY}(h:lN all o σ=aj x):tZ o (yielded all a.tmps)=x:=by
 unfold lN at h;unfold tZ;cases hg:o.guard with
 |none=>rw[hg]at h;simp at h;simp[<-h]
 |some gw=>
  obtain⟨g,want⟩:=gw;rw[hg]at h;simp only at h⊢;cases hd:(all.getD g default).dst with
  |none=>rw[hd]at h;cases h
  |some d=>
   rw[hd]at h;have hgo:(all[g]?).bind (·.dst)=aj d:=by
    rw[er]at hd;cases hq:all[g]? with
    |none=>rw[hq]at hd;cases hd
    |some og=>rw[hq]at hd;exact hd
   simp only at h;split at h
   ·rename_i y hy;have h1:=dD.ok d;have:slot σ d= .v aq [.b y]:=by unfold slot;rw[hy]
    rw[this]at h1;have h1:a.eval (.tmp d)= .bool y:=h1;have ht:a.tmps[d]? =aj (.bool y):=by
     have h2:a.tmps.getD d undef= .bool y:=h1;rw[er]at h2;cases hq:a.tmps[d]? with
     |none=>rw[hq]at h2;cases h2
     |some v=>rw[hq]at h2;rw[show v=_ from h2]
    have Hj:yielded all a.tmps g=aj y:=by unfold yielded;rw[hgo];simp[ht]
    rw[Hj];simp at h;rw[<-h];cases y<;>cases want<;>rfl
   ·rename_i hy;have h1:=dD.ok d;have:slot σ d= .je []:=by unfold slot;rw[hy]
    rw[this]at h1;obtain⟨vs,h1,h3,_⟩:=h1;have h4:vs= #[]:=by simpa using h3
    subst h4;have ht:a.tmps.getD d undef= .tuple #[]:=h1;have Hj:yielded all a.tmps g=none:=by
     unfold yielded;rw[hgo];rw[er]at ht;cases hq:a.tmps[d]? with
     |none=>simp[hq]
     |some v=>rw[hq]at ht;simp at ht;simp[hq,ht]
    rw[Hj];have h5:aq=x:=by simpa using h
    rw[<-h5];cases want<;>rfl
   ·cases h
theorem Act.Sk(a:Act)(d:aC Tmp)(v:bg):(a.put d v).tmps.size=a.tmps.size:=by cases d<;>simp[Tx]
theorem zX(hE:eg P E)(hF:∀g,cF P E g (E.call g))(b8:Ok E σ w c)(dD:e_ E σ a w c)(hd:∀d,o.dst=aj d->d<a.tmps.size){all:di e8}{i:aG}(hi:all[i]? =aj o){ws:aA (aG×eE)}{lg:Lg}(h:ua E all nm o σ ws lg)
  {K:Act->bF->Prop} {Q:Exit->Act->bF->Prop} (hK:∀v w' c',Ok E (wr σ ws) w' c'->e_ E (wr σ ws) (a.put o.dst v) w' c'->nQ σ c w (wr σ ws) c' w'->qx σ c c'->K (a.put o.dst v) w'):wpOp P all Q i K a w:=by
 unfold wpOp;rw[hi];simp only;rcases h with ⟨hw,e,l,hr,hc,rfl,_⟩|⟨hw,rfl,_⟩
 ·rw[bC (DK dD hw)];exact .inl (ag5 hE hF b8 dD hd (Rd.Kf hr) hc K Q hK)
 ·rw[bM (by rw[DK dD hw];simp)];obtain⟨s1,s2,s3⟩:=qZ σ o (.je []);obtain⟨h1,h2⟩:=b8.slot s3;refine hK undef w c h1 ?_ h2 (jj.refl _ _).w;refine dD.change b8 h2 (jj.refl _ _) (λnm hn=>by rw[s3];exact hn) o undef s1 (λd ho=>⟨hd d ho, ?_, ?_⟩)
  ·rw[s2 d ho];exact⟨#[],rfl,rfl,λj agg xs hj=>by simp at hj⟩
  ·rw[s2 d ho];intro n hn;simp[cD]at hn
structure At (P:cR) (E:fF) (N:aG) (σ0:St) (c0:eO) (w0:bF) (σ:St) (a:Act) (w:bF) (c:eO):Prop where
 ok:Ok E σ w c
 sl:e_ E σ a w c
 sz:a.tmps.size=N
 gr:nQ σ0 c0 w0 σ c w
 ag:Tw c0 c
theorem At.step{N:aG}{σ0:St}{c0:eO}{w0:bF}(h:At P E N σ0 c0 w0 σ a w c){d:aC Tmp}{v:bg}{w':bF}{c':eO}{σ':St}(h1:Ok E σ' w' c')(h2:e_ E σ' (a.put d v) w' c')(h3:nQ σ c w σ' c' w')(h4:qx σ c c'):At P E N σ0 c0 w0 σ' (a.put d v) w' c':=
 ⟨h1,h2,by rw[Act.Sk];exact h.sz,h.gr.trans h3,h.ag.trans h4.aga⟩
theorem IY(hE:eg P E)(hF:∀g,cF P E g (E.call g)){N:aG}{σ0:St}{c0:eO}{w0:bF}{all:di e8}{nG:aG}{Q:Exit->Act->bF->Prop}:∀(os:aA e8) (i:aG) (σ:St) (tr:Tr) (σ':St),vf E all nG i os σ tr σ'->(∀j o,os[j]? =aj o->all[i+j]? =aj o)->(∀o∈os,∀d,o.dst=aj d->d<N)->
  (∀a w c,At P E N σ0 c0 w0 σ' a w c->Q .normal a w)->∀a w c,At P E N σ0 c0 w0 σ a w c->wpOps P all Q (lI i os.length) a w:=by
 intro os;induction os with
 |nil=>intro i σ tr σ' h _ _ hQ a w c fW;obtain⟨_,rfl⟩:=h;exact hQ a w c fW
 |cons o os ih=>intro i σ tr σ' h n7 A0 hQ a w c fW;obtain⟨ws,lg,tr',rfl,hs,TN⟩:=h;have hi:all[i]? =aj o:=n7 0 o rfl;rw[c7,List.range'_succ,wpOps_cons];refine zX hE hF fW.ok fW.sl (λd hd=>by rw[fW.sz];exact A0 o (dy ..) d hd) hi hs (λv w' c' h1 h2 h3 h4=> ?_);exact ih (i+1) _ _ _ TN (λj o' hj=>by have:=n7 (j+1) o' hj;rwa[show i+(j+1)=i+1+j by omega]at this) (λo' ue=>A0 o' (cW _ ue)) hQ _ _ _ (fW.step h1 h2 h3 h4)
end
end Go.FG

namespace Go.FG
theorem Rd.WM{α:Type}(m:Rd α):∀{σ:St} {l l':aA aG} {a:α},m.run σ l=aj (a,l')->∀k∈l,k∈l':=by
 induction m with
 |ret a=>intro σ l l' b h k hk;cases h;exact hk
 |fail=>intro σ l l' b h;cases h
 |get k f ih=>intro σ l l' b h k' ud;exact ih _ h k' (cW _ ud)
theorem Rd.NH{α:Type}(m:Rd α):∀{σ σ':St} {l l':aA aG} {a:α},m.run σ l=aj (a,l')->(∀k∈l',σ' k=σ k)->m.run σ' l=aj (a,l'):=by
 induction m with
 |ret a=>intro σ σ' l l' b h _;exact h
 |fail=>intro σ σ' l l' b h;cases h
 |get k f ih=>intro σ σ' l l' b h hk;have h:(f (σ k)).run σ (k::l)=aj (b,l'):=h;have ud:σ' k=σ k:=hk k (Rd.WM _ h k (dy ..));show(f (σ' k)).run σ' (k::l)=aj (b,l');rw[ud];exact ih _ h hk
theorem wu{all:di e8}{o:e8}{σ σ':St}(h:∀k∈po all o,σ' k=σ k):lN all o σ'=lN all o σ:=by
 unfold lN po at*
 cases hg:o.guard with
 |none=>rfl
 |some gw=>
  obtain⟨g,want⟩:=gw;rw[hg]at h;dsimp only at h⊢;cases hd:(all.getD g default).dst with
  |none=>rfl
  |some d=>rw[hd]at h;dsimp only at h⊢;rw[h (pS d) (aZ.2 rfl)]
theorem ua.congr{E:fF}{all:di e8}{nm:aG}{o:e8}{σ σ':St}{ws:aA (aG×eE)}{lg:Lg}(h:ua E all nm o σ ws lg)(hk:∀k∈lg.rs,σ' k=σ k):ua E all nm o σ' ws lg:=by
 rcases h with ⟨h1,e,l,h2,h3,rfl,rfl⟩|⟨h1,rfl,rfl⟩
 ·refine .inl ⟨by rw[wu (λk ud=>hk k (bO _ ud))];exact h1,e,l,Rd.NH _ h2 (λk ud=>hk k (bI _ ud)),h3,rfl,rfl⟩
 ·exact .inr ⟨by rw[wu (λk ud=>hk k ud)];exact h1,rfl,rfl⟩
theorem ua.keys{E:fF}{all:di e8}{nm:aG}{o:e8}{σ:St}{ws:aA (aG×eE)}{lg:Lg}(h:ua E all nm o σ ws lg):lg.ws=ws.map (·.1):=by rcases h with ⟨h1,e,l,h2,h3,rfl,rfl⟩|⟨h1,rfl,rfl⟩<;>rfl
theorem oT:∀{ws:aA (aG×eE)} {σ:St} {k:aG},k∉ws.map (·.1)->wr σ ws k=σ k:=by
 intro ws;induction ws with
 |nil=>intro σ k _;rfl
 |cons d ws ih=>obtain⟨k',c⟩:=d;intro σ k h;rw[e9,cz,not_or]at h;show wr (o_ σ k' c) ws k=σ k;rw[ih h.2,yw σ c h.1]
theorem Tl:∀{ws:aA (aG×eE)} {σ σ':St} {k:aG},k∈ws.map (·.1)->wr σ ws k=wr σ' ws k:=by
 intro ws;induction ws with
 |nil=>intro σ σ' k h;cases h
 |cons d ws ih=>
  obtain⟨k',c⟩:=d;intro σ σ' k h;show wr (o_ σ k' c) ws k=wr (o_ σ' k' c) ws k;by_cases hk:k∈ws.map (·.1)
  ·exact ih hk
  ·have:k=k':=by
    rcases cz.1 h with h|h
    ·exact h
    ·exact cq h hk
   subst this;rw[oT hk,oT hk,sN,sN]
theorem Tk{ws:aA (aG×eE)}{σ σ':St}{k:aG}(h:σ k=σ' k):wr σ ws k=wr σ' ws k:=by
 by_cases hk:k∈ws.map (·.1)
 ·exact Tl hk
 ·rw[oT hk,oT hk];exact h
def B5:Tr->aG->(aG->aY)->St->St
 |[],_,_,σ=>σ
 |(ws,_)::tr,i,S,σ=>B5 tr (i+1) S (bif S i then wr σ ws else σ)
theorem tv:∀{tr:Tr} {i:aG} {S S':aG->aY} {σ σ':St} {k:aG},σ k=σ' k->(∀j ws lg,tr[j]? =aj (ws,lg)->S (i+j)≠S' (i+j)->k∉ws.map (·.1))->B5 tr i S σ k=B5 tr i S' σ' k:=by
 intro tr;induction tr with
 |nil=>intro i S S' σ σ' k h _;exact h
 |cons d tr ih=>
  obtain⟨ws,lg⟩:=d;intro i S S' σ σ' k h hd;refine ih ?_ (λj CK B4 hj ic=>hd (j+1) CK B4 hj (by rwa[show i+(j+1)=i+1+j by omega]));by_cases hS:S i=S' i
  ·rw[hS];cases S' i
   ·exact h
   ·exact Tk h
  ·have hk:=hd 0 ws lg rfl hS;cases hs:S i<;>cases hs':S' i
   ·exact cq (hs.trans hs'.symm) hS
   ·show σ k=wr σ' ws k;rw[oT hk];exact h
   ·show wr σ ws k=σ' k;rw[oT hk];exact h
   ·exact cq (hs.trans hs'.symm) hS
theorem BJ:∀{tr:Tr} {i:aG} {S:aG->aY} {σ:St},(∀j,i<=j->S j=aq)->B5 tr i S σ=σ:=by
 intro tr;induction tr with
 |nil=>intro i S σ _;rfl
 |cons d tr ih=>obtain⟨ws,lg⟩:=d;intro i S σ h;show B5 tr (i+1) S (bif S i then wr σ ws else σ)=σ;rw[h i (cu _)];exact ih (λj hj=>h j (by omega))
theorem SZ:∀{tr:Tr} {i j:aG} {S:aG->aY} {σ:St} {ws:aA (aG×eE)} {lg:Lg},tr[j]? =aj (ws,lg)->S (i+j)=ak->(∀q,i+j<q->S q=aq)->∃τ,B5 tr i S σ=wr τ ws:=by
 intro tr;induction tr with
 |nil=>intro i j S σ ws lg h;simp at h
 |cons d tr ih=>
  obtain⟨CK,B4⟩:=d;intro i j S σ ws lg h hS hn;cases j with
  |zero=>
   cases h;refine⟨σ, ?_⟩
   show B5 tr (i+1) S (bif S i then wr σ CK else σ)=wr σ CK;rw[show S i=ak from hS];exact BJ (λq hq=>hn q (by omega))
  |succ j=>exact ih (i:=i+1) h (by rwa[show i+1+j=i+(j+1)by omega]) (λq hq=>hn q (by omega))
theorem P9{E:fF}{all:di e8}{nG:aG}:∀{os:aA e8} {i:aG} {σ σ':St} {tr:Tr},vf E all nG i os σ tr σ'->tr.length=os.length/\B5 tr i (λ_=>ak) σ=σ'/\
  ∀(j:aG) (o:e8),os[j]? =aj o->∃ws lg,tr[j]? =aj (ws,lg)/\ua E all (JH nG (i+j)) o (B5 tr i (λq=>decide (q<i+j)) σ) ws lg:=by
 intro os;induction os with
 |nil=>intro i σ σ' tr h;obtain⟨rfl,rfl⟩:=h;exact⟨rfl,rfl,λj o h=>by simp at h⟩
 |cons o os ih=>
  intro i σ σ' tr h;obtain⟨ws,lg,tr',rfl,hs,TN⟩:=h;obtain⟨h1,h2,h3⟩:=ih TN;refine⟨by simp[h1],h2,λj o' hj=> ?_⟩
  cases j with
  |zero=>
   cases hj;refine⟨ws,lg,rfl, ?_⟩
   rw[show B5 ((ws,lg)::tr') i (λq=>decide (q<i+0)) σ=σ from BJ (λq hq=>by simp;omega)];exact hs
  |succ j=>
   obtain⟨CK,B4,q1,q2⟩:=h3 j o' hj;refine⟨CK,B4,q1, ?_⟩
   have e1:B5 ((ws,lg)::tr') i (λq=>decide (q<i+(j+1))) σ=B5 tr' (i+1) (λq=>decide (q<i+1+j)) (wr σ ws):=by show B5 tr' (i+1) (λq=>decide (q<i+(j+1))) (bif decide (i<i+(j+1))then wr σ ws else σ)=_;rw[aJ (by omega:i<i+(j+1))];rw[show i+(j+1)=i+1+j by omega];rfl
   rw[e1,show i+(j+1)=i+1+j by omega];exact q2
theorem sb{a b:Lg}(h:AK a b=aq):(∀k∈a.ws,k∉b.ws)/\(∀k∈a.ws,k∉b.rs)/\∀k∈b.ws,k∉a.rs:=by simp only[AK,mb,aK]at h;exact⟨oh h.1.1,oh h.1.2,oh h.2⟩
theorem xW{l:aA aG}{n:aG}(h:lZ n l=ak):n∈l:=by
 induction l with
 |nil=>cases h
 |cons m r ih=>
  simp only[lZ,dH]at h;rcases h with h|h
  ·rw[aX h];exact dy ..
  ·exact cW _ (ih h)
theorem IU{an:aA aG}{j:aG}{a:Lg}:∀{l:aA Lg} {i:aG},zF an j a i l=ak->∀(q:aG) (b:Lg),l[q]? =aj b->i+q∈an\/AK a b=false:=by
 intro l;induction l with
 |nil=>intro i _ q b h;simp at h
 |cons d l ih=>
  intro i h q b hq;simp only[zF,aK,dH,dG]at h;cases q with
  |zero=>cases hq;exact h.1.imp xW id
  |succ q=>have:=ih h.2 q b hq;rwa[show i+1+q=i+(q+1)by omega]at this
theorem K4{an:aA (aA aG)}:∀{rest:aA Lg} {j:aG} {done:aA Lg},done.length=j->calm j an done rest=ak->∀(i J:aG) (a b:Lg),i<J->j<=J->(done++rest)[i]? =aj b->(done++rest)[J]? =aj a->i∈an.getD J []\/AK a b=false:=by
 intro rest;induction rest with
 |nil=>intro j done hd _ i J a b _ hJ _ hb;rw[dn,kC (by omega)]at hb;cases hb
 |cons d rest ih=>
  intro j done hd h i J a b M0 hJ hi hb;simp only[calm,aK]at h;by_cases hJj:J=j
  ·subst hJj;rw[c6 (by omega),hd,wQ]at hb;cases hb;rw[dj (by omega)]at hi;have:=IU h.1 i b hi;rwa[bT]at this
  ·refine ih (done:=done++[d]) (by simp[hd]) h.2 i J a b M0 (by omega) ?_ ?_
   ·rw[cj];exact hi
   ·rw[cj];exact hb
theorem Un:∀{os:aA e8} {acc:aA (aA aG)},∃rest,EB acc os=acc++rest/\rest.length=os.length/\
  ∀(t:aG) (o:e8),os[t]? =aj o->rest[t]? =aj (ddA [] (o.after.toList.flatMap λe=>bif me .any e then e.on::((acc++rest).take (acc.length+t)).getD e.on []else [])):=by
 intro os;induction os with
 |nil=>intro acc;exact⟨[],by simp[EB],rfl,λt o h=>by simp at h⟩
 |cons o os ih=>
  intro acc;let x:=ddA [] (o.after.toList.flatMap λe=>bif me .any e then e.on::acc.getD e.on []else []);obtain⟨rest,h1,h2,h3⟩:=ih (acc:=acc++[x]);refine⟨x::rest, ?_,by simp[h2],λt o' ht=> ?_⟩
  ·show mm x (λx=>EB (acc++[x]) os)=_;rw[oj,h1,cj];rfl
  ·cases t with
   |zero=>cases ht;rw[rF,wP,nS (cu _),fH]
   |succ t=>rw[dI,h3 t o' ht];simp only[bP,bw,cj,tH,show acc.length+1+t=acc.length+(t+1)by omega]
theorem LQ:∀{os:aA e8} {i:aG},HF i os=ak->∀(t:aG) (o:e8),os[t]? =aj o->∀e∈o.after,me .any e=ak->e.on<i+t:=by
 intro os;induction os with
 |nil=>intro i _ t o h;simp at h
 |cons o os ih=>
  intro i h t o' ht e he hb;simp only[HF,aK]at h;cases t with
  |zero=>
   cases ht;have:=bn.1 h.1 e (by simpa using he);rw[hb]at this;have:pX e.on i=true:=by simpa using this
   simpa [zc]using this
  |succ t=>have:=ih h.2 t o' ht e he hb;omega
theorem Ax{os:aA e8}{S:aG->aY}(hS:∀(j:aG) (o:e8),S j=ak->os[j]? =aj o->∀e∈o.after,me .any e=ak->S e.on=ak)(QF:HF 0 os=ak):
  ∀j,S j=ak->∀i∈(EB [] os).getD j [],S i=true:=by
 obtain⟨rest,h1,h2,h3⟩:=Un (os:=os) (acc:=[]);rw[gk]at h1;intro j;induction j using Nat.strongRecOn with
 |_ j ih=>
  intro hj i hi;rw[h1,cL]at hi;cases ho:os[j]? with
  |none=>rw[kC (by rw[h2];exact List.getElem?_eq_none_iff.1 ho)]at hi;cases hi
  |some o=>
   rw[h3 j o ho]at hi;simp only[wR,ju,bT,gk]at hi;have hi:=(EI _ _ _ hi).elim (λh=>by cases h) id;obtain⟨e,he,hi⟩:=bG.1 hi;have he:e∈o.after:=by simpa using he
   cases hb:me .any e with
   |false=>rw[hb]at hi;cases hi
   |true=>
    rw[hb]at hi;have jG:=LQ QF j o ho e he hb;rw[bT]at jG;have hSe:=hS j o hj ho e he hb;rcases cz.1 hi with rfl|hi
    ·exact hSe
    ·refine ih e.on jG hSe i ?_;rw[h1,cL];rw[cL,dV,bC jG]at hi;exact hi
end Go.FG

namespace Go.FG
theorem GO{p p':aG->aY}{i:aG}(hp:p i=ak)(mB:p' i=aq)(ic:∀j,j≠i->p' j=p j):∀{l:aA aG},l.Nodup->i∈l->l.countP p'+1=l.countP p:=by
 have same:∀{l:aA aG},i∉l->l.countP p'=l.countP p:=by
  intro l;induction l with
  |nil=>intro _;rfl
  |cons m l ih=>intro h;rw[cz,not_or]at h;rw[kW,kW,ih h.2,ic m (λe=>h.1 e.symm)]
 intro l;induction l with
 |nil=>intro _ h;cases h
 |cons m l ih=>
  intro hn h;rw[j6]at hn;rcases cz.1 h with rfl|h
  ·rw[kW,kW,same hn.1,hp,mB];simp
  ·have hm:m≠i:=λe=>hn.1 (e▸h);rw[kW,kW,ic m hm,<-ih hn.2 h];omega
theorem pQ{dK:di aY}{i:aG}(h:i<dK.size)(d:aY):(dK.setIfInBounds i ak).getD i d=true:=by simp[h]
section
variable {P:cR} {E:fF}
theorem MI(hE:eg P E)(hF:∀g,cF P E g (E.call g)){N:aG}{σ0:St}{c0:eO}{w0:bF}{all:di e8}{nG:aG}{Q:Exit->Act->bF->Prop}{σ σ':St}{tr:Tr}(TN:vf E all nG 0 all.toList σ tr σ')(XY:calm 0 (EB [] all.toList) [] (tr.map (·.2))=ak)(QF:HF 0 all.toList=ak)
  (A0:∀o∈all.toList,∀d,o.dst=aj d->d<N) (hQ:∀a w c,At P E N σ0 c0 w0 σ' a w c->Q .normal a w):
  ∀(fuel:aG) (dK:di aY) (a:Act) (w:bF) (c:eO),dK.size=all.size->(∀(j:aG) (o:e8),dK.getD j aq=ak->all.toList[j]? =aj o->∀e∈o.after,me .any e=ak->dK.getD e.on aq=ak)->
   (cO all.size).countP (λj=> !dK.getD j aq)<=fuel->At P E N σ0 c0 w0 (B5 tr 0 (λj=>dK.getD j aq) σ) a w c->wpAny P .any all Q fuel dK a w:=by
 obtain⟨t1,t2,t3⟩:=P9 TN;have hlen:all.toList.length=all.size:=dN;have done:∀(dK:di aY) (a:Act) (w:bF) (c:eO),(∀j,j<all.size->dK.getD j aq=ak)->At P E N σ0 c0 w0 (B5 tr 0 (λj=>dK.getD j aq) σ) a w c->Q .normal a w:=by
  intro dK a w c n7 fW;refine hQ a w c ?_;have:B5 tr 0 (λj=>dK.getD j aq) σ=σ':=by
   rw[<-t2];funext k;refine tv rfl (λj ws lg hj ic=> ?_);have jF:j<all.size:=by rw[<-hlen,<-t1];exact(aU.1 hj).1
   rw[bT]at ic;exact cq (n7 j jF) ic
  rw[<-this];exact fW
 have aa4:∀(dK:di aY) (j:aG),dK.size=all.size->j<all.size->dK.getD j ak=dK.getD j false:=by
  intro dK j hs hj;rw[er,er];have:j<dK.size:=by omega
  simp[this]
 have full:∀dK:di aY,dK.size=all.size->vh .any all dK=[]->∀j,j<all.size->dK.getD j aq=true:=by
  intro dK hs hr j;induction j using Nat.strongRecOn with
  |_ j ih=>
   intro hj;cases h:dK.getD j aq with
   |true=>rfl
   |false=>
    have ho:all[j]? =aj all[j]:=by simp[hj]
    have:j∈vh .any all dK:=by
     rw[mem_ready];refine⟨by rw[aa4 dK j hs hj];exact h,all[j],ho,λe he hb=> ?_⟩
     have:=LQ QF j all[j] (by rw[cQ];exact ho) e he hb;rw[bT]at this;exact ih e.on this (by omega)
    rw[hr]at this;cases this
 intro fuel;induction fuel with
 |zero=>
  intro dK a w c hs _ aeV fW;have n7:∀j,j<all.size->dK.getD j aq=true:=by intro j hj;have h0:=List.countP_eq_zero.1 (Nat.le_zero.1 aeV) j (by simpa using hj);simpa using h0
  refine⟨?_,done dK a w c n7 fW⟩
  cases hr:vh .any all dK with
  |nil=>rfl
  |cons i r=>
   have:i∈vh .any all dK:=by rw[hr];exact dy ..
   obtain⟨h0,o,ho,_⟩:=mem_ready.1 this;have hi:i<all.size:=(dQ.1 ho).1;rw[aa4 dK i hs hi,n7 i hi]at h0;cases h0
 |succ fuel ih=>
  intro dK a w c hs ng aeV fW;refine⟨λhr=>done dK a w c (full dK hs hr) fW,λi hi=> ?_⟩
  obtain⟨h0,o,ho,amX⟩:=mem_ready.1 hi;have hil:i<all.size:=(dQ.1 ho).1;rw[aa4 dK i hs hil]at h0;have FX:all.toList[i]? =aj o:=by rw[cQ];exact ho
  obtain⟨ws,lg,q1,q2⟩:=t3 i o FX;rw[bT]at q2;have Q6:∀{j:aG} {CK:aA (aG×eE)} {B4:Lg},tr[j]? =aj (CK,B4)->(tr.map (·.2))[j]? =aj B4/\B4.ws=CK.map (·.1):=by
   intro j CK B4 hj;have jF:j<all.toList.length:=by rw[<-t1];exact(aU.1 hj).1
   obtain⟨ws2,lg2,r1,r2⟩:=t3 j all.toList[j] (by simp[jF]);rw[hj]at r1;cases r1;exact⟨by rw[bE,hj];rfl,r2.keys⟩
  obtain⟨lgi,kwi⟩:=Q6 q1;have abp:∀(j:aG) (o':e8),(dK.setIfInBounds i ak).getD j aq=ak->all.toList[j]? =aj o'->∀e∈o'.after,me .any e=ak->(dK.setIfInBounds i ak).getD e.on aq=true:=by
   intro j o' hj ue e he hb;by_cases Hb:i=j
   ·subst Hb;rw[FX]at ue;cases ue;exact getD_set_true (amX e he hb)
   ·rw[getD_set_ne aq Hb]at hj;exact getD_set_true (ng j o' hj ue e he hb)
  have before:∀j,j<i->dK.getD j aq=aq->∀{CK:aA (aG×eE)} {B4:Lg},tr[j]? =aj (CK,B4)->AK lg B4=false:=by
   intro j hj hn CK B4 hjt;rcases K4 (done:=[]) rfl XY j i lg B4 hj (bL _) (Q6 hjt).1 lgi with h|h
   ·have:=Ax abp QF i (pQ (by omega) aq) j h;rw[getD_set_ne aq (by omega:i≠j)]at this;rw[hn]at this;cases this
   ·exact h
  have after:∀j,i<j->dK.getD j aq=ak->∀{CK:aA (aG×eE)} {B4:Lg},tr[j]? =aj (CK,B4)->AK B4 lg=false:=by
   intro j hj hn CK B4 hjt;rcases K4 (done:=[]) rfl XY i j B4 lg hj (bL _) lgi (Q6 hjt).1 with h|h
   ·have:=Ax ng QF j hn i h;rw[h0]at this;cases this
   ·exact h
  have afq:ua E all (JH nG i) o (B5 tr 0 (λj=>dK.getD j aq) σ) ws lg:=by
   refine q2.congr (λk hk=>tv rfl (λj CK B4 hj ic X5=> ?_));rw[bT]at ic;rw[<-(Q6 hj).2]at X5;by_cases Hb:j<i
   ·rw[aJ Hb]at ic;have hn:dK.getD j aq=false:=by simpa using ic
    exact(sb (before j Hb hn hj)).2.2 k X5 hk
   ·rw[aM Hb]at ic;have hn:dK.getD j aq=true:=by simpa using ic
    have amK:i<j:=by
     rcases qt i j with h|h
     ·exact h
     ·have:j=i:=by omega
      subst this;rw[h0]at hn;cases hn
    exact(sb (after j amK hn hj)).2.1 k X5 hk
  have xR:wr (B5 tr 0 (λj=>dK.getD j aq) σ) ws=B5 tr 0 (λj=>(dK.setIfInBounds i ak).getD j aq) σ:=by
   funext k;by_cases hk:k∈ws.map (·.1)
   ·have e1:B5 tr 0 (λj=>(dK.setIfInBounds i ak).getD j aq) σ k=B5 tr 0 (λj=>(dK.setIfInBounds i ak).getD j aq&&decide (j<=i)) σ k:=by
     refine tv rfl (λj CK B4 hj ic X5=> ?_);rw[bT]at ic;rw[<-(Q6 hj).2]at X5;have Hb:i<j:=by
      rcases qt i j with h|h
      ·exact h
      ·rw[aJ h,pc]at ic;exact cq rfl ic
     rw[aM (by omega:¬j<=i),Gd,getD_set_ne aq (by omega:i≠j)]at ic;have hn:dK.getD j aq=true:=by simpa using ic
     rw[<-kwi]at hk;exact(sb (after j Hb hn hj)).1 k X5 hk
    obtain⟨τ,hτ⟩:=SZ (i:=0) (S:=λj=>(dK.setIfInBounds i ak).getD j aq&&decide (j<=i)) (σ:=σ) q1 (by rw[bT,pQ (by omega) aq];simp) (λq hq=>by rw[aM (by omega:¬q<=i),Gd]);rw[e1,hτ];exact Tl hk
   ·rw[oT hk];refine tv rfl (λj CK B4 hj ic X5=> ?_);rw[bT]at ic;by_cases Hb:i=j
    ·subst Hb;rw[q1]at hj;cases hj;exact hk X5
    ·rw[getD_set_ne aq Hb]at ic;exact cq rfl ic
  refine zX hE hF fW.ok fW.sl (λd X0=>by rw[fW.sz];exact A0 o (aQ FX) d X0) ho afq (λv w' c' h1 h2 h3 h4=> ?_);have zn:=fW.step h1 h2 h3 h4;rw[xR]at zn;refine ih (dK.setIfInBounds i ak) _ _ c' (by simp[hs]) abp ?_ zn;have:=GO (p:=λj=> !dK.getD j aq) (p':=λj=> !(dK.setIfInBounds i ak).getD j aq) (i:=i) (by rw[h0];rfl) (by rw[pQ (by omega) aq];rfl) (λj hj=>by rw[getD_set_ne aq (λe=>hj e.symm)]) (l:=cO all.size) List.nodup_range (by simpa using hil);omega
theorem At.drawn{N:aG}{σ0 σ:St}{c0 c:eO}{w0 w:bF}{a:Act}(h:At P E N σ0 c0 w0 σ a w c)(n:aG):At P E N σ0 c0 w0 σ a {w with drawn:=n} c:=by have hh:=h.ok.change (σ':=σ) (w':={w with drawn:=n}) (c':=c) (λ_=>False) (λ_ _=>rfl) (λ_ h=>h) (jj.refl _ _) (λ_ _ _=>rfl) (cu _) (λ_ h=>h) (λ_ h=> .inl h) h.ok.lt (λ_ _ h=>h.elim) (λ_ _ _ h=>h.elim) (λ_ _ _ _ _ h=>h.elim) (λ_ _ h=>h.elim) rfl rfl rfl;refine⟨hh.1,⟨λn'=>(h.sl.ok n').frame (λ_ _=>rfl) (λ_ h=>h) (λ_ _=>⟨rfl,rfl⟩),h.sl.kn,h.sl.df⟩,h.sz,h.gr.trans hh.2,h.ag⟩
theorem Ny(hE:eg P E)(hF:∀g,cF P E g (E.call g))(hm:P.follows .mixedOrders=ak){R:Type}{N:aG}{σ0:St}{c0:eO}{w0:bF}{os:di e8}{nG:aG}{draw:aY}{Q:Exit->Act->bF->Prop}{σ:St}{K:Ex->St->aC R}{r:R}
  (h:ops E os nG 0 os.toList σ [] (λσ lg=>bif !draw||(HF 0 os.toList&&K3 (EB [] os.toList) lg.reverse)then K .normal σ else ao)=aj r) (A0:∀o∈os.toList,∀d,o.dst=aj d->d<N)
  (hQ:∀σ' a w c,K .normal σ'=aj r->At P E N σ0 c0 w0 σ' a w c->Q .normal a w) {a:Act} {w:bF} {c:eO} (fW:At P E N σ0 c0 w0 σ a w c):(Code.region nG os draw).wp P Q a w:=by
 obtain⟨tr,σ',TN,hk⟩:=Nn E os nG _ _ _ _ _ _ h;simp only[dn,List.reverse_reverse,P5]at hk;cases draw with
 |false=>simp only[bX,y_,ay]at hk;refine wp_region ?_;rw[PH,<-dN];exact IY hE hF os.toList 0 σ tr σ' TN (λj o hj=>by rw[bT,<-cQ];exact hj) A0 (λa w c h=>hQ σ' a w c hk h) a w c fW
 |true=>
  cases hc:(HF 0 os.toList&&calm 0 (EB [] os.toList) [] (tr.map (·.2)))with
  |false=>simp[hc]at hk
  |true=>
   simp only[hc,Ip,ay]at hk;simp only[aK]at hc;refine wp_region_any hm ?_;refine MI hE hF TN hc.2 hc.1 A0 (λa w c h=>hQ σ' a w c hk h) os.size _ a _ c (by simp) (λj o hj=> ?_) ?_ ?_
   ·exfalso;rw[er,CM]at hj;split at hj<;>cases hj
   ·exact db (List.countP_le_length) (by simp)
   ·have:B5 tr 0 (λj=>(zt os.size aq).getD j aq) σ=σ:=BJ (λj _=>by rw[er,CM];split<;>rfl);rw[this];exact fW.drawn _
end
end Go.FG

namespace Go.FG
theorem QM:∀{l:aA aG} {n i:aG},n∈l->∃k,idx n i l=aj k/\i<=k/\k<i+l.length/\l[k-i]? =aj n:=by
 intro l;induction l with
 |nil=>intro n i h;cases h
 |cons m l ih=>
  intro n i h;unfold idx;cases hb:bA n m with
  |true=>have:=aX hb;subst this;exact⟨i,rfl,cu _,by simp,by simp⟩
  |false=>
   rcases cz.1 h with rfl|h
   ·simp at hb
   ·obtain⟨k,h1,h2,h3,h4⟩:=ih (i:=i+1) h;refine⟨k,h1,by omega,by simp;omega, ?_⟩
    rw[show k-i=(k-(i+1))+1 by omega,dI];exact h4
theorem U_:∀{l:aA aG} {n i k:aG},idx n i l=aj k->i<=k/\k<i+l.length/\l[k-i]? =aj n:=by
 intro l;induction l with
 |nil=>intro n i k h;cases h
 |cons m l ih=>
  intro n i k h;unfold idx at h;cases hb:bA n m with
  |true=>rw[hb]at h;have:=aX hb;subst this;cases h;exact⟨cu _,by simp,by simp⟩
  |false=>
   rw[hb]at h;obtain⟨h2,h3,h4⟩:=ih h;refine⟨by omega,by simp;omega, ?_⟩
   rw[show k-i=(k-(i+1))+1 by omega,dI];exact h4
theorem I_{f:aY}{k:aG}(h:k<900):enc f k<900000000:=by unfold enc;cases f<;>simp<;>omega
theorem Vf{f:aY}{k:aG}(h:k<900):xT (enc f k)=f:=by
 cases f with
 |false=>
  show(bA (k%1000) 999&&pX k 900000000)=aq;have:bA (k%1000) 999=false:=by
   cases hb:bA (k%1000) 999 with
   |false=>rfl
   |true=>have:=aX hb;omega
  rw[this];rfl
 |true=>show(bA ((k*1000+999)%1000) 999&&pX (k*1000+999) 900000000)=ak;rw[show(k*1000+999)%1000=999 by omega,show pX (k*1000+999) 900000000=ak from Iy (by omega)];rfl
theorem UC{f f':aY}{k k':aG}(h:k<900)(h':k'<900)(he:enc f k=enc f' k'):k=k':=by unfold enc at he;cases f<;>cases f'<;>simp at he<;>omega
theorem R7{l:aA aG}{n:aG}(h:n∈l):∃k,u5 l n=aj k:=by
 unfold u5;cases fj 900000000 n with
 |true=>exact⟨n,by simp[Hs h]⟩
 |false=>obtain⟨k,hk,_⟩:=QM (i:=0) h;exact⟨enc (xT n) k,by simp[hk]⟩
theorem v7{l:aA aG}{n k:aG}(h:u5 l n=aj k):n∈l/\((900000000<=n/\k=n)\/(n<900000000/\∃k0,k=enc (xT n) k0/\k0<l.length/\l[k0]? =aj n)):=by
 unfold u5 at h;cases hb:fj 900000000 n with
 |true=>
  rw[hb]at h;cases hm:lZ n l with
  |true=>simp only[hm,ay]at h;cases h;exact⟨xW hm, .inl ⟨cC hb,rfl⟩⟩
  |false=>simp[hm]at h
 |false=>
  rw[hb,aD]at h;cases hi:idx n 0 l with
  |none=>rw[hi]at h;cases h
  |some k0=>
   rw[hi]at h;cases h;obtain⟨_,h3,h4⟩:=U_ hi;rw[uD]at h4;refine⟨aQ h4, .inr ⟨?_,k0,rfl,by simpa using h3,h4⟩⟩
   rcases qt n 900000000 with h|h
   ·exact h
   ·rw[Iy h]at hb;cases hb
theorem LS{l:aA aG}(hl:l.length<=900){n k:aG}(h:u5 l n=aj k):xT k=xT n:=by
 obtain⟨_,⟨_,rfl⟩|⟨_,k0,rfl,h3,_⟩⟩:=v7 h
 ·rfl
 ·exact Vf (by omega)
theorem WH{l:aA aG}(hl:l.length<=900){n n' k:aG}(h:u5 l n=aj k)(h':u5 l n'=aj k):n=n':=by
 obtain⟨_,h1⟩:=v7 h;obtain⟨_,h2⟩:=v7 h';rcases h1 with ⟨a,b⟩|⟨a,k0,b,d,e⟩<;>rcases h2 with ⟨a',b'⟩|⟨a',k0',b',d',e'⟩
 ·omega
 ·have:=I_ (f:=xT n') (k:=k0') (by omega);omega
 ·have:=I_ (f:=xT n) (k:=k0) (by omega);omega
 ·have:=UC (f:=xT n) (f':=xT n') (k:=k0) (k':=k0') (by omega) (by omega) (b.symm.trans b');subst this;rw[e]at e';cases e';rfl
def inv(l:aA aG)(m:aG):aC aG:=l.find? λn=>decide (u5 l n=aj m)
theorem abN{l:aA aG}(hl:l.length<=900){n k:aG}(h:u5 l n=aj k):inv l k=aj n:=by
 unfold inv;cases hf:l.find? (λn=>decide (u5 l n=aj k))with
 |none=>have:=p8.1 hf n (v7 h).1;simp[h]at this
 |some n'=>have:=List.find?_some hf;rw[WH hl h (b9 this)]
theorem QP{l:aA aG}{m n:aG}(h:inv l m=aj n):u5 l n=aj m:=b9 (List.find?_some (p:=λn=>decide (u5 l n=aj m)) h)
theorem Du{l ns:aA aG}(h:xV l ns=ak):∀n∈ns,n∈l:=λn hn=>xW (bn.1 h n hn)
theorem qR{σ:St}{l:aA aG}:∀{r:aA aG} {k:aG} {x:eE},(k,x)∈uW σ l r↔∃n∈r,∃m,u5 l n=aj m/\k=cX m/\x=Nz l (σ (cX n)):=by
 intro r;induction r with
 |nil=>intro k x;simp[uW]
 |cons n r ih=>
  intro k x;unfold uW;cases hr:u5 l n with
  |none=>
   simp only;rw[ih];constructor
   ·rintro ⟨n',h1,h2⟩;exact⟨n',cW _ h1,h2⟩
   ·rintro ⟨n',h1,m,h2,h3⟩;rcases cz.1 h1 with rfl|h1
    ·rw[hr]at h2;cases h2
    ·exact⟨n',h1,m,h2,h3⟩
  |some m=>
   simp only[cz,ih];constructor
   ·rintro (h|⟨n',h1,h2⟩)
    ·cases h;exact⟨n, .inl rfl,m,hr,rfl,rfl⟩
    ·exact⟨n', .inr h1,h2⟩
   ·rintro ⟨n',h1|h1,m',h2,rfl,rfl⟩
    ·subst h1;rw[hr]at h2;cases h2;exact .inl rfl
    ·exact .inr ⟨n',h1,m',h2,rfl,rfl⟩
section
variable {P:cR} {E:fF} {σ:St} {a:Act} {w:bF} {c:eO} {o:e8} {nm:aG} {e:rT}
def vZ(c:eO)(l:aA aG):eO:=
 ⟨λm=>match inv l m with|some n=>c.P n|none=>c.P m,λm=>match inv l m with|some n=>c.G n|none=>c.G m,c.K⟩
theorem v5{l:aA aG}(hl:l.length<=900){n m:aG}(h:u5 l n=aj m):(vZ c l).P m=c.P n/\(vZ c l).G m=c.G n:=by have:=abN hl h;unfold vZ;simp only[this];exact⟨trivial,trivial⟩
theorem sI{T:Tab}{l:aA aG}(hl:l.length<=900){x:AV}{u:bg}(hx:ej T w c x u)(hk:∀n∈bJ x,n∈l):ej T w (vZ c l) (pz l x) u/\∀m∈bJ (pz l x),∃n∈l,u5 l n=aj m:=by
 have named:∀n,n∈bJ x->∃k,u5 l n=aj k/\(vZ c l).P k=c.P n/\(vZ c l).G k=c.G n:=λn hn=>by obtain⟨k,h⟩:=R7 (hk n hn);exact⟨k,h,v5 hl h⟩
 have nn:∀m,m∈([]:aA aG)->∃n∈l,u5 l n=aj m:=λm h=>by cases h
 cases x with
 |i=>exact⟨hx,nn⟩
 |b=>exact⟨hx,nn⟩
 |s=>exact⟨hx,nn⟩
 |nl=>exact⟨hx,nn⟩
 |sh=>exact⟨hx,nn⟩
 |sp=>exact⟨hx,nn⟩
 |fn=>exact⟨hx,nn⟩
 |fp=>exact⟨hx,nn⟩
 |own n=>obtain⟨k,h,e1,e2⟩:=named n (by simp[bJ]);simp only[pz,h];exact⟨by simp only[ej,e1]at hx⊢;exact hx,λm hm=>⟨n,hk n (by simp[bJ]),by rw[show m=k by simpa [bJ]using hm];exact h⟩⟩
 |vw n lo hi=>obtain⟨k,h,e1,e2⟩:=named n (by simp[bJ]);simp only[pz,h];exact⟨by simp only[ej,e1]at hx⊢;exact hx,λm hm=>⟨n,hk n (by simp[bJ]),by rw[show m=k by simpa [bJ]using hm];exact h⟩⟩
 |bp n j=>obtain⟨k,h,e1,e2⟩:=named n (by simp[bJ]);simp only[pz,h];exact⟨by simp only[ej,e1]at hx⊢;exact hx,λm hm=>⟨n,hk n (by simp[bJ]),by rw[show m=k by simpa [bJ]using hm];exact h⟩⟩
 |rp n i j=>obtain⟨k,h,e1,e2⟩:=named n (by simp[bJ]);simp only[pz,h];exact⟨by simp only[ej,e1]at hx⊢;exact hx,λm hm=>⟨n,hk n (by simp[bJ]),by rw[show m=k by simpa [bJ]using hm];exact h⟩⟩
 |inn n i j=>obtain⟨k,h,e1,e2⟩:=named n (by simp[bJ]);simp only[pz,h];exact⟨by simp only[ej,e1,e2,LS hl h]at hx⊢;exact hx,λm hm=>⟨n,hk n (by simp[bJ]),by rw[show m=k by simpa [bJ]using hm];exact h⟩⟩
 |ip n i j i2 j2=>obtain⟨k,h,e1,e2⟩:=named n (by simp[bJ]);simp only[pz,h];exact⟨by simp only[ej,e1,e2,LS hl h]at hx⊢;exact hx,λm hm=>⟨n,hk n (by simp[bJ]),by rw[show m=k by simpa [bJ]using hm];exact h⟩⟩
theorem JV{T:Tab}{l:aA aG}(hl:l.length<=900){g:aY}{xs:aA AV}{u:bg}(hx:pM T w c g xs u)(hk:∀n∈xs.flatMap bJ,n∈l):pM T w (vZ c l) g (xs.map (pz l)) u/\∀m∈(xs.map (pz l)).flatMap bJ,∃n∈l,u5 l n=aj m:=by
 have kx:∀x∈xs,∀n∈bJ x,n∈l:=λx hx n hn=>hk n (bG.2 ⟨x,hx,hn⟩);unfold pM at hx;split at hx
 ·rename_i y;obtain⟨h1,h2⟩:=sI hl hx (kx y (by simp));exact⟨h1,λm hm=>h2 m (by simpa using hm)⟩
 ·obtain⟨vals,rfl,hs,hv⟩:=hx;refine⟨⟨vals,rfl,by simp[hs],λj y hj=> ?_⟩,λm hm=> ?_⟩
  ·rw[bE]at hj;cases U6:xs[j]? with
   |none=>rw[U6]at hj;cases hj
   |some x=>rw[U6]at hj;cases hj;obtain⟨u,hu,ha⟩:=hv j x U6;exact⟨u,hu,(sI hl ha (kx x (aQ U6))).1⟩
  ·obtain⟨y,hy,hm⟩:=bG.1 hm;obtain⟨x,Yc,rfl⟩:=cJ.1 hy;obtain⟨j,hj⟩:=bZ Yc;obtain⟨u,hu,ha⟩:=hv j x hj;exact(sI hl ha (kx x Yc)).2 m hm
 ·exact hx.elim
theorem HJ{T:Tab}{l:aA aG}(hl:l.length<=900){s:SV}{u:bg}(hx:iW T w c s u):iW T w (vZ c l) (DC l s) u/\∀m∈cD (DC l s),∃n∈l,u5 l n=aj m:=by
 unfold DC;cases hk:xV l (cD s)with
 |false=>exact⟨trivial,λm hm=>by simp[cD]at hm⟩
 |true=>
  have hk:=Du hk;simp only[ay];cases s with
  |un=>exact⟨trivial,λm hm=>by simp[cD]at hm⟩
  |v g xs=>exact JV hl hx hk
  |je r=>
   obtain⟨vs,rfl,hs,hv⟩:=hx;have kr:∀x∈r,∀n∈x.2.flatMap bJ,n∈l:=λx hx n hn=>hk n (bG.2 ⟨x,hx,hn⟩);refine⟨⟨vs,rfl,by simp[hs],λj g xs hj=> ?_⟩,λm hm=> ?_⟩
   ·rw[bE]at hj;cases U6:r[j]? with
    |none=>rw[U6]at hj;cases hj
    |some x=>rw[U6]at hj;cases hj;obtain⟨u,hu,ha⟩:=hv j x.1 x.2 U6;exact⟨u,hu,(JV hl ha (kr x (aQ U6))).1⟩
   ·obtain⟨y,hy,hm⟩:=bG.1 hm;obtain⟨x,Yc,rfl⟩:=cJ.1 hy;obtain⟨j,hj⟩:=bZ Yc;obtain⟨u,hu,ha⟩:=hv j x.1 x.2 hj;exact(JV hl ha (kr x Yc)).2 m hm
theorem R6{l:aA aG}{x:eE}:Nz l x≠ .jH:=by
 unfold Nz;split
 ·intro h;revert h;cases xV l _<;>simp
 ·simp
 ·simp
theorem MH{N:aG}{σ0:St}{c0:eO}{w0:bF}{keep:aA aG}(h:At P E N σ0 c0 w0 σ a w c):∃c',At P E N σ0 c0 w0 (fO (mm (IW keep σ) λl=>IV keep σ l)) a w c':=by
 rw[oj];generalize IW keep σ=l;unfold IV;cases hle:fj l.length 900 with
 |false=>
  simp only[aD];have hn:∀k,fO [] k= .jH:=λk=>rfl;have no:∀{k:aG} {x:Obj},fO [] k≠ .o x:=λh=>by rw[hn]at h;cases h
  refine⟨c,⟨λnm o ho=>cq ho no,λnm o vU o' b ho=>cq ho no,λnm o b ho=>cq ho no,h.ok.lt,λnm xs ho=>cq ho no⟩,⟨λn=>trivial,λn m hm=>(by simp[slot,fO,cD]at hm),h.sl.df⟩,h.sz,h.gr.trans ⟨rfl,rfl,rfl,cu _,λ_ h=>h,λ_ _ _=>rfl,λb hb=> ?_,λ_ h=> .inl h⟩,h.ag⟩
  obtain⟨nm,o,ho,_⟩:=hb;exact cq ho no
 |true=>
  have hl:=cC hle;simp only[ay];generalize hT:keep.map (λn=>(pS n,eE.v (DC l (slot σ n))))++uW σ l l=T;have apd:∀d∈T,d.2≠ .jH:=by
   rintro ⟨k,x⟩ hd;rw[<-hT]at hd;rcases a_.1 hd with hd|hd
   ·obtain⟨n,_,hd⟩:=cJ.1 hd;cases hd;simp
   ·obtain⟨n,_,m,_,_,rfl⟩:=qR.1 hd;exact R6
  have ape:∀{m:aG} {ob:Obj},fO T (cX m)= .o ob->∃n∈l,u5 l n=aj m/\Nz l (σ (cX n))= .o ob:=by
   intro m ob ho;have:=nh ho (by simp);rw[<-hT]at this;rcases a_.1 this with hd|hd
   ·obtain⟨n,_,hd⟩:=cJ.1 hd;injection hd with h1 h2;exact cq h1 (qY n m)
   ·obtain⟨n,hn,m',hr,h1,h2⟩:=qR.1 hd;have:=jE h1;subst this;exact⟨n,hn,hr,h2.symm⟩
  have Q3:∀{m n:aG},n∈l->u5 l n=aj m->fO T (cX m)≠ .jH:=λhn hr=>q_ (l:=T) (by rw[<-hT];exact bI _ (qR.2 ⟨_,hn,_,hr,rfl,rfl⟩)) apd;have Zp:∀n,slot (fO T) n=DC l (slot σ n)\/slot (fO T) n= .un:=by
   intro n;unfold slot;cases hs:fO T (pS n)with
   |v x=>
    have:=nh hs (by simp);rw[<-hT]at this;rcases a_.1 this with hd|hd
    ·obtain⟨n',_,hd⟩:=cJ.1 hd;injection hd with h1 h2;have:=Fv h1;subst this;cases h2;exact .inl rfl
    ·obtain⟨n',hn,m',hr,h1,h2⟩:=qR.1 hd;exact cq h1 (qY _ _)
   |o=>exact .inr rfl
   |jH=>exact .inr rfl
  have was:∀{m:aG} {ob:Obj},fO T (cX m)= .o ob->ob= .dead\/∃n∈l,u5 l n=aj m/\((σ (cX n)= .o ob/\∀xs,ob≠ .box xs)\/∃xs,σ (cX n)= .o (.box xs)/\ob= .box (xs.map (pz l))/\∀k∈xs.flatMap bJ,k∈l):=by
   intro m ob ho;obtain⟨n,hn,hr,he⟩:=ape ho;unfold Nz at he;split at he
   ·rename_i xs hx;cases hk:xV l (xs.flatMap bJ)with
    |true=>rw[hk]at he;cases he;exact .inr ⟨n,hn,hr, .inr ⟨xs,hx,rfl,Du hk⟩⟩
    |false=>rw[hk]at he;cases he;exact .inl rfl
   ·rename_i x ic hx;cases he;exact .inr ⟨n,hn,hr, .inl ⟨hx,λxs e=>ic xs e⟩⟩
   ·cases he;exact .inl rfl
  have Li:∀{m:aG} {ob:Obj} {b:aG},fO T (cX m)= .o ob->fu (vZ c l) m ob b->∃n o,u5 l n=aj m/\σ (cX n)= .o o/\fu c n o b:=by
   intro m ob b ho hf;rcases was ho with rfl|⟨n,hn,hr,⟨h1,_⟩|⟨xs,h1,rfl,_⟩⟩
   ·exact hf.elim
   ·obtain⟨e1,e2⟩:=v5 (c:=c) hl hr;refine⟨n,ob,hr,h1, ?_⟩
    cases ob<;>simp only[fu,e1,e2]at hf⊢ <;>exact hf
   ·obtain⟨e1,e2⟩:=v5 (c:=c) hl hr;refine⟨n,_,hr,h1, ?_⟩
    simp only[fu,e1]at hf⊢;exact hf
  refine⟨vZ c l,⟨?_, ?_, ?_,h.ok.lt, ?_⟩,⟨?_, ?_,h.sl.df⟩,h.sz,h.gr.trans ⟨rfl,rfl,rfl,cu _,λ_ h=>h,λ_ _ _=>rfl, ?_,λ_ h=> .inl h⟩,h.ag.trans ?_⟩
  ·intro m ob ho;rcases was ho with rfl|⟨n,hn,hr,⟨h1,h2⟩|⟨xs,h1,rfl,hk⟩⟩
   ·trivial
   ·obtain⟨e1,e2⟩:=v5 (c:=c) hl hr;have mn:=h.ok.obj n ob h1;cases ob with
    |box xs=>exact cq rfl (h2 xs)
    |dead=>trivial
    |nC cs=>show FB E w c.K ((vZ c l).P m).blk cs;rw[e1];exact mn
    |fI e' xs=>show cZ E w c.K (lh ((vZ c l).P m)) _/\((vZ c l).P m).n=_/\_;rw[e1];exact mn
    |row e' ex xs=>obtain⟨q1,q2,q3⟩:=mn;exact⟨by rw[e1];exact q1,by rw[e1,e2];exact q2,by rw[e1,e2];exact q3⟩
   ·obtain⟨e1,e2⟩:=v5 (c:=c) hl hr;obtain⟨vals,hb,hs,hv⟩:=h.ok.obj n _ h1;refine⟨vals,by rw[e1];exact hb,by simp[hs],λj y hj=> ?_⟩
    rw[bE]at hj;cases hx:xs[j]? with
    |none=>rw[hx]at hj;cases hj
    |some x=>rw[hx]at hj;cases hj;obtain⟨u,hu,ha⟩:=hv j x hx;exact⟨u,hu,(sI hl ha (λk ud=>hk k (bG.2 ⟨x,aQ hx,ud⟩))).1⟩
  ·intro m ob m' ob' b ho ue hf wC;obtain⟨n,o1,r1,s1,f1⟩:=Li ho hf;obtain⟨n',o2,r2,s2,f2⟩:=Li ue wC;have:=h.ok.sep n o1 n' o2 b s1 s2 f1 f2;subst this;rw[r1]at r2;cases r2;rfl
  ·intro m ob b ho hf;obtain⟨n,o1,r1,s1,f1⟩:=Li ho hf;exact h.ok.kk n o1 b s1 f1
  ·intro m xs ho y hy k hk;rcases was ho with h'|⟨n,hn,hr,⟨h1,h2⟩|⟨zs,h1,he,Hc⟩⟩
   ·cases h'
   ·exact cq rfl (h2 xs)
   ·cases he;obtain⟨x,Yc,rfl⟩:=cJ.1 hy;obtain⟨vals,hb,hs,hv⟩:=h.ok.obj n _ h1;obtain⟨j,hj⟩:=bZ Yc;obtain⟨u,hu,ha⟩:=hv j x hj;obtain⟨n',j_,Cx⟩:=(sI hl ha (λk ud=>Hc k (bG.2 ⟨x,Yc,ud⟩))).2 k hk;exact Q3 j_ Cx
  ·intro n;rcases Zp n with hs|hs
   ·rw[hs];exact(HJ hl (h.sl.ok n)).1
   ·rw[hs];trivial
  ·intro n m hm;rcases Zp n with hs|hs
   ·rw[hs]at hm;obtain⟨n',j_,Cx⟩:=(HJ hl (h.sl.ok n)).2 m hm;exact Q3 j_ Cx
   ·rw[hs]at hm;simp[cD]at hm
  ·rintro b ⟨m,ob,ho,hf⟩;obtain⟨n,o1,r1,s1,f1⟩:=Li ho hf;exact .inl ⟨n,o1,s1,f1⟩
  ·intro m hm;unfold vZ;cases hi:inv l m with
   |none=>simp only[hi];exact⟨trivial,trivial⟩
   |some n=>
    have:=(v7 (QP hi)).2;have:n=m:=by
     rcases this with ⟨_,h⟩|⟨_,k0,h,hk0,_⟩
     ·exact h.symm
     ·have:=I_ (f:=xT n) (k:=k0) (by omega);omega
    subst this;simp only[hi];exact⟨trivial,trivial⟩
theorem afU{N:aG}{σ0:St}{c0:eO}{w0:bF}{nm F j e:aG}{xs:aA AV}{ti:TI}(hx:E.ty e=aj ti)(jG:F<900000000)(mn:σ (cX nm)= .o (.box xs))(hF:σ (cX F)= .jH)(hc:xs[j]? =aj .nl)(h:At P E N σ0 c0 w0 σ a w c):
  ∃c',At P E N σ0 c0 w0 (o_ (o_ σ (cX nm) (.o (.box (xs.set j (.own F))))) (cX F) (.o (.row e ak []))) a w c':=by
 let c':eO:=⟨λn=>if n=F then⟨ak,0,0,0,0,ti.ks.length⟩else c.P n,λn=>if n=F then(λ_ _=>⟨ak,0,0,0,0,0⟩)else c.G n,c.K⟩
 have hP:c'.P F=⟨ak,0,0,0,0,ti.ks.length⟩:=bC rfl;have hA:jj σ c c':=λm hm=>by
  have:m≠F:=by rintro rfl;rcases hm with h|h;exact h hF;omega
  exact⟨bM this,bM this⟩
 have hnF:nm≠F:=by rintro rfl;rw[mn]at hF;cases hF
 have hPn:c'.P nm=c.P nm:=bM hnF;let σ':=o_ (o_ σ (cX nm) (.o (.box (xs.set j (.own F))))) (cX F) (.o (.row e ak []));have key:∀m,σ' (cX m)=if m=F then .o (.row e ak [])else if m=nm then .o (.box (xs.set j (.own F)))else σ (cX m):=λm=>by show o_ _ _ _ _=_;rw[pB,pB]
 have ic:∀m,σ (cX m)≠ .jH->σ' (cX m)≠ .jH:=λm hm=>by
  rw[key];by_cases h1:m=F
  ·rw[bC h1];simp
  ·rw[bM h1];by_cases h2:m=nm
   ·rw[bC h2];simp
   ·rw[bM h2];exact hm
 have noI:∀i j,¬fZ [] i j:=λi j ⟨y,x,hy,_⟩=>by simp at hy
 have foF:∀b,¬fu c' F (.row e ak []) b:=by
  rintro b (⟨h1,_⟩|⟨_,i,j,h1,_⟩)
  ·rw[hP]at h1;cases h1
  ·exact noI i j h1
 obtain⟨vals,hb,fX,hv⟩:=h.ok.obj nm _ mn
 have hh:=h.ok.change (σ':=σ') (w':=w) (c':=c') (λm=>m=F\/m=nm)
  (λm hm=>by rw[key,bM (λe=>hm (.inl e)),bM (λe=>hm (.inr e))]) ic hA (λ_ _ _=>rfl) (cu _) (λ_ h=>h) (λ_ h=> .inl h) h.ok.lt
  (λm o hm ho=>by
   rw[key]at ho;by_cases Hd:m=F
   ·rw[bC Hd]at ho;cases ho;subst Hd;refine⟨⟨ti,hx,by rw[hP],λy hy=>by cases hy⟩,⟨by rw[hP];rfl,λ_=>⟨rfl,by rw[hP]⟩,λhn=>by rw[hP]at hn;cases hn⟩,λ_=>⟨λi j hi=>cq hi (noI i j),λi j _ _ hi=>cq hi (noI i j)⟩⟩
   ·have hmn:=hm.resolve_left Hd;subst hmn;rw[bM Hd,bC rfl]at ho;cases ho;refine⟨vals,by rw[hPn];exact hb,by rw[cw];exact fX,λk y hk=> ?_⟩
    by_cases hkj:j=k
    ·subst hkj;have hl:j<xs.length:=(aU.1 hc).1;rw[List.getElem?_set_self hl]at hk;cases hk;obtain⟨u,hu,TM⟩:=hv j _ hc;exact⟨u,hu,by show u=lh (c'.P F);rw[hP];exact TM⟩
    ·rw[List.getElem?_set_ne hkj]at hk;obtain⟨u,hu,TM⟩:=hv k y hk;exact⟨u,hu,TM.frame (λ_ _=>rfl) (λ_ h=>h) (λn hn=>hA n (.inl (h.ok.kn m xs mn y (aQ hk) n hn)))⟩)
  (λm o b hm ho hf=>by
   rw[key]at ho;by_cases Hd:m=F
   ·rw[bC Hd]at ho;cases ho;subst Hd;exact cq hf (foF b)
   ·have hmn:=hm.resolve_left Hd;subst hmn;rw[bM Hd,bC rfl]at ho;cases ho;have hf:b=(c'.P m).blk:=hf;rw[hPn]at hf;exact⟨.inl ⟨m,_, .inr rfl,mn,hf⟩,λhk=>h.ok.kk m _ b mn hf hk⟩)
  (λm o m' o' b hm vN ho ue hf wC=>by
   rw[key]at ho ue;by_cases Hd:m=F
   ·rw[bC Hd]at ho;cases ho;subst Hd;exact cq hf (foF b)
   ·by_cases abw:m'=F
    ·rw[bC abw]at ue;cases ue;subst abw;exact cq wC (foF b)
    ·rw[hm.resolve_left Hd,vN.resolve_left abw])
  (λm ys hm ho y hy n hn=>by
   rw[key]at ho;by_cases Hd:m=F
   ·rw[bC Hd]at ho;cases ho
   ·have hmn:=hm.resolve_left Hd;subst hmn;rw[bM Hd,bC rfl]at ho;cases ho;rcases gV hy with hy|hy
    ·exact ic n (h.ok.kn m xs mn y hy n hn)
    ·subst hy;rw[show n=F from by simpa [bJ]using hn,key,bC rfl];simp) rfl rfl rfl
 have sl:=h.sl.change h.ok hh.2 hA ic ({(default:e8)with dst:=none}) undef (λn _=>by show slot (o_ _ _ _) n=_;rw[i9,i9]) (λd hd=>by cases hd);exact⟨c',hh.1,sl,h.sz,h.gr.trans hh.2,h.ag.trans hA.w.aga⟩
theorem Rg{α:Type}{N:aG}{σ0:St}{c0:eO}{w0:bF}{x:aG}(hx:∃ti,E.ty (kTy x)=aj ti)(h:At P E N σ0 c0 w0 σ a w c):∃σ' c',At P E N σ0 c0 w0 σ' a w c'/\∀f:St->α,yT x σ f=f σ':=by
 obtain⟨ti,hx⟩:=hx;have jG:kNm x<900000000:=by unfold kNm;have:=BV (x/1000) (show 1000000>0 by omega);omega
 have no:(∀f:St->α,yT x σ f=f σ)->∃σ' c',At P E N σ0 c0 w0 σ' a w c'/\∀f:St->α,yT x σ f=f σ':=λe=>⟨σ,c,h,e⟩
 cases hs:slot σ (YM x)with
 |v g l=>
  by_cases hm:∃nm xs,g=aq/\l=[.bp nm 0]/\σ (cX nm)= .o (.box xs)/\σ (cX (kNm x))= .jH/\xs[QZ x]? =aj .nl
  ·obtain⟨nm,xs,rfl,rfl,mn,hF,hc⟩:=hm;obtain⟨c',h'⟩:=afU hx jG mn hF hc h;exact⟨_,c',h',λf=>by unfold yT;rw[hs];simp only[mn,hF,hc,nb]⟩
  ·refine no λf=> ?_;unfold yT;rw[hs];split
   ·rename_i nm he;cases he;split
    ·rename_i xs h1 h2;split
     ·rename_i h3;exact cq ⟨nm,xs,rfl,rfl,h1,h2,h3⟩ hm
     ·rfl
    ·rfl
   ·rfl
 |je l=>exact no λf=>by unfold yT;rw[hs]
 |un=>exact no λf=>by unfold yT;rw[hs]
theorem Bf{α:Type}{N:aG}{σ0:St}{c0:eO}{w0:bF}:∀(keep:aA aG) (σ:St) (c:eO) (hk:∀x∈keep,Vg x=ak->∃ti,E.ty (kTy x)=aj ti) (h:At P E N σ0 c0 w0 σ a w c),∃σ' c',At P E N σ0 c0 w0 σ' a w c'/\∀f:St->α,LH keep σ f=f σ'
 |[],σ,c,_,h=>⟨σ,c,h,λ_=>rfl⟩
 |x::r,σ,c,hk,h=>by
  cases hx:Vg x with
  |false=>obtain⟨σ',c',h',e⟩:=Bf r σ c (λy hy=>hk y (cW _ hy)) h;exact⟨σ',c',h',λf=>by show(bif Vg x then _ else _)=_;rw[hx];exact e f⟩
  |true=>obtain⟨σ1,c1,h1,e1⟩:=Rg (α:=α) (hk x (dy ..) hx) h;obtain⟨σ',c',h',e⟩:=Bf r σ1 c1 (λy hy=>hk y (cW _ hy)) h1;exact⟨σ',c',h',λf=>by show(bif Vg x then _ else _)=_;rw[hx,ay,e1,e]⟩
theorem GI{N:aG}{σ0:St}{c0:eO}{w0:bF}{keep:aA aG}(hk:∀x∈keep,Vg x=ak->∃ti,E.ty (kTy x)=aj ti)(h:At P E N σ0 c0 w0 σ a w c):∃c',At P E N σ0 c0 w0 (canon keep σ) a w c':=by obtain⟨σ',c1,h1,e⟩:=Bf (α:=aA (aG×eE)) keep σ c hk h;unfold canon IX;rw[e,oj];exact MH h1
theorem Q2{n:aG}:∀x∈E.yR n,Vg x=ak->∃ti,E.ty (kTy x)=aj ti:=by
 intro x hx hk;have:=(du.1 hx).2;rw[hk,ay]at this;cases h:E.ty (kTy x)with
 |some ti=>exact⟨ti,rfl⟩
 |none=>rw[h]at this;cases this
end
end Go.FG

namespace Go.FG
def aa7:Ex->Exit| .normal=> .normal| .exit id=> .exit id| .ret=> .ret
def sd(N:aG):Code->aY
 | .region _ os _=>os.toList.all λo=>match o.dst with|some d=>pX d N|none=>ak
 | .seq a b=>sd N a&&sd N b
 | .cond _ a b=>sd N a&&sd N b
 | .block _ c=>sd N c
 | .loop c=>sd N c
 |_=>ak
theorem least{p:aG->Prop}(h:∃n,p n):∃n,p n/\∀k,p k->n<=k:=by
 obtain⟨n,hn⟩:=h;induction n using Nat.strongRecOn with
 |_ n ih=>
  by_cases hm:∃m,m<n/\p m
  ·obtain⟨m,h1,h2⟩:=hm;exact ih m h1 h2
  ·exact⟨n,hn,λk hk=>by
    rcases qt k n with h|h
    ·exact cq ⟨k,h,hk⟩ hm
    ·exact h⟩
section
variable {P:cR} {E:fF}
def cB(E:fF){R:Type}(it:It R)(c:Code):Prop:=∀L K r,it (gm c) (se E it c) (canon (E.yR (gm c))) L K=aj r->∃n,iter (se E it c) (canon (E.yR (gm c))) n (fO L) K=aj r
theorem aa6(hE:eg P E)(hF:∀g,cF P E g (E.call g))(hm:P.follows .mixedOrders=ak){R:Type}{N:aG}{σ0:St}{c0:eO}{w0:bF}{it:It R}{r:R}:∀(code:Code),(∀c∈jD code,cB E it c)->∀(σ:St) (K:Ex->St->aC R) (Q:Exit->Act->bF->Prop),se E it code σ K=aj r->sd N code=ak->
  (∀e σ' a w c,K e σ'=aj r->At P E N σ0 c0 w0 σ' a w c->Q (aa7 e) a w)->∀a w c,At P E N σ0 c0 w0 σ a w c->code.wp P Q a w:=by
 intro code;induction code with
 |skip=>intro _ σ K Q h _ hQ a w c fW;exact wp_skip (hQ .normal σ a w c h fW)
 |region id os draw=>intro A3 σ K Q h hb hQ a w c fW;refine Ny hE hF hm h (λo ho d hd=> ?_) (λσ' a w c hk fW=>hQ .normal σ' a w c hk fW) fW;have:=bn.1 hb o ho;rw[hd]at this;have this:pX d N=true:=this;simpa [zc]using this
 |seq x y ihx ihy=>
  intro A3 σ K Q h hb hQ a w c fW;simp only[sd,aK]at hb;refine wp_seq (ihx (λc hc=>A3 c (bO _ hc)) σ _ _ h hb.1 (λe σ' a w c hk fW=> ?_) a w c fW);cases e with
  |normal=>exact ihy (λc hc=>A3 c (bI _ hc)) σ' K Q hk hb.2 hQ a w c fW
  |exit id=>exact hQ (.exit id) σ' a w c hk fW
  |ret=>exact hQ .ret σ' a w c hk fW
 |cond cnd x y ihx ihy=>
  intro A3 σ K Q h hb hQ a w c fW;simp only[sd,aK]at hb;cases cnd with
  |tmp t=>
   unfold se at h;dsimp only at h;split at h
   ·rename_i b hs;have h1:=fW.sl.ok t;have:slot σ t= .v aq [.b b]:=by unfold slot;rw[hs]
    rw[this]at h1;have h1:a.eval (.tmp t)= .bool b:=h1;cases b with
    |true=>have h:se E it x (o_ σ (pS t) (.v (.v aq [.b ak]))) K=aj r:=h;rw[BN hs]at h;exact wp_cond_true h1 (ihx (λc hc=>A3 c (bO _ hc)) σ K Q h hb.1 hQ a w c fW)
    |false=>have h:se E it y (o_ σ (pS t) (.v (.v aq [.b aq]))) K=aj r:=h;rw[BN hs]at h;exact wp_cond_false h1 (ihy (λc hc=>A3 c (bI _ hc)) σ K Q h hb.2 hQ a w c fW)
   ·cases h
  |_=>simp[se]at h
 |block id x ih=>
  intro A3 σ K Q h hb hQ a w c fW;refine wp_block (ih A3 σ _ _ h hb (λe σ' a w c hk fW=> ?_) a w c fW);cases e with
  |normal=>exact hQ .normal σ' a w c hk fW
  |ret=>exact hQ .ret σ' a w c hk fW
  |exit j=>
   have hk:(bif bA j id then K .normal σ' else K (.exit j) σ')=aj r:=hk;show Gh id Q (.exit j) a w;cases hj:bA j id with
   |true=>rw[hj]at hk;have Hb:=aX hj;have h1:Q .normal a w:=hQ .normal σ' a w c hk fW;simp only[Gh,Hb,if_true];exact h1
   |false=>
    rw[hj]at hk;have ic:j≠id:=λe=>by subst e;simp at hj
    have h1:Q (.exit j) a w:=hQ (.exit j) σ' a w c hk fW;simp only[Gh,ic,if_false];exact h1
 |loop x ih=>
  intro A3 σ K Q h hb hQ a w c fW;obtain⟨n,h⟩:∃n,iter (se E it x) (canon (E.yR (gm x))) n (canon (E.yR (gm x)) σ) K=aj r:=A3 x (dy ..) _ K r h;let f:=se (R:=R) E it x;let cn:=canon (E.yR (gm x));let p:Act->bF->aG->Prop:=λa w m=>∃σ c,iter f cn m σ K=aj r/\At P E N σ0 c0 w0 σ a w c;let mu:Act->bF->aG:=λa w=>open Classical in if h:∃m,p a w m then(least h).choose else 0
  have hmu:∀a w,(∃m,p a w m)->p a w (mu a w)/\∀k,p a w k->mu a w<=k:=by
   intro a w h;have:mu a w=(least h).choose:=by simp only[mu];rw[dif_pos h]
   rw[this];exact(least h).choose_spec
  obtain⟨c1,aml⟩:=GI (keep:=E.yR (gm x)) Q2 fW;refine wp_loop (λa w=>∃m,p a w m) mu ⟨n,_,c1,h,aml⟩ (λa w hI=> ?_);obtain⟨⟨σ1,c2,h1,n8⟩,hle⟩:=hmu a w hI;cases hm0:mu a w with
  |zero=>rw[hm0]at h1;cases h1
  |succ m=>
   rw[hm0]at h1;refine ih (λc hc=>A3 c (cW _ hc)) σ1 _ _ h1 hb (λe σ' a' w' c' hk zn=> ?_) a w c2 n8;obtain⟨c3,abi⟩:=GI (keep:=E.yR (gm x)) Q2 zn;cases e with
   |normal=>
    have hp:p a' w' m:=⟨_,c3,hk,abi⟩
    refine⟨⟨m,hp⟩, ?_⟩
    have:=(hmu a' w' ⟨m,hp⟩).2 m hp;omega
   |exit id=>exact hQ (.exit id) _ a' w' c3 hk abi
   |ret=>exact hQ .ret _ a' w' c3 hk abi
 |exit id=>intro _ σ K Q h _ hQ a w c fW;exact wp_exit (hQ (.exit id) σ a w c h fW)
 |ret=>intro _ σ K Q h _ hQ a w c fW;exact wp_ret (hQ .ret σ a w c h fW)
 |_=>intro _ σ K Q h;simp[se]at h
end
end Go.FG

namespace Go.FG
structure jk where
 aa:AA
 tk:aA aG
 fz:aA aG
 p:Pl
 g:aG->aG->Pl
 u:bg
section
variable {P:cR} {E:fF} {σ:St} {a:Act} {w:bF} {c:eO}
def jB(T:Tab)(σ:St)(w:bF)(c:eO)(r:jk):Prop:=
 (∃e ex ys te,r.aa= .ow e ex ys/\r.fz=[]/\T.ty e=aj te/\r.u=lh r.p/\r.p.sz=te.ks.length/\(∀y∈ys,y.map CV.kd=te.ks)/\iV w r.p ys (λi j u x=>if ex=ak then XC T w r.g i j u x else cZ T w c.K u x)/\(ex=ak->DV r.p r.g ys)/\
  (r.p.nil=aq->∃n ob,n∈r.tk/\σ (cX n)= .o ob/\fu c n ob r.p.blk)/\(ex=ak->∀i j,fZ ys i j->(r.g i j).nil=aq->∃n ob,n∈r.tk/\σ (cX n)= .o ob/\fu c n ob (r.g i j).blk))\/
 (r.tk=[]/\(∀n∈r.fz,∃el ex xs,σ (cX n)= .o (.row el ex xs))/\(∀e ex xs,r.aa≠ .ow e ex xs)/\(∀xs,r.aa≠ .kp xs)/\∀c3:eO,(∀b,K1r σ c r.fz b->c3.K b)->∀nm,ej T w c3 (kQ nm r.aa) r.u)
theorem G0(b8:Ok E σ w c){om:Om}{k:Ck}{x:AV}{u:bg}{aa:AA}{tk fz:aA aG}(h:yO E om σ k x=aj (aa,tk,fz))(hx:ej E w c x u):∃p g,jB E σ w c ⟨aa,tk,fz,p,g,u⟩:=by
 let nl:Pl:=⟨ak,0,0,0,0,0⟩
 have OW:∀e ex ys tk,(vB e x).val σ=aj (ex,ys,tk)->(∃te,E.ty e=aj te)->∃p g,jB E σ w c ⟨.ow e ex ys,tk,[],p,g,u⟩:=by rintro e ex ys tk hb ⟨te,ht⟩;obtain⟨p,g,hB⟩:=AF b8 ht hx hb;exact⟨p,g, .inl ⟨e,ex,ys,te,rfl,rfl,ht,hB.v,hB.sz,hB.sh,hB.at_,hB.inn,hB.own,hB.owni⟩⟩
 have SH:∀aa fz,(∀n∈fz,∃el ex xs,σ (cX n)= .o (.row el ex xs))->(∀e ex xs,aa≠ .ow e ex xs)->(∀xs,aa≠ .kp xs)->(∀c3:eO,(∀b,K1r σ c fz b->c3.K b)->∀nm,ej E w c3 (kQ nm aa) u)->∃p g,jB E σ w c ⟨aa,[],fz,p,g,u⟩:=
  λaa fz h1 h2 h3 h4=>⟨nl,λ_ _=>nl, .inr ⟨rfl,h1,h2,h3,h4⟩⟩
 have Ri:∀n∈([]:aA aG),∃el ex xs,σ (cX n)= .o (.row el ex xs):=λn hn=>by cases hn
 have HT:∀e,yP E e=ak->∃te,E.ty e=aj te:=λe he=>by
  unfold yP at he;cases ht:E.ty e with
  |none=>rw[ht]at he;cases he
  |some te=>exact⟨te,rfl⟩
 have frz:∀{n el:aG} {ex:aY} {xs:aW},σ (cX n)= .o (.row el ex xs)->∀c3:eO,(∀b,K1r σ c [n] b->c3.K b)->(∀b,c.K b->c3.K b)/\∀b,fu c n (.row el ex xs) b->c3.K b:=λhg c3 h=>⟨λb hb=>h b (.inl hb),λb hb=>h b (.inr ⟨_,aZ.2 rfl,_,hg,hb⟩)⟩
 have fst:∀{n el:aG} {ex:aY} {xs:aW},σ (cX n)= .o (.row el ex xs)->∀m∈[n],∃el ex xs,σ (cX m)= .o (.row el ex xs):=λhg m hm=>by rw[aZ]at hm;subst hm;exact⟨_,_,_,hg⟩
 cases x with
 |i k n=>cases h;exact SH _ _ Ri (λ_ _ _ h=>by cases h) (λ_ h=>by cases h) (λc3 _ _=>hx)
 |b y=>cases h;exact SH _ _ Ri (λ_ _ _ h=>by cases h) (λ_ h=>by cases h) (λc3 _ _=>hx)
 |s y=>cases h;exact SH _ _ Ri (λ_ _ _ h=>by cases h) (λ_ h=>by cases h) (λc3 _ _=>hx)
 |sh e xs=>
  cases om with
  |own=>cases h
  |nat=>cases h;exact SH _ _ Ri (λ_ _ _ h=>by cases h) (λ_ h=>by cases h) (λc3 h3 _=>cZ.frame hx (λ_ _=>rfl) (λb hb=>h3 b (.inl hb)))
  |sh=>cases h;exact SH _ _ Ri (λ_ _ _ h=>by cases h) (λ_ h=>by cases h) (λc3 h3 _=>cZ.frame hx (λ_ _=>rfl) (λb hb=>h3 b (.inl hb)))
 |nl=>
  have hx:u= .slice ao 0 0:=hx;cases om with
  |own e=>
   have h:(bif yP E e then aj (AA.ow e ak [],([]:aA aG),([]:aA aG))else ao)=aj (aa,tk,fz):=h;cases ht:yP E e with
   |false=>rw[ht]at h;cases h
   |true=>rw[ht]at h;cases h;exact OW e ak [] [] rfl (HT e ht)
  |sh e=>cases h;exact SH _ _ Ri (λ_ _ _ h=>by cases h) (λ_ h=>by cases h) (λc3 _ _=>by rw[hx];exact cZ.nl _ _ _)
  |nat=>
   cases k with
   |l e=>
    have h:(bif yP E e then aj (AA.ow e ak [],([]:aA aG),([]:aA aG))else ao)=aj (aa,tk,fz):=h;cases ht:yP E e with
    |false=>rw[ht]at h;cases h
    |true=>rw[ht]at h;cases h;exact OW e ak [] [] rfl (HT e ht)
   |_=>cases h;exact SH _ _ Ri (λ_ _ _ h=>by cases h) (λ_ h=>by cases h) (λc3 _ _=>hx)
 |own n=>
  unfold yO at h;dsimp only at h;cases ho:σ (cX n)with
  |v=>rw[ho]at h;cases h
  |jH=>rw[ho]at h;cases h
  |o ob=>
   rw[ho]at h;have hu:u=lh (c.P n):=hx;cases ob with
   |row e ex xs=>
    obtain⟨_,_,ti,ht,_⟩:=kL b8 ho;have hb:(vB e (.own n)).val σ=aj (ex,xs,[n]):=by simp[vB,jq,ho]
    cases om with
    |sh e'=>cases h;refine SH _ _ (fst ho) (λ_ _ _ h=>by cases h) (λ_ h=>by cases h) (λc3 h3 _=> ?_);obtain⟨r1,r2⟩:=frz ho c3 h3;rw[hu];exact qX b8 ho r1 r2
    |nat=>cases h;exact OW e ex xs [n] hb ⟨ti,ht⟩
    |own=>cases h;exact OW e ex xs [n] hb ⟨ti,ht⟩
   |fI e xs=>
    have hh:cZ E w c.K u (.l e xs):=by rw[hu];exact(b8.obj n _ ho).1
    cases om with
    |own=>cases h
    |nat=>cases h;exact SH _ _ Ri (λ_ _ _ h=>by cases h) (λ_ h=>by cases h) (λc3 h3 _=>cZ.frame hh (λ_ _=>rfl) (λb hb=>h3 b (.inl hb)))
    |sh=>cases h;exact SH _ _ Ri (λ_ _ _ h=>by cases h) (λ_ h=>by cases h) (λc3 h3 _=>cZ.frame hh (λ_ _=>rfl) (λb hb=>h3 b (.inl hb)))
   |_=>cases h
 |vw n lo hi=>
  unfold yO at h;dsimp only at h;cases ho:σ (cX n)with
  |v=>rw[ho]at h;cases h
  |jH=>rw[ho]at h;cases h
  |o ob=>
   rw[ho]at h;cases ob with
   |row e ex xs=>
    obtain⟨_,_,ti,ht,_⟩:=kL b8 ho;have hb:(vB e (.vw n lo hi)).val σ=aj (ex,eT xs lo hi,[n]):=by simp[vB,jq,ho]
    cases om with
    |sh e'=>cases h;refine SH _ _ (fst ho) (λ_ _ _ h=>by cases h) (λ_ h=>by cases h) (λc3 h3 _=> ?_);obtain⟨r1,r2⟩:=frz ho c3 h3;exact DJ b8 ho r1 r2 hx
    |nat=>cases h;exact OW e ex _ [n] hb ⟨ti,ht⟩
    |own=>cases h;exact OW e ex _ [n] hb ⟨ti,ht⟩
   |fI e xs=>
    have hh:cZ E w c.K u (.l e (eT xs lo hi)):=oL b8 ho hx;cases om with
    |own=>cases h
    |nat=>cases h;exact SH _ _ Ri (λ_ _ _ h=>by cases h) (λ_ h=>by cases h) (λc3 h3 _=>cZ.frame hh (λ_ _=>rfl) (λb hb=>h3 b (.inl hb)))
    |sh=>cases h;exact SH _ _ Ri (λ_ _ _ h=>by cases h) (λ_ h=>by cases h) (λc3 h3 _=>cZ.frame hh (λ_ _=>rfl) (λb hb=>h3 b (.inl hb)))
   |_=>cases h
 |_=>simp[yO]at h
theorem Dg(b8:Ok E σ w c){q:aG}:∀{xs:aA AV} {j0:aG} {ks:aA Ck} {l:aA AA} {tk fz:aA aG} {vals:di bg},sg E q σ j0 ks xs=aj (l,tk,fz)->fQ E w c vals xs->
  ∃cs:aA jk,l=cs.map (·.aa)/\tk=cs.flatMap (·.tk)/\fz=cs.flatMap (·.fz)/\cs.length=xs.length/\∀(j:aG) (r:jk),cs[j]? =aj r->vals[j]? =aj r.u/\jB E σ w c r:=by
 intro xs;induction xs with
 |nil=>intro j0 ks l tk fz vals h _;cases h;exact⟨[],rfl,rfl,rfl,rfl,λj r h=>by simp at h⟩
 |cons x xs ih=>
  intro j0 ks l tk fz vals h hv;unfold sg at h;split at h
  ·rename_i aa t f as ts fs h1 h2;cases h;obtain⟨u,hu,ha⟩:=hv.2 0 x rfl;obtain⟨p,g,hc⟩:=G0 b8 h1 ha;have Lw:fQ E w c (vals.extract 1 vals.size) xs:=by
    refine⟨by simp;have:=hv.1;simp at this;omega,λj b hj=> ?_⟩
    obtain⟨u,hu,hb⟩:=hv.2 (j+1) b hj;refine⟨u, ?_,hb⟩
    have:=(dQ.1 hu).1;rw[dW,bC (by omega),iL];exact hu
   obtain⟨cs,rfl,rfl,rfl,i4,i5⟩:=ih h2 Lw;refine⟨⟨aa,t,f,p,g,u⟩::cs,rfl,rfl,rfl,by simp[i4],λj r hj=> ?_⟩
   cases j with
   |zero=>cases hj;exact⟨hu,hc⟩
   |succ j=>
    obtain⟨r1,r2⟩:=i5 j r hj;refine⟨?_,r2⟩
    rw[dW]at r1;split at r1
    ·rw[iL];exact r1
    ·cases r1
  ·cases h
end
end Go.FG

namespace Go.FG
structure kF where
 box:aC aG
 agg:aY
 cs:aA jk
 v:bg
def kF.arg(R:kF):eV:=match R.box with|some _=> .pt (R.cs.map (·.aa))|none=> .v R.agg (R.cs.map (·.aa))
def kF.tk(R:kF):aA aG:=R.box.toList++R.cs.flatMap (·.tk)
def kF.fz(R:kF):aA aG:=R.cs.flatMap (·.fz)
def yo(rv:ResultVar)(tmps:di bg):Sem bg:=match rv with| .tmp t=>pure (tmps.getD t undef)| .cell a t=>do loadVar t (<-asAddr (tmps.getD a undef))
section
variable {P:cR} {E:fF} {σ:St} {a:Act} {w:bF} {c:eO}
def Ap(T:Tab)(σ:St)(w:bF)(c:eO)(R:kF):Prop:=
 (∃nm xs vals,R.box=aj nm/\σ (cX nm)= .o (.box xs)/\R.v= .pointer (aj (ad (c.P nm).blk 0))/\nq w (c.P nm).blk vals/\vals.size=R.cs.length/\∀(j:aG) (r:jk),R.cs[j]? =aj r->vals[j]? =aj r.u/\jB T σ w c r)\/
 (R.box=ao/\((R.agg=aq/\∃r,R.cs=[r]/\r.u=R.v/\jB T σ w c r)\/(R.agg=ak/\∃vals:di bg,R.v= .agg vals/\vals.size=R.cs.length/\∀(j:aG) (r:jk),R.cs[j]? =aj r->vals[j]? =aj r.u/\jB T σ w c r)))
theorem G1(b8:Ok E σ w c){q:aG}{ks:aA Ck}{s:SV}{v:bg}{x:eV}{tk fz:aA aG}(h:Lf E q σ ks s=aj (x,tk,fz))(hs:iW E w c s v):∃R:kF,R.arg=x/\R.tk=tk/\R.fz=fz/\R.v=v/\Ap E σ w c R:=by
 have gen:∀g xs,s= .v g xs->(match sg E q σ 0 ks xs with|some (l,ns,ms)=>aj (eV.v g l,ns,ms)|none=>ao)=aj (x,tk,fz)->∃R:kF,R.arg=x/\R.tk=tk/\R.fz=fz/\R.v=v/\Ap E σ w c R:=by
  rintro g xs rfl h;cases hf:sg E q σ 0 ks xs with
  |none=>rw[hf]at h;cases h
  |some t=>
   obtain⟨l,ns,ms⟩:=t;rw[hf]at h;cases h;obtain⟨cs,rfl,rfl,rfl,h4,h5⟩:=Dg b8 hf (pM.cells hs);refine⟨⟨ao,g,cs,v⟩,rfl,by simp[kF.tk],rfl,rfl, .inr ⟨rfl, ?_⟩⟩
   replace hs:pM E w c g xs v:=hs;have vO:∀y,pM E w c aq [y] v->v.cells= #[v]:=λy hy=>Da (ej.one hy);unfold pM at hs;split at hs
   ·rename_i y;obtain⟨r,rfl⟩:=gF.1 (h4.trans rfl);obtain⟨h6,h7⟩:=h5 0 r rfl;rw[vO y hs]at h6;exact .inl ⟨rfl,r,rfl,by simpa using h6.symm,h7⟩
   ·obtain⟨vals,rfl,fX,_⟩:=hs;exact .inr ⟨rfl,vals,rfl,by rw[fX];exact h4.symm,h5⟩
   ·exact hs.elim
 unfold Lf at h;split at h
 ·rename_i nm;cases ho:σ (cX nm)with
  |v=>rw[ho]at h;cases h
  |jH=>rw[ho]at h;cases h
  |o ob=>
   rw[ho]at h;cases ob with
   |box xs=>
    dsimp only at h;cases hf:sg E q σ 0 [] xs with
    |none=>rw[hf]at h;cases h
    |some t=>obtain⟨l,ns,ms⟩:=t;rw[hf]at h;cases h;obtain⟨vals,hb,fX,hv⟩:=b8.obj nm _ ho;obtain⟨cs,rfl,rfl,rfl,h4,h5⟩:=Dg b8 hf ⟨fX,hv⟩;exact⟨⟨aj nm,aq,cs,v⟩,rfl,rfl,rfl,rfl, .inl ⟨nm,xs,vals,rfl,ho,hs,hb,by rw[fX];exact h4.symm,h5⟩⟩
   |_=>cases h
 ·exact gen _ _ rfl h
 ·cases h
theorem HO(hE:eg P E){t:aG}{ti:TI}(ht:E.ty t=aj ti){b:aG}{vals:di bg}(hb:nq w b vals)(hl:vals.size=ti.ks.length):(loadVar t (ad b 0)).run P w= .ok (if ti.agg=ak then .agg vals else vals.toList.headD .nilIface) w:=by
 have h:=BD (P:=P) w hE ht (b:=b) (o:=0) (cs:=vals.toList) (by simpa using hl) (λj v hj=>by rw[bT,hb.cell];simpa using hj);have e:(wN t (.pointer (aj (ad b 0)))).run P w=(loadVar t (ad b 0)).run P w:=by simp only[wN,tD,cg,cM,bB]
 rw[<-e,h]
theorem R9(hE:eg P E)(b8:Ok E σ w c)(dD:e_ E σ a w c){q:aG}{rv:ResultVar}{t:aG}{x:eV}{tk fz:aA aG}(h:R8 E q σ rv t=aj (x,tk,fz)):∃R:kF,R.arg=x/\R.tk=tk/\R.fz=fz/\Ap E σ w c R/\(yo rv a.tmps).run P w= .ok R.v w:=by
 unfold R8 at h;cases ht:E.ty t with
 |none=>rw[ht]at h;cases h
 |some ti=>
  rw[ht]at h;cases rv with
  |tmp s=>obtain⟨R,h1,h2,h3,h4,h5⟩:=G1 b8 h (dD.ok s);exact⟨R,h1,h2,h3,h5,by rw[h4];rfl⟩
  |cell b t'=>
   dsimp only at h;split at h
   ·rename_i S_ nm ht' hs;split at h
    ·rename_i xs ho;cases hb:bA xs.length S_.ks.length with
     |false=>rw[hb]at h;cases h
     |true=>
      rw[hb]at h;have hlen:=aX hb;have hv:a.eval (.tmp b)= .pointer (aj (ad (c.P nm).blk 0)):=by have:=dD.ok b;rw[hs]at this;exact this
      obtain⟨vals,hbl,fX,XZ⟩:=b8.obj nm _ ho;have QG:=HO (P:=P) (w:=w) hE ht' hbl (by rw[fX];exact hlen);have am9:iW E w c (.v S_.agg xs) (if S_.agg=ak then .agg vals else vals.toList.headD .nilIface):=by
       show pM E w c S_.agg xs _;cases s7:S_.agg with
       |true=>rw[bC rfl];exact⟨vals,rfl,fX,XZ⟩
       |false=>
        obtain⟨d,_,_,hn⟩:=hE.desc t' S_ ht';have h1:S_.ks.length=1:=by rcases hn s7 with ⟨k,h,_⟩|⟨h,_⟩|⟨h,_⟩|⟨e',h,_⟩|⟨h,_⟩<;>simp[h]
        obtain⟨y,rfl⟩:=gF.1 (hlen.trans h1);obtain⟨u,hu,ha⟩:=XZ 0 y rfl;have rA:vals.toList[0]? =aj u:=by simpa using hu
        have:vals.toList.headD .nilIface=u:=by
         cases hl:vals.toList with
         |nil=>rw[hl]at rA;cases rA
         |cons z l=>rw[hl]at rA;cases rA;rfl
        rw[bM (by simp),this];exact ha
      obtain⟨R,h1,h2,h3,h4,h5⟩:=G1 b8 h am9;refine⟨R,h1,h2,h3,h5, ?_⟩
      rw[h4,<-QG];have:a.tmps.getD b undef= .pointer (aj (ad (c.P nm).blk 0)):=hv;simp only[yo,this,asAddr,cg,cM,bB]
    ·cases h
   ·cases h
theorem NA(hE:eg P E)(b8:Ok E σ w c)(dD:e_ E σ a w c):∀{rs:aA ResultVar} {q:aG} {ts:aA aG} {as:aA eV} {tk fz:aA aG},Bw E σ q rs ts=aj (as,tk,fz)->∃RL:aA kF,as=RL.map (·.arg)/\tk=RL.flatMap (·.tk)/\fz=RL.flatMap (·.fz)/\(∀R∈RL,Ap E σ w c R)/\RL.length=rs.length/\(rs.mapM (λrv=>yo rv a.tmps)).run P w= .ok (RL.map (·.v)) w:=by
 intro rs;induction rs with
 |nil=>intro q ts as tk fz h;cases h;exact⟨[],rfl,rfl,rfl,λR h=>(by cases h),rfl,by simp⟩
 |cons rv rs ih=>
  intro q ts as tk fz h;unfold Bw at h;split at h
  ·rename_i x l m as' ls ms h1 h2;cases h;obtain⟨R,rfl,rfl,rfl,r4,r5⟩:=R9 hE b8 dD h1;obtain⟨RL,rfl,rfl,rfl,i4,i5,i6⟩:=ih h2;refine⟨R::RL,rfl,rfl,rfl,λR' hR=> ?_,by simp[i5], ?_⟩
   ·rcases cz.1 hR with rfl|hR
    ·exact r4
    ·exact i4 R' hR
   ·simp only[Ug,cg,r5,i6,bB,cM,e9]
  ·cases h
def Bx(vs:aA bg):bg:=match vs with|[v]=>v|l=> .tuple l.toArray
theorem HQ{fn:Func}{vs:aA bg}(h:(fn.results.toList.mapM (λrv=>yo rv a.tmps)).run P w= .ok vs w):(results fn a.tmps).run P w= .ok (Bx vs) w:=by
 have e:(fn.results.mapM (λrv=>yo rv a.tmps)).run P w= .ok vs.toArray w:=by rw[Array.mapM_eq_mapM_toList];simp[h]
 have:results fn a.tmps=(do let vs<-fn.results.mapM (λrv=>yo rv a.tmps);pure (if h:vs.size=1 then vs[0]else .tuple vs)):=rfl;rw[this];simp only[cg,e,bB,cM];match vs with
 |[]=>rfl
 |[v]=>rfl
 |_::_::_=>rfl
end
end Go.FG

namespace Go.FG
structure mh where
 box:aY
 cs:aA jk
def mh.l(O:mh):aA AA:=O.cs.map (·.aa)
def mh.ns(O:mh)(p:aG):aA aG:=(if O.box=ak then [dO p 900]else [])++O.cs.flatMap (·.tk)
def mh.ms(O:mh):aA aG:=O.cs.flatMap (·.fz)
section
variable {P:cR} {E:fF} {σ:St} {a:Act} {w:bF} {c:eO}
def Kept(σ:St)(p j:aG)(xs:aA AA)(r:jk):Prop:=∃e ex z ys,xs[j]? =aj (.ow e ex z)/\r.aa= .kp ys/\r.tk=[dO p j]/\r.fz=[]/\σ (cX (dO p j))= .o (.row e ex ys)
def Gk(T:Tab)(σ:St)(w:bF)(c:eO)(p:aG)(x:eV)(O:mh):Prop:=
 (O.box=aq/\(∀xs,x≠ .pt xs)/\(O.cs=[]\/∃g xs,x= .v g xs/\∀(j:aG) (r:jk),O.cs[j]? =aj r->Kept σ p j xs r\/(r.aa= .nl/\r.tk=[]/\r.fz=[])))\/
 (O.box=ak/\∃xs vs vals,x= .pt xs/\σ (cX (dO p 900))= .o (.box vs)/\nq w (c.P (dO p 900)).blk vals/\vals.size=O.cs.length/\
  ∀(j:aG) (r:jk),O.cs[j]? =aj r->vals[j]? =aj r.u/\((Kept σ p j xs r/\r.u=lh (c.P (dO p j)))\/jB T σ w c r))
theorem HU{a b:aY}(h:HS a b=ak):a=b:=by cases a<;>cases b<;>first|rfl|cases h
theorem Wq(p j i:aG):dO p j+i=dO p (j+i):=by unfold dO;omega
theorem JA{tk:aA aG}{p:aG}:∀{xs:aA AA} {j:aG},∃cs:aA jk,(pr σ tk (dO p j) xs).1=cs.map (·.aa)/\(pr σ tk (dO p j) xs).2=cs.flatMap (·.tk)/\cs.flatMap (·.fz)=[]/\
  ∀(i:aG) (r:jk),cs[i]? =aj r->((∃e ex z ys,xs[i]? =aj (.ow e ex z)/\r.aa= .kp ys/\r.tk=[dO p (j+i)]/\r.fz=[]/\σ (cX (dO p (j+i)))= .o (.row e ex ys))\/(r.aa= .nl/\r.tk=[]/\r.fz=[])):=by
 intro xs;induction xs with
 |nil=>intro j;exact⟨[],rfl,rfl,rfl,λi r h=>by simp at h⟩
 |cons x xs ih=>
  intro j;obtain⟨cs,h1,h2,h3,h4⟩:=ih (j:=j+1);have e1:dO p j+1=dO p (j+1):=Wq p j 1;let pl:Pl:=⟨ak,0,0,0,0,0⟩
  have one:∃r:jk,mN σ tk (dO p j) x=(r.aa,r.tk)/\r.fz=[]/\((∃e ex z ys,x= .ow e ex z/\r.aa= .kp ys/\r.tk=[dO p j]/\r.fz=[]/\σ (cX (dO p j))= .o (.row e ex ys))\/(r.aa= .nl/\r.tk=[]/\r.fz=[])):=by
   have no:mN σ tk (dO p j) x=(.nl,[])->∃r:jk,mN σ tk (dO p j) x=(r.aa,r.tk)/\r.fz=[]/\((∃e ex z ys,x= .ow e ex z/\r.aa= .kp ys/\r.tk=[dO p j]/\r.fz=[]/\σ (cX (dO p j))= .o (.row e ex ys))\/(r.aa= .nl/\r.tk=[]/\r.fz=[])):=
    λh=>⟨⟨.nl,[],[],pl,λ_ _=>pl,undef⟩,h,rfl, .inr ⟨rfl,rfl,rfl⟩⟩
   cases x with
   |ow e ex z=>
    cases hm:lZ (dO p j) tk with
    |true=>exact no (by simp[mN,hm])
    |false=>
     obtain⟨so,ho⟩:∃so,σ (cX (dO p j))=so:=⟨_,rfl⟩
     cases so with
     |v=>exact no (by simp[mN,hm,ho])
     |jH=>exact no (by simp[mN,hm,ho])
     |o ob=>
      cases ob with
      |row e' s6 ys=>
       cases hb:(bA e e'&&HS ex s6)with
       |false=>exact no (by simp only[mN,hm,aD,ho,hb])
       |true=>simp only[aK]at hb;have he:=aX hb.1;have hx:=HU hb.2;subst he;subst hx;exact⟨⟨.kp ys,[dO p j],[],pl,λ_ _=>pl,undef⟩,by simp[mN,hm,ho,hb.2],rfl, .inl ⟨e,ex,z,ys,rfl,rfl,rfl,rfl,ho⟩⟩
      |_=>exact no (by simp[mN,hm,ho])
   |_=>exact no rfl
  obtain⟨r,k1,k2,k3⟩:=one;refine⟨r::cs, ?_, ?_,by simp[k2,h3],λi r' hi=> ?_⟩
  ·show(mN σ tk (dO p j) x).1::(pr σ tk (dO p j+1) xs).1=_;rw[k1,e1,h1];rfl
  ·show(mN σ tk (dO p j) x).2++(pr σ tk (dO p j+1) xs).2=_;rw[k1,e1,h2];rfl
  ·cases i with
   |zero=>
    cases hi;rcases k3 with ⟨e,ex,z,ys,q1,q2⟩|q
    ·exact .inl ⟨e,ex,z,ys,by rw[q1];rfl,q2⟩
    ·exact .inr q
   |succ i=>have:=h4 i r' hi;rw[show j+1+i=j+(i+1)by omega]at this;exact this
theorem MD(b8:Ok E σ w c){q:aG}:∀{xs:aA AV} {j:aG} {bs l:aA AA} {tk fz:aA aG} {vals:di bg},EG E q σ j bs xs=aj (l,tk,fz)->fQ E w c vals xs->
  ∃cs:aA jk,l=cs.map (·.aa)/\tk=cs.flatMap (·.tk)/\fz=cs.flatMap (·.fz)/\cs.length=xs.length/\∀(i:aG) (r:jk),cs[i]? =aj r->vals[i]? =aj r.u/\
   (((∃e ex z ys,bs[i]? =aj (.ow e ex z)/\r.aa= .kp ys/\r.tk=[dO q (j+i)]/\r.fz=[]/\σ (cX (dO q (j+i)))= .o (.row e ex ys))/\r.u=lh (c.P (dO q (j+i))))\/jB E σ w c r):=by
 intro xs;induction xs with
 |nil=>intro j bs l tk fz vals h _;cases h;exact⟨[],rfl,rfl,rfl,rfl,λi r h=>by simp at h⟩
 |cons x xs ih=>
  intro j bs l tk fz vals h hv;unfold EG at h;split at h
  ·rename_i aa t f as ts fs h1 h2;cases h;obtain⟨u,hu,ha⟩:=hv.2 0 x rfl;have Lw:fQ E w c (vals.extract 1 vals.size) xs:=by
    refine⟨by simp;have:=hv.1;simp at this;omega,λi b hj=> ?_⟩
    obtain⟨u,hu,hb⟩:=hv.2 (i+1) b hj;refine⟨u, ?_,hb⟩
    have:=(dQ.1 hu).1;rw[dW,bC (by omega),iL];exact hu
   obtain⟨cs,rfl,rfl,rfl,i4,i5⟩:=ih h2 Lw;have one:∃p g,((∃e ex z ys,bs[0]? =aj (.ow e ex z)/\aa= .kp ys/\t=[dO q j]/\f=[]/\σ (cX (dO q j))= .o (.row e ex ys))/\u=lh (c.P (dO q j)))\/jB E σ w c ⟨aa,t,f,p,g,u⟩:=by
    have other:∀{om k},yO E om σ k x=aj (aa,t,f)->∃p g,((∃e ex z ys,bs[0]? =aj (.ow e ex z)/\aa= .kp ys/\t=[dO q j]/\f=[]/\σ (cX (dO q j))= .o (.row e ex ys))/\u=lh (c.P (dO q j)))\/jB E σ w c ⟨aa,t,f,p,g,u⟩:=λhh=>by obtain⟨p,g,hc⟩:=G0 b8 hh ha;exact⟨p,g, .inr hc⟩
    unfold XR at h1;split at h1
    ·rename_i e ex z n _ hb;cases hn:bA n (dO q j)with
     |false=>rw[hn]at h1;exact other (k:= .o) h1
     |true=>
      rw[hn]at h1;have:=aX hn;subst this;obtain⟨so,ho⟩:∃so,σ (cX (dO q j))=so:=⟨_,rfl⟩
      cases so with
      |v=>simp[ho]at h1
      |jH=>simp[ho]at h1
      |o ob=>
       cases ob with
       |row e' s6 ys=>
        simp only[ho,ay]at h1;cases Dn:(bA e e'&&HS ex s6)with
        |false=>rw[Dn]at h1;cases h1
        |true=>
         rw[Dn]at h1;cases h1;simp only[aK]at Dn;have he:=aX Dn.1;have hx:=HU Dn.2;subst he;subst hx;refine⟨⟨ak,0,0,0,0,0⟩,λ_ _=>⟨ak,0,0,0,0,0⟩, .inl ⟨⟨e,ex,z,ys, ?_,rfl,rfl,rfl,ho⟩,ha⟩⟩
         cases bs with
         |nil=>cases hb
         |cons b bs=>rw[show b=_ from hb];rfl
       |_=>simp[ho]at h1
    ·exact other (k:= .o) h1
   obtain⟨p,g,hc⟩:=one;refine⟨⟨aa,t,f,p,g,u⟩::cs,rfl,rfl,rfl,by simp[i4],λi r hi=> ?_⟩
   cases i with
   |zero=>cases hi;exact⟨hu,hc⟩
   |succ i=>
    obtain⟨r1,r2⟩:=i5 i r hi;refine⟨?_, ?_⟩
    ·rw[dW]at r1;split at r1
     ·rw[iL];exact r1
     ·cases r1
    ·rw[show j+1+i=j+(i+1)by omega]at r2;have e1:bs.tail[i]? =bs[i+1]? :=by cases bs<;>simp
     rw[e1]at r2;exact r2
  ·cases h
end
end Go.FG

namespace Go.FG
section
variable {P:cR} {E:fF} {σ:St} {a:Act} {w:bF} {c:eO}
theorem Ns(b8:Ok E σ w c){tk:aA aG}:∀{args:aA eV} {p:aG} {l:aA (aA AA)} {ns ms:aA aG},Bq E σ tk p args=aj (l,ns,ms)->
  ∃OL:aA mh,l=OL.map (·.l)/\OL.length=args.length/\ns=(OL.zipIdx p).flatMap (λt=>t.1.ns t.2)/\ms=OL.flatMap (·.ms)/\∀(i:aG) (O:mh) (x:eV),OL[i]? =aj O->args[i]? =aj x->Gk E σ w c (p+i) x O:=by
 intro args;induction args with
 |nil=>intro p l ns ms h;cases h;exact⟨[],rfl,rfl,rfl,rfl,λi O x h=>by simp at h⟩
 |cons x args ih=>
  intro p l ns ms h;unfold Bq at h;split at h
  ·cases h
  ·rename_i l' ns' ms' h1;obtain⟨OL,rfl,i2,rfl,rfl,i5⟩:=ih h1;have put:∀O:mh,Gk E σ w c p x O->l=O.l::OL.map (·.l)->ns=O.ns p++(OL.zipIdx (p+1)).flatMap (λt=>t.1.ns t.2)->ms=O.ms++OL.flatMap (·.ms)->∃OL:aA mh,l=OL.map (·.l)/\OL.length=(x::args).length/\ns=(OL.zipIdx p).flatMap (λt=>t.1.ns t.2)/\ms=OL.flatMap (·.ms)/\∀(i:aG) (O:mh) (y:eV),OL[i]? =aj O->(x::args)[i]? =aj y->Gk E σ w c (p+i) y O:=by
    intro O hO h1 h2 h3;refine⟨O::OL,h1,by simp[i2],by rw[h2,List.zipIdx_cons,wO],h3,λi O' y hi hy=> ?_⟩
    cases i with
    |zero=>cases hi;cases hy;exact hO
    |succ i=>have:=i5 i O' y hi hy;rwa[show p+1+i=p+(i+1)by omega]at this
   cases x with
   |v g xs=>
    dsimp only at h;cases hh:Qs xs with
    |false=>rw[hh]at h;cases h;exact put ⟨aq,[]⟩ (.inl ⟨rfl,(λ_ h=>by cases h), .inl rfl⟩) rfl rfl rfl
    |true=>rw[hh]at h;cases h;obtain⟨cs,k1,k2,k3,k4⟩:=JA (σ:=σ) (tk:=tk) (p:=p) (xs:=xs) (j:=0);refine put ⟨aq,cs⟩ (.inl ⟨rfl,(λ_ h=>by cases h), .inr ⟨g,xs,rfl,λj r hj=> ?_⟩⟩) (by rw[k1];rfl) (by rw[k2];rfl) (by simp[mh.ms,k3]);have:=k4 j r hj;rw[bT]at this;exact this
   |pt xs=>
    dsimp only at h;split at h
    ·rename_i vs ho;split at h
     ·rename_i as ns2 ms2 hb;cases h;obtain⟨vals,hbl,fX,hv⟩:=b8.obj _ _ ho;obtain⟨cs,rfl,rfl,rfl,k4,k5⟩:=MD b8 hb ⟨fX,hv⟩;refine put ⟨ak,cs⟩ (.inr ⟨rfl,xs,vs,vals,rfl,ho,hbl,by rw[fX];exact k4.symm,λj r hj=> ?_⟩) rfl (by simp[mh.ns]) rfl;obtain⟨r1,r2⟩:=k5 j r hj;rw[bT]at r2;exact⟨r1,r2⟩
     ·cases h
    ·cases h
   |fb xs=>cases h;exact put ⟨aq,[]⟩ (.inl ⟨rfl,(λ_ h=>by cases h), .inl rfl⟩) rfl rfl rfl
theorem yL:∀{l:aA (aA AA)} {p:aG},(s5 l).getD p []=l.getD p []:=by
 intro l;induction l with
 |nil=>intro p;rfl
 |cons x l ih=>
  intro p;unfold s5;split
  ·rename_i h;cases p with
   |zero=>rfl
   |succ p=>rw[uA,<-ih,h];rfl
  ·rename_i x' r' _;cases p with
   |zero=>rfl
   |succ p=>rw[uA,uA,ih]
end
end Go.FG

namespace Go.FG
structure Sp where
 res:aY
 i:aG
 j:aC aG
def oP(RL:aA kF)(OL:aA mh)(s:Sp):aA aG:=
 match s.res,s.j with
 |true,ao=>match RL[s.i]? with|some R=>R.box.toList|none=>[]
 |true,aj j=>match RL[s.i]? with|some R=>(match R.cs[j]? with|some r=>r.tk|none=>[])|none=>[]
 |false,ao=>match OL[s.i]? with|some O=>(if O.box=ak then [dO s.i 900]else [])|none=>[]
 |false,aj j=>match OL[s.i]? with|some O=>(match O.cs[j]? with|some r=>r.tk|none=>[])|none=>[]
theorem mQ{α:Type}{l:aA α}{i:aG}{x:α}{p:aG}(h:l[i]? =aj x):(l.zipIdx p)[i]? =aj (x,p+i):=by rw[List.getElem?_zipIdx,h];rfl
theorem WW{RL:aA kF}{OL:aA mh}(hn:(RL.flatMap (·.tk)++(OL.zipIdx 0).flatMap (λt=>t.1.ns t.2)).Nodup){s s':Sp}{n:aG}(h:n∈oP RL OL s)(h':n∈oP RL OL s'):s=s':=by
 obtain⟨n1,n2,n3⟩:=ea.1 hn;obtain⟨a1,a2⟩:=ll n1;obtain⟨b1,b2⟩:=ll n2;have R1:∀{i:aG} {j:aC aG},n∈oP RL OL ⟨ak,i,j⟩->∃R,RL[i]? =aj R/\n∈R.tk/\((j=ao/\n∈R.box.toList)\/∃q r,j=aj q/\R.cs[q]? =aj r/\n∈r.tk):=by
  intro i j h;cases j with
  |none=>
   unfold oP at h;dsimp only at h;cases hR:RL[i]? with
   |none=>rw[hR]at h;cases h
   |some R=>rw[hR]at h;exact⟨R,rfl,bO _ h, .inl ⟨rfl,h⟩⟩
  |some q=>
   unfold oP at h;dsimp only at h;cases hR:RL[i]? with
   |none=>rw[hR]at h;cases h
   |some R=>
    rw[hR]at h;dsimp only at h;cases hr:R.cs[q]? with
    |none=>rw[hr]at h;cases h
    |some r=>rw[hr]at h;exact⟨R,rfl,bI _ (bG.2 ⟨r,aQ hr,h⟩), .inr ⟨q,r,rfl,hr,h⟩⟩
 have O1:∀{i:aG} {j:aC aG},n∈oP RL OL ⟨aq,i,j⟩->∃O,OL[i]? =aj O/\n∈O.ns i/\((j=ao/\n∈(if O.box=ak then [dO i 900]else []))\/∃q r,j=aj q/\O.cs[q]? =aj r/\n∈r.tk):=by
  intro i j h;cases j with
  |none=>
   unfold oP at h;dsimp only at h;cases hR:OL[i]? with
   |none=>rw[hR]at h;cases h
   |some R=>rw[hR]at h;exact⟨R,rfl,bO _ h, .inl ⟨rfl,h⟩⟩
  |some q=>
   unfold oP at h;dsimp only at h;cases hR:OL[i]? with
   |none=>rw[hR]at h;cases h
   |some R=>
    rw[hR]at h;dsimp only at h;cases hr:R.cs[q]? with
    |none=>rw[hr]at h;cases h
    |some r=>rw[hr]at h;exact⟨R,rfl,bI _ (bG.2 ⟨r,aQ hr,h⟩), .inr ⟨q,r,rfl,hr,h⟩⟩
 have inn:∀{A:aA aG} {cs:aA jk} {j j':aC aG},(A++cs.flatMap (·.tk)).Nodup->((j=ao/\n∈A)\/∃q r,j=aj q/\cs[q]? =aj r/\n∈r.tk)->((j'=ao/\n∈A)\/∃q r,j'=aj q/\cs[q]? =aj r/\n∈r.tk)->j=j':=by
  intro A cs j j' He k k';obtain⟨m1,m2,m3⟩:=ea.1 He;have inC:∀{q:aG} {r:jk},cs[q]? =aj r->n∈r.tk->n∈cs.flatMap (·.tk):=λhq hr=>bG.2 ⟨_,aQ hq,hr⟩;rcases k with ⟨rfl,k⟩|⟨q,r,rfl,k1,k2⟩<;>rcases k' with ⟨rfl,k'⟩|⟨q',r',rfl,k1',k2'⟩
  ·rfl
  ·exact cq rfl (m3 n k n (inC k1' k2'))
  ·exact cq rfl (m3 n k' n (inC k1 k2))
  ·rw[(ll m2).1 q q' r r' n k1 k1' k2 k2']
 obtain⟨b,i,j⟩:=s;obtain⟨b',i',j'⟩:=s';cases b<;>cases b'
 ·obtain⟨O,h1,h2,h3⟩:=O1 h;obtain⟨O',Jm,MV,Lm⟩:=O1 h';have:=b1 i i' _ _ n (mQ (p:=0) h1) (mQ (p:=0) Jm) (by rw[bT];exact h2) (by rw[bT];exact MV);subst this;rw[h1]at Jm;cases Jm;have:=b2 _ (aQ (mQ (p:=0) h1));rw[bT]at this;rw[inn this h3 Lm]
 ·obtain⟨O,h1,h2,h3⟩:=O1 h;obtain⟨R,Jm,MV,_⟩:=R1 h';exact cq rfl (n3 n (bG.2 ⟨R,aQ Jm,MV⟩) n (bG.2 ⟨_,aQ (mQ (p:=0) h1),by rw[bT];exact h2⟩))
 ·obtain⟨R,h1,h2,_⟩:=R1 h;obtain⟨O,Jm,MV,_⟩:=O1 h';exact cq rfl (n3 n (bG.2 ⟨R,aQ h1,h2⟩) n (bG.2 ⟨_,aQ (mQ (p:=0) Jm),by rw[bT];exact MV⟩))
 ·obtain⟨R,h1,h2,h3⟩:=R1 h;obtain⟨R',Jm,MV,Lm⟩:=R1 h';have:=a1 i i' _ _ n h1 Jm h2 MV;subst this;rw[h1]at Jm;cases Jm;have:=a2 _ (aQ h1);rw[inn this h3 Lm]
end Go.FG

namespace Go.FG
def KX(c:eO)(RL:aA kF)(OL:aA mh)(m:aG):aC (Pl×(aG->aG->Pl)):=
 if m<900000000 then ao
 else if 500<=(m-900000000)/1000 then(match RL[(m-900000000)/1000-500]? with
  |none=>ao
  |some R=>if(m-900000000)%1000=900 then R.box.map (λn=>(c.P n,c.G n))else(R.cs[(m-900000000)%1000]?).map λr=>(r.p,r.g))
 else if 100<=(m-900000000)%1000/\(m-900000000)%1000≠900 then(match OL[(m-900000000)/1000]? with
  |none=>ao
  |some O=>(O.cs[(m-900000000)%1000-100]?).map λr=>(r.p,r.g))
 else ao
def mM(σ:St)(c:eO)(RL:aA kF)(OL:aA mh):eO:=
 ⟨λm=>match KX c RL OL m with|some pg=>pg.1|none=>c.P m,λm=>match KX c RL OL m with|some pg=>pg.2|none=>c.G m,K1r σ c (RL.flatMap (·.fz)++OL.flatMap (·.ms))⟩
theorem zE{σ:St}{c:eO}{RL:aA kF}{OL:aA mh}{m:aG}{p:Pl}{g:aG->aG->Pl}(h:KX c RL OL m=aj (p,g)):(mM σ c RL OL).P m=p/\(mM σ c RL OL).G m=g:=by unfold mM;simp only[h];exact⟨trivial,trivial⟩
theorem zD{σ:St}{c:eO}{RL:aA kF}{OL:aA mh}{m:aG}(h:KX c RL OL m=ao):(mM σ c RL OL).P m=c.P m/\(mM σ c RL OL).G m=c.G m:=by unfold mM;simp only[h];exact⟨trivial,trivial⟩
section
variable {c:eO} {RL:aA kF} {OL:aA mh}
theorem PZ{q n:aG}{R:kF}(h:RL[q]? =aj R)(hb:R.box=aj n):KX c RL OL (dO (500+q) 900)=aj (c.P n,c.G n):=by obtain⟨h1,h2⟩:=td (p:=500+q) (j:=900) (by omega);have h0:=Bh (500+q) 900;unfold KX;rw[bM (by omega),h1,h2,bC (by omega),show 500+q-500=q by omega,h];simp[hb]
theorem EE{q j:aG}{R:kF}{r:jk}(h:RL[q]? =aj R)(hj:R.cs[j]? =aj r)(hl:j<900):KX c RL OL (dO (500+q) j)=aj (r.p,r.g):=by obtain⟨h1,h2⟩:=td (p:=500+q) (j:=j) (by omega);have h0:=Bh (500+q) j;unfold KX;rw[bM (by omega),h1,h2,bC (by omega),show 500+q-500=q by omega,h];dsimp only;rw[bM (by omega),hj];rfl
theorem zA{p j:aG}(hp:p<500)(hl:j<100\/j=900):KX c RL OL (dO p j)=none:=by obtain⟨h1,h2⟩:=td (p:=p) (j:=j) (by omega);have h0:=Bh p j;unfold KX;rw[bM (by omega),h1,h2,bM (by omega),bM (by omega)]
theorem KY{p j:aG}{O:mh}{r:jk}(hp:p<500)(h:OL[p]? =aj O)(hj:O.cs[j]? =aj r)(hl:j<=100):KX c RL OL (dO p (100+j))=aj (r.p,r.g):=by obtain⟨h1,h2⟩:=td (p:=p) (j:=100+j) (by omega);have h0:=Bh p (100+j);unfold KX;rw[bM (by omega),h1,h2,bM (by omega),bC (by omega),h];dsimp only;rw[show 100+j-100=j by omega,hj];rfl
end
end Go.FG

namespace Go.FG
def afP(OL:aA mh)(s:Sp):aG:=
 match s.res,s.j with
 |true,ao=>dO (500+s.i) 900
 |true,aj j=>dO (500+s.i) j
 |false,ao=>dO s.i 900
 |false,aj j=>match OL[s.i]? with|some O=>(match O.cs[j]? with|some r=>(match r.aa with| .kp _=>dO s.i j|_=>dO s.i (100+j))|none=>0)|none=>0
section
variable {P:cR} {E:fF} {σ:St} {a:Act} {w:bF} {c:eO} {RL:aA kF} {OL:aA mh}
theorem zG{r:jk}(h:jB E σ w c r)(hf:∀n∈r.fz,n∈RL.flatMap (·.fz)++OL.flatMap (·.ms)){x:aG}(hx:KX c RL OL x=aj (r.p,r.g)):ej E w (mM σ c RL OL) (kQ x r.aa) r.u:=by
 rcases h with ⟨e,ex,ys,te,h1,h2,h3,h4,_⟩|⟨h1,h2,h3,h4,h5⟩
 ·rw[h1];show r.u=lh ((mM σ c RL OL).P x);rw[(zE hx).1];exact h4
 ·exact h5 _ (λb hb=>hb.imp id (λ⟨n,hn,hh⟩=>⟨n,hf n hn,hh⟩)) x
theorem GJ{r:jk}(h:jB E σ w c r){e:aG}{ex:aY}{ys:aW}(ha:r.aa= .ow e ex ys){x:aG}(hx:KX c RL OL x=aj (r.p,r.g)):
  pf E w (mM σ c RL OL) x (.row e ex ys)/\∀b,fu (mM σ c RL OL) x (.row e ex ys) b->∃n ob,n∈r.tk/\σ (cX n)= .o ob/\fu c n ob b:=by
 obtain⟨e1,e2⟩:=zE (σ:=σ) hx;rcases h with ⟨e',s6,B7,te,h1,h2,h3,h4,h5,h6,h7,h8,h9,N3⟩|⟨_,_,h3,_⟩
 ·rw[ha]at h1;cases h1;refine⟨⟨⟨te,h3,by rw[e1];exact h5,h6⟩, ?_,λoW=>by rw[e1,e2];exact h8 oW⟩,λb hb=> ?_⟩
  ·rw[e1,e2];refine h7.frame (λ_=>rfl) (λi j y xx u hy TR hr=> ?_);split at hr
   ·rename_i oW;rw[bC oW];exact hr
   ·rename_i oW;rw[bM oW];exact hr.frame (λ_ _=>rfl) (λb hb=> .inl hb)
  ·rcases hb with ⟨hn,rfl⟩|⟨oW,i,j,hh,hn,rfl⟩
   ·rw[e1]at hn⊢;exact h9 hn
   ·rw[e2]at hn⊢;exact N3 oW i j hh hn
 ·exact cq ha (h3 _ _ _)
structure CN (T:Tab) (σ:St) (w:bF) (c:eO) (RL:aA kF) (OL:aA mh) (args:aA eV) (r:dP):Prop where
 rl:∀R∈RL,Ap T σ w c R
 ol:∀(i:aG) (O:mh) (x:eV),OL[i]? =aj O->args[i]? =aj x->Gk T σ w c i x O
 len:OL.length=args.length
 nd:(RL.flatMap (·.tk)++(OL.zipIdx 0).flatMap (λt=>t.1.ns t.2)).Nodup
 ap:∀n∈RL.flatMap (·.tk)++(OL.zipIdx 0).flatMap (λt=>t.1.ns t.2),n∉RL.flatMap (·.fz)++OL.flatMap (·.ms)
 sm:Small args r
 rs:r.rs=RL.map (·.arg)
 outs:∀p,r.outs.getD p []=(OL.map (·.l)).getD p []
theorem PV{R:kF}{xs:aA AA}(h:Kr R.arg xs):xs=R.cs.map (·.aa):=by
 unfold kF.arg at h;split at h
 ·rcases h with ⟨g,h⟩|h<;>cases h;rfl
 ·rcases h with ⟨g,h⟩|h<;>cases h;rfl
theorem vF(b8:Ok E σ w c){args:aA eV}{r:dP}(hE:CN E σ w c RL OL args r){x:aG}{ob:Obj}(h:Aa args r x (.o ob)):
  pf E w (mM σ c RL OL) x ob/\∃s,x=afP OL s/\∀b,fu (mM σ c RL OL) x ob b->∃n o,n∈oP RL OL s/\σ (cX n)= .o o/\fu c n o b:=by
 have ahe:∀{q:aG} {y:eV},r.rs[q]? =aj y->∃R,RL[q]? =aj R/\y=R.arg:=by
  intro q y hq;rw[hE.rs,bE]at hq;cases hR:RL[q]? with
  |none=>rw[hR]at hq;cases hq
  |some R=>rw[hR]at hq;cases hq;exact⟨R,rfl,rfl⟩
 have fzR:∀{q:aG} {R:kF} {j:aG} {t:jk},RL[q]? =aj R->R.cs[j]? =aj t->∀n∈t.fz,n∈RL.flatMap (·.fz)++OL.flatMap (·.ms):=λhR hj n hn=>bO _ (bG.2 ⟨_,aQ hR,bG.2 ⟨_,aQ hj,hn⟩⟩);have fzO:∀{q:aG} {O:mh} {j:aG} {t:jk},OL[q]? =aj O->O.cs[j]? =aj t->∀n∈t.fz,n∈RL.flatMap (·.fz)++OL.flatMap (·.ms):=λhR hj n hn=>bI _ (bG.2 ⟨_,aQ hR,bG.2 ⟨_,aQ hj,hn⟩⟩);have acq:∀{p:aG} {y:eV},args[p]? =aj y->∃O,OL[p]? =aj O/\Gk E σ w c p y O/\r.outs.getD p []=O.cs.map (·.aa):=by
  intro p y hp;have ry:p<OL.length:=by rw[hE.len];exact(aU.1 hp).1
  have hO:OL[p]? =aj OL[p]:=by simp[ry]
  refine⟨OL[p],hO,hE.ol p _ y hO hp, ?_⟩
  rw[hE.outs,cL,bE,hO];rfl
 have csJ:∀{cs:aA jk} {j:aG} {y:AA},(cs.map (·.aa))[j]? =aj y->∃t,cs[j]? =aj t/\t.aa=y:=by
  intro cs j y hj;rw[bE]at hj;cases ht:cs[j]? with
  |none=>rw[ht]at hj;cases hj
  |some t=>rw[ht]at hj;cases hj;exact⟨t,rfl,rfl⟩
 have X8:∀p j,dO p 0+j=dO p j:=λp j=>by unfold dO;omega
 cases h with
 |rb q xs h0=>
  obtain⟨R,hR,hy⟩:=ahe h0;rcases hE.rl R (aQ hR)with ⟨nm,zs,vals,h1,h2,h3,h4,h5,h6⟩|⟨h1,_⟩
  ·have Yd:=PV (R:=R) (xs:=xs) (.inr hy.symm);obtain⟨e1,e2⟩:=zE (σ:=σ) (PZ (c:=c) (OL:=OL) hR h1);refine⟨⟨vals,by rw[e1];exact h4,by rw[iA,Yd,bQ];exact h5,λj y hj=> ?_⟩,⟨ak,q,ao⟩,rfl,λb hb=>⟨nm,_, ?_,h2, ?_⟩⟩
   ·rw[ie,Yd]at hj;cases hx:(R.cs.map (·.aa))[j]? with
    |none=>rw[hx]at hj;cases hj
    |some z=>
     rw[hx]at hj;cases hj;obtain⟨t,ht,rfl⟩:=csJ hx;obtain⟨k1,k2⟩:=h6 j t ht;have jF:j<900:=by have:=hE.sm.rl q _ xs h0 (.inr rfl);have h7:=(aU.1 ht).1;rw[Yd,bQ]at this;omega
     rw[X8];exact⟨t.u,k1,zG k2 (fzR hR ht) (EE hR ht jF)⟩
   ·show nm∈(match RL[q]? with|some R=>R.box.toList|none=>[]);rw[hR];dsimp only;rw[h1];exact aZ.2 rfl
   ·rw[show b=_ from hb,e1];rfl
  ·unfold kF.arg at hy;rw[h1]at hy;cases hy
 |rr q y xs j e ex ys h0 hx hj=>
  obtain⟨R,hR,rfl⟩:=ahe h0;have Yd:=PV hx;rw[Yd]at hj;obtain⟨t,ht,Hi⟩:=csJ hj;have jF:j<900:=by have:=hE.sm.rl q _ xs h0 hx;have h7:=(aU.1 ht).1;rw[Yd,bQ]at this;omega
  have hc:jB E σ w c t:=by
   rcases hE.rl R (aQ hR)with ⟨nm,zs,vals,_,_,_,_,_,h6⟩|⟨_,⟨_,t',h1,_,h2⟩|⟨_,vals,_,_,h6⟩⟩
   ·exact(h6 j t ht).2
   ·rw[h1]at ht;cases j with
    |zero=>cases ht;exact h2
    |succ j=>simp at ht
   ·exact(h6 j t ht).2
  obtain⟨k1,k2⟩:=GJ (RL:=RL) (OL:=OL) hc Hi (EE hR ht jF);refine⟨k1,⟨ak,q,aj j⟩,rfl,λb hb=> ?_⟩
  obtain⟨n,o,h1,h2⟩:=k2 b hb;refine⟨n,o, ?_,h2⟩
  show n∈(match RL[q]? with|some R=>(match R.cs[j]? with|some r=>r.tk|none=>[])|none=>[]);rw[hR];dsimp only;rw[ht];exact h1
 |ob p xs h0=>
  obtain⟨O,hO,hoo,hl⟩:=acq h0;have hp:=hE.sm.a p _ xs h0 (.inr rfl);rcases hoo with ⟨_,h1,_⟩|⟨h1,Kk,vs,vals,U4,h2,h3,h4,h5⟩
  ·exact cq rfl (h1 xs)
  ·cases U4;obtain⟨e1,e2⟩:=zD (σ:=σ) (zA (c:=c) (RL:=RL) (OL:=OL) hp (.inr rfl));have aeP:O.cs.length<=100:=by have:=hE.sm.o p;rw[hl,bQ]at this;exact this
   rw[hl];refine⟨⟨vals,by rw[e1];exact h3,by rw[ug,bQ];exact h4,λj y hj=> ?_⟩,⟨aq,p,ao⟩,rfl,λb hb=>⟨dO p 900,_, ?_,h2, ?_⟩⟩
   ·rw[uZ,bT]at hj;cases hx:(O.cs.map (·.aa))[j]? with
    |none=>rw[hx]at hj;cases hj
    |some z=>
     rw[hx]at hj;cases hj;obtain⟨t,ht,rfl⟩:=csJ hx;obtain⟨k1,k2⟩:=h5 j t ht;have jF:=(aU.1 ht).1;refine⟨t.u,k1, ?_⟩
     rcases k2 with ⟨⟨e,ex,z,ys,_,q2,_⟩,q6⟩|k2
     ·rw[q2];show t.u=lh ((mM σ c RL OL).P (dO p j));rw[(zD (zA hp (.inl (by omega)))).1];exact q6
     ·have hk:∀ys,t.aa≠ .kp ys:=by
       rcases k2 with ⟨_,_,_,_,q,_⟩|⟨_,_,_,q,_⟩
       ·intro ys hh;rw[q]at hh;cases hh
       ·exact q
      have:sE p j t.aa=kQ (dO p (100+j)) t.aa:=by cases hq:t.aa<;>first|rfl|exact cq hq (hk _)
      rw[this];exact zG k2 (fzO hO ht) (KY hp hO ht (by omega))
   ·show dO p 900∈(match OL[p]? with|some O=>(if O.box=ak then [dO p 900]else [])|none=>[]);rw[hO];dsimp only;rw[bC h1];exact aZ.2 rfl
   ·rw[show b=_ from hb,e1];rfl
 |kp p y xs j e ex z ys h0 hx h2 h3=>
  obtain⟨O,hO,hoo,hl⟩:=acq h0;have hp:=hE.sm.a p _ xs h0 hx;rw[hl]at h3;obtain⟨t,ht,Hi⟩:=csJ h3;have aeP:O.cs.length<=100:=by have:=hE.sm.o p;rw[hl,bQ]at this;exact this
  have jF:=(aU.1 ht).1;have afa:Kept σ p j xs t:=by
   rcases hoo with ⟨_,_,h1|⟨g,Kk,U4,h1⟩⟩|⟨_,Kk,vs,vals,U4,_,_,_,h5⟩
   ·rw[h1]at ht;simp at ht
   ·have:Kk=xs:=by rw[U4]at hx;rcases hx with ⟨g',hx⟩|hx<;>cases hx;rfl
    subst this;rcases h1 j t ht with h|⟨h,_⟩
    ·exact h
    ·rw[Hi]at h;cases h
   ·have:Kk=xs:=by rw[U4]at hx;rcases hx with ⟨g',hx⟩|hx<;>cases hx;rfl
    subst this;rcases(h5 j t ht).2 with ⟨h,_⟩|h
    ·exact h
    ·rcases h with ⟨_,_,_,_,q,_⟩|⟨_,_,_,q,_⟩
     ·rw[Hi]at q;cases q
     ·exact cq Hi (q _)
  obtain⟨e',s6,z',B7,q1,q2,q3,q4,q5⟩:=afa;rw[h2]at q1;cases q1;rw[Hi]at q2;cases q2;obtain⟨e1,e2⟩:=zD (σ:=σ) (zA (c:=c) (RL:=RL) (OL:=OL) (p:=p) (j:=j) hp (.inl (by omega)));obtain⟨⟨te,r1,r2,r3⟩,r4,r5⟩:=b8.obj _ _ q5;refine⟨⟨⟨te,r1,by rw[e1];exact r2,r3⟩, ?_,λoW=>by rw[e1,e2];exact r5 oW⟩,⟨aq,p,aj j⟩, ?_,λb hb=>⟨dO p j,_, ?_,q5, ?_⟩⟩
  ·rw[e1,e2];refine r4.frame (λ_=>rfl) (λi j y xx u hy TR hr=> ?_);split at hr
   ·rename_i oW;rw[bC oW];exact hr
   ·rename_i oW;rw[bM oW];exact hr.frame (λ_ _=>rfl) (λb hb=> .inl hb)
  ·show dO p j=(match OL[p]? with|some O=>(match O.cs[j]? with|some r=>(match r.aa with| .kp _=>dO p j|_=>dO p (100+j))|none=>0)|none=>0)
   rw[hO];dsimp only;rw[ht];dsimp only;rw[Hi]
  ·show dO p j∈(match OL[p]? with|some O=>(match O.cs[j]? with|some r=>r.tk|none=>[])|none=>[]);rw[hO];dsimp only;rw[ht];dsimp only;rw[q3];exact aZ.2 rfl
  ·rw[lJ (c:=c) (c':=mM σ c RL OL) ⟨e1,e2⟩]at hb;exact hb
 |nw p y xs j e ex ys h0 hx h3=>
  obtain⟨O,hO,hoo,hl⟩:=acq h0;have hp:=hE.sm.a p _ xs h0 hx;rw[hl]at h3;obtain⟨t,ht,Hi⟩:=csJ h3;have aeP:O.cs.length<=100:=by have:=hE.sm.o p;rw[hl,bQ]at this;exact this
  have jF:=(aU.1 ht).1;have hc:jB E σ w c t:=by
   rcases hoo with ⟨_,_,h1|⟨g,Kk,U4,h1⟩⟩|⟨_,Kk,vs,vals,U4,_,_,_,h5⟩
   ·rw[h1]at ht;simp at ht
   ·rcases h1 j t ht with ⟨_,_,_,_,_,h,_⟩|⟨h,_⟩<;>(rw[Hi]at h;cases h)
   ·rcases(h5 j t ht).2 with ⟨⟨_,_,_,_,_,h,_⟩,_⟩|h
    ·rw[Hi]at h;cases h
    ·exact h
  obtain⟨k1,k2⟩:=GJ (RL:=RL) (OL:=OL) hc Hi (KY hp hO ht (by omega));refine⟨k1,⟨aq,p,aj j⟩, ?_,λb hb=> ?_⟩
  ·show dO p (100+j)=(match OL[p]? with|some O=>(match O.cs[j]? with|some r=>(match r.aa with| .kp _=>dO p j|_=>dO p (100+j))|none=>0)|none=>0)
   rw[hO];dsimp only;rw[ht];dsimp only;rw[Hi]
  ·obtain⟨n,o,h1,h2⟩:=k2 b hb;refine⟨n,o, ?_,h2⟩
   show n∈(match OL[p]? with|some O=>(match O.cs[j]? with|some r=>r.tk|none=>[])|none=>[]);rw[hO];dsimp only;rw[ht];exact h1
end
end Go.FG

namespace Go.FG
theorem uO{args:aA eV}{r:dP}{m:aG}{o:Obj}(h:Aa args r m (.o o)):nO args r (cX m)≠ .jH:=by
 refine q_ (vH.2 h) ?_;rintro ⟨k,d⟩ hd;rcases a_.1 hd with hd|hd
 ·obtain⟨i,a,_,hd⟩:=Hv.1 hd;rcases h_.1 hd with ⟨_,_,_,h⟩|⟨_,_,_,_,_,_,_,_,h⟩<;>rw[h]<;>simp
 ·obtain⟨i,a,_,hd⟩:=Hu.1 hd;rcases qj.1 hd with ⟨_,_,_,h⟩|⟨_,_,⟨_,_,_,_,_,_,_,_,h⟩|⟨_,_,_,_,_,_,h⟩⟩<;>rw[h]<;>simp
section
variable {P:cR} {E:fF} {σ:St} {a:Act} {w:bF} {c c0:eO} {RL:aA kF} {OL:aA mh}
theorem RR{s:Sp}{n:aG}(h:n∈oP RL OL s):n∈RL.flatMap (·.tk)++(OL.zipIdx 0).flatMap (λt=>t.1.ns t.2):=by
 obtain⟨b,i,j⟩:=s;have inO:∀{O:mh},OL[i]? =aj O->n∈O.ns i->n∈(OL.zipIdx 0).flatMap (λt=>t.1.ns t.2):=λhO hn=>bG.2 ⟨_,aQ (mQ (p:=0) hO),by rw[bT];exact hn⟩;have inR:∀{R:kF},RL[i]? =aj R->n∈R.tk->n∈RL.flatMap (·.tk):=λhR hn=>bG.2 ⟨_,aQ hR,hn⟩;cases b<;>cases j<;>unfold oP at h<;>dsimp only at h
 ·cases hO:OL[i]? with
  |none=>rw[hO]at h;cases h
  |some O=>rw[hO]at h;exact bI _ (inO hO (bO _ h))
 ·rename_i j;cases hO:OL[i]? with
  |none=>rw[hO]at h;cases h
  |some O=>
   rw[hO]at h;dsimp only at h;cases hr:O.cs[j]? with
   |none=>rw[hr]at h;cases h
   |some r=>rw[hr]at h;exact bI _ (inO hO (bI _ (bG.2 ⟨r,aQ hr,h⟩)))
 ·cases hO:RL[i]? with
  |none=>rw[hO]at h;cases h
  |some O=>rw[hO]at h;exact bO _ (inR hO (bO _ h))
 ·rename_i j;cases hO:RL[i]? with
  |none=>rw[hO]at h;cases h
  |some O=>
   rw[hO]at h;dsimp only at h;cases hr:O.cs[j]? with
   |none=>rw[hr]at h;cases h
   |some r=>rw[hr]at h;exact bO _ (inR hO (bI _ (bG.2 ⟨r,aQ hr,h⟩)))
theorem R_{args:aA eV}{r:dP}(hE:CN E σ w c RL OL args r){q:aG}{R:kF}(hR:RL[q]? =aj R):pM E w (mM σ c RL OL) (ED (500+q) R.arg).1 (ED (500+q) R.arg).2 R.v:=by
 have hlen:∀{j:aG} {t:jk},R.cs[j]? =aj t->j<900:=by
  intro j t ht;have h0:r.rs[q]? =aj R.arg:=by rw[hE.rs,bE,hR];rfl
  have hx:Kr R.arg (R.cs.map (·.aa)):=by
   unfold kF.arg;split
   ·exact .inr rfl
   ·exact .inl ⟨_,rfl⟩
  have:=hE.sm.rl q _ _ h0 hx;have h7:=(aU.1 ht).1;rw[bQ]at this;omega
 have hf:∀{j:aG} {t:jk},R.cs[j]? =aj t->∀n∈t.fz,n∈RL.flatMap (·.fz)++OL.flatMap (·.ms):=λhj n hn=>bO _ (bG.2 ⟨_,aQ hR,bG.2 ⟨_,aQ hj,hn⟩⟩);have X8:∀p j,dO p 0+j=dO p j:=λp j=>by unfold dO;omega
 rcases hE.rl R (aQ hR)with ⟨nm,zs,vals,h1,h2,h3,h4,h5,h6⟩|⟨h1,⟨h2,t,h3,h4,h5⟩|⟨h2,vals,h3,h4,h5⟩⟩
 ·have:R.arg= .pt (R.cs.map (·.aa)):=by unfold kF.arg;rw[h1]
  rw[this];show R.v= .pointer (aj (ad ((mM σ c RL OL).P (dO (500+q) 900)).blk 0));rw[(zE (PZ hR h1)).1];exact h3
 ·have:R.arg= .v aq [t.aa]:=by unfold kF.arg;rw[h1,h2,h3];rfl
  rw[this,<-h4];have ht:R.cs[0]? =aj t:=by rw[h3];rfl
  have:=zG (OL:=OL) h5 (hf ht) (EE hR ht (by omega));exact this
 ·have:R.arg= .v ak (R.cs.map (·.aa)):=by unfold kF.arg;rw[h1,h2]
  rw[this];refine⟨vals,h3,by show vals.size=(gi _ _).length;rw[iA,bQ];exact h4,λj y hj=> ?_⟩
  replace hj:(gi (dO (500+q) 0) (R.cs.map (·.aa)))[j]? =aj y:=hj;rw[ie,bE]at hj;cases ht:R.cs[j]? with
  |none=>rw[ht]at hj;cases hj
  |some t=>
   rw[ht]at hj;cases hj;obtain⟨k1,k2⟩:=h5 j t ht;refine⟨t.u,k1, ?_⟩
   rw[X8];exact zG k2 (hf ht) (EE hR ht (hlen ht))
theorem AQ{args:aA eV}{r:dP}{q:aG}{y:eV}{xs:aA AA}(h0:r.rs[q]? =aj y)(hx:Kr y xs){v:AV}(hv:v∈gi (dO (500+q) 0) xs):iU (nO args r) v:=by
 intro m hm;obtain⟨j,hj⟩:=bZ hv;rw[ie]at hj;cases hy:xs[j]? with
 |none=>rw[hy]at hj;cases hj
 |some z=>
  rw[hy]at hj;cases hj;obtain⟨rfl,e,ex,ys,rfl⟩:=sA hm;have hn:dO (500+q) 0+j=dO (500+q) j:=by unfold dO;omega
  rw[hn];exact uO (.rr q y xs j e ex ys h0 hx hy)
theorem UG(b8:Ok E σ w c){args:aA eV}{r:dP}(hE:CN E σ w c RL OL args r):Ok E (nO args r) w (mM σ c RL OL) where
 obj nm o h:=(vF b8 hE (qh h)).1
 sep nm o vU o' b h h' hf wC:=by
  obtain⟨s,e1,k1⟩:=(vF b8 hE (qh h)).2;obtain⟨s',e1',k1'⟩:=(vF b8 hE (qh h')).2;obtain⟨n,ob,h1,h2,h3⟩:=k1 b hf;obtain⟨n',ob',Jm,MV,Lm⟩:=k1' b wC;have:=b8.sep n ob n' ob' b h2 MV h3 Lm;subst this;rw[e1,e1',WW hE.nd h1 Jm]
 kk nm o b h hf hk:=by
  obtain⟨s,e1,k1⟩:=(vF b8 hE (qh h)).2;obtain⟨n,ob,h1,h2,h3⟩:=k1 b hf;rcases hk with hk|⟨n',j_,ob',MV,Lm⟩
  ·exact b8.kk n ob b h2 h3 hk
  ·have:=b8.sep n ob n' ob' b h2 MV h3 Lm;subst this;exact hE.ap n (RR h1) j_
 lt b hb:=by
  rcases hb with hb|⟨n,hn,ob,h1,h2⟩
  ·exact b8.lt b hb
  ·exact vj.lt b8 ⟨n,ob,h1,h2⟩
 kn nm xs h v hv:=by
  have hx:=qh h;cases hx with
  |rb q xs h0=>exact AQ h0 (.inr rfl) hv
  |ob p xs h0=>
   intro m hm;obtain⟨j,hj⟩:=bZ hv;rw[uZ,bT]at hj;cases hy:(r.outs.getD p [])[j]? with
   |none=>rw[hy]at hj;cases hj
   |some z=>
    rw[hy]at hj;cases hj;cases z with
    |kp ys=>
     have hm:m=dO p j:=by simpa [sE,bJ]using hm
     subst hm;have ry:p<OL.length:=by rw[hE.len];exact(aU.1 h0).1
     have hO:OL[p]? =aj OL[p]:=by simp[ry]
     have hl:r.outs.getD p []=OL[p].cs.map (·.aa):=by rw[hE.outs,cL,bE,hO];rfl
     rw[hl,bE]at hy;cases ht:OL[p].cs[j]? with
     |none=>rw[ht]at hy;cases hy
     |some t=>
      rw[ht]at hy;have Hi:t.aa= .kp ys:=by injection hy
      rcases hE.ol p _ _ hO h0 with ⟨_,h1,_⟩|⟨_,Kk,vs,vals,U4,_,_,_,h5⟩
      ·exact cq rfl (h1 xs)
      ·cases U4;rcases(h5 j t ht).2 with ⟨⟨e,ex,z,B7,q1,q2,_⟩,_⟩|h
       ·rw[Hi]at q2;cases q2;exact uO (.kp p _ xs j e ex z ys h0 (.inr rfl) q1 (by rw[hl,bE,ht];exact mi aj Hi))
       ·rcases h with ⟨_,_,_,_,q,_⟩|⟨_,_,_,q,_⟩
        ·rw[Hi]at q;cases q
        ·exact cq Hi (q _)
    |ow e ex ys=>
     have hm:m=dO p (100+j):=by simpa [sE,kQ,bJ]using hm
     subst hm;exact uO (.nw p _ xs j e ex ys h0 (.inr rfl) hy)
    |_=>simp[sE,kQ,bJ]at hm
theorem MN(b8:Ok E σ w c){args:aA eV}{r:dP}(hE:CN E σ w c RL OL args r):nQ σ c w (nO args r) (mM σ c RL OL) w where
 os:=rfl
 tape:=rfl
 output:=rfl
 size:=cu _
 K b hb:= .inl hb
 same _ _ _:=rfl
 own b hb:=by
  obtain⟨nm,o,h,hf⟩:=hb;obtain⟨s,e1,k1⟩:=(vF b8 hE (qh h)).2;obtain⟨n,ob,h1,h2,h3⟩:=k1 b hf;exact .inl ⟨n,ob,h2,h3⟩
 kn b hb:=by
  rcases hb with hb|⟨n,hn,ob,h1,h2⟩
  ·exact .inl hb
  ·exact .inr (.inl ⟨n,ob,h1,h2⟩)
theorem MO{args:aA eV}{r:dP}(hs:Small args r)(ha:∀a∈args,mL a<=100)(hA:Tw c0 c):∀m,inj args (cX m)≠ .jH->(mM σ c RL OL).P m=c0.P m/\(mM σ c RL OL).G m=c0.G m:=by
 intro m hm;have:∃ob,inj args (cX m)= .o ob:=by
  cases h:inj args (cX m)with
  |o ob=>exact⟨ob,rfl⟩
  |jH=>exact cq h hm
  |v x=>
   obtain⟨p,a,h0,h⟩:=lk.1 (nh h (by simp));rcases h with ⟨h,_⟩|h
   ·exact cq h (lL _ _)
   ·rcases h_.1 h with ⟨_,_,_,h⟩|⟨_,_,_,_,_,_,_,_,h⟩<;>cases h
 obtain⟨ob,h⟩:=this;obtain⟨p,a,h0,hh⟩:=zO h;have go:∀j,j<100\/j=900->p<500->(mM σ c RL OL).P (dO p j)=c0.P (dO p j)/\(mM σ c RL OL).G (dO p j)=c0.G (dO p j):=by intro j hj hp;obtain⟨e1,e2⟩:=zD (σ:=σ) (zA (c:=c) (RL:=RL) (OL:=OL) hp hj);obtain⟨g1,g2⟩:=hA (dO p j) (Bh p j);exact⟨e1.trans g1,e2.trans g2⟩
 rcases hh with ⟨xs,rfl,rfl,_⟩|⟨xs,j,e,ex,ys,hx,hj,rfl,_⟩
 ·exact go 900 (.inr rfl) (hs.a p _ xs h0 (.inr rfl))
 ·refine go j (.inl ?_) (hs.a p _ xs h0 hx);have h1:=ha a (aQ h0);have h2:mL a=xs.length:=by rcases hx with ⟨g,rfl⟩|rfl<;>rfl
  have h3:=(aU.1 hj).1;omega
theorem Qe{args:aA eV}{r:dP}(hE:CN E σ w c RL OL args r):iW E w (mM σ c RL OL) (WI r.rs) (Bx (RL.map (·.v))):=by
 have je:∀l:aA (aY×aA AV),l=kR 500 r.rs->iW E w (mM σ c RL OL) (.je l) (.tuple (RL.map (·.v)).toArray):=by
  rintro l rfl;refine⟨_,rfl,by rw[vR,hE.rs];simp,λj g xs hj=> ?_⟩
  rw[DD,hE.rs,bE]at hj;cases hR:RL[j]? with
  |none=>rw[hR]at hj;cases hj
  |some R=>
   rw[hR]at hj;have hj:ED (500+j) R.arg=(g,xs):=by injection hj
   have:=R_ hE hR;rw[hj]at this;exact⟨R.v,by simp[hR],this⟩
 have one:∀x R,kR 500 r.rs=[x]->RL=[R]->iW E w (mM σ c RL OL) (rC [x]) R.v:=by
  intro x R hx hRL;have h0:RL[0]? =aj R:=by rw[hRL];rfl
  have h1:=R_ hE h0;have h2:(kR 500 r.rs)[0]? =aj (ED (500+0) R.arg):=by rw[DD,hE.rs,bE,h0];rfl
  rw[hx]at h2;have h2:x=ED (500+0) R.arg:=by injection h2
  subst h2;exact h1
 have hlen:(kR 500 r.rs).length=RL.length:=by rw[vR,hE.rs];simp
 have hL:∀L,L=kR 500 r.rs->L.length=RL.length->iW E w (mM σ c RL OL) (rC L) (Bx (RL.map (·.v))):=by
  intro L hL hlen;have je:=je L hL;generalize hV:RL.map (·.v)=V at je⊢;have hlv:L.length=V.length:=by rw[hlen,<-hV];simp
  cases L with
  |nil=>
   cases V with
   |nil=>exact je
   |cons v V=>simp at hlv
  |cons x L=>
   cases V with
   |nil=>simp at hlv
   |cons v V=>
    cases L with
    |cons y L=>
     cases V with
     |nil=>simp at hlv
     |cons v' V=>exact je
    |nil=>
     cases V with
     |cons v' V=>simp at hlv
     |nil=>
      cases hR:RL with
      |nil=>rw[hR]at hV;cases hV
      |cons R RL'=>
       cases RL' with
       |nil=>
        have:=one x R hL.symm hR;rw[hR]at hV this;have hV:R.v=v:=by injection hV
        rw[<-hV];exact this
       |cons R' RL'=>rw[hR]at hV;simp at hV
 exact hL _ rfl hlen
end
end Go.FG

namespace Go.FG
theorem C9{α:Type}{b:aY}{x r:α}(h:(bif b then aj x else ao)=aj r):b=ak/\x=r:=by
 cases b with
 |true=>exact⟨rfl,by injection h⟩
 |false=>cases h
section
variable {P:cR} {E:fF} {σ:St} {a:Act} {w:bF} {c:eO}
theorem abb(hE:eg P E)(b8:Ok E σ w c)(dD:e_ E σ a w c){F:Func}{args:aA eV}{e:Ex}{r:dP}(h:fin E F args e σ=aj r):
  (e= .normal\/e= .ret)/\(∀x∈args,mL x<=100)/\∃RL OL,CN E σ w c RL OL args r/\(results F a.tmps).run P w= .ok (Bx (RL.map (·.v))) w:=by
 have he:e= .normal\/e= .ret:=by
  cases e with
  |normal=>exact .inl rfl
  |ret=>exact .inr rfl
  |exit id=>cases h
 have h:(match Bw E σ 500 F.results.toList F.resultTypes.toList with
  |some (rs,tk,fz)=>match Bq E σ (tk++fz) 0 args with
   |some (outs,ns,ms)=>bif sC (tk++ns)&&qL (tk++ns) (fz++ms)&&fj args.length 500&&(args.all λa=>fj (mL a) 100)&&(rs.all λa=>fj (mL a) 100)&&(outs.all λa=>fj a.length 100)then aj (dP.mk rs (s5 outs))else ao
   |none=>ao
  |none=>ao)=aj r:=by
  rcases he with rfl|rfl<;>exact h
 split at h
 ·rename_i rs tk fz h1;split at h
  ·rename_i outs ns ms h2;obtain⟨RL,rfl,rfl,rfl,r4,r5,r6⟩:=NA hE b8 dD h1;obtain⟨OL,rfl,o2,rfl,rfl,o5⟩:=Ns b8 h2;obtain⟨hb,rfl⟩:=C9 h;simp only[aK,bn]at hb;obtain⟨⟨⟨⟨⟨b1,b2⟩,b3⟩,b4⟩,b5⟩,b6⟩:=hb;refine⟨he,λx hx=>cC (b4 x hx),RL,OL,⟨r4,λi O x hi hx=>by have:=o5 i O x hi hx;rwa[bT]at this,o2,ql b1,oh b2,⟨?_, ?_, ?_⟩,rfl,λp=>yL⟩,HQ r6⟩
   ·intro p x xs hp _;have:=(aU.1 hp).1;have:=cC b3;omega
   ·intro q x xs hq hx;have h1:=cC (b5 x (aQ hq));have h2:mL x=xs.length:=by rcases hx with ⟨g,rfl⟩|rfl<;>rfl
    omega
   ·intro p;show((s5 (OL.map (·.l))).getD p []).length<=100;rw[yL,cL];cases hp:(OL.map (·.l))[p]? with
    |none=>simp
    |some l=>exact cC (b6 l (aQ hp))
  ·cases h
 ·cases h
end
inductive Fit:CV->Prop
 |i (k n):Fit (.i k n)
 |b (x):Fit (.b x)
 |s (x) (h:F2 x):Fit (.s x)
 |l (e xs) (h:xs.length<=9223372036854775807) (hc:∀y∈xs,∀x∈y,Fit x):Fit (.l e xs)
def ur(xs:aW):Prop:=xs.length<=9223372036854775807/\∀y∈xs,∀x∈y,Fit x
def aeM:AA->Prop
 | .s x=>F2 x| .sh _ xs=>ur xs| .ow _ _ xs=>ur xs|_=>True
def EM:aA AA->Prop
 |[]=>True|a::r=>aeM a/\EM r
def aeN:CV->Prop
 | .s x=>F2 x| .l _ xs=>ur xs|_=>True
def Qj:aA CV->Prop
 |[]=>True|a::r=>aeN a/\Qj r
def Qi:eV->Prop
 | .v _ xs=>EM xs| .pt xs=>EM xs| .fb xs=>Qj xs
def vM:aA eV->Prop
 |[]=>True|a::r=>Qi a/\vM r
theorem Fit.afY{u:bg}{x:CV}(hl:s8 x=aq)(h:Sc u x):Fit x:=by
 cases x with
 |i k n=>exact .i k n
 |b x=>exact .b x
 |s x=>exact .s x h.2
 |l=>simp[s8]at hl
theorem cZ.fit{E:Tab}{w:bF}{K:aG->Prop}{v:bg}{x:CV}(h:cZ E w K v x):Fit x:=by
 induction h with
 |i k n=>exact .i k n
 |b x=>exact .b x
 |s x h=>exact .s x h
 |nl e A c=>exact .l e [] (bL _) (λy hy=>by cases hy)
 |l e xs b o c ti U ht hc hm hK hs hcell gQ ih=>refine .l e xs (db hc hm) (λy hy x hx=> ?_);obtain⟨i,hi⟩:=bZ hy;obtain⟨j,hj⟩:=bZ hx;exact ih i j y x hi hj
theorem Fit.row{e:aG}{xs:aW}(h:Fit (.l e xs)):ur xs:=by cases h with|l _ _ h hc=>exact⟨h,hc⟩
theorem Fit.toC{x:CV}(h:Fit x):aeN x:=by
 cases x with
 |s x=>cases h with|s _ h=>exact h
 |l e xs=>exact h.row
 |_=>trivial
theorem yV{w:bF}{p:Pl}{xs:aW}{R:aG->aG->bg->CV->Prop}(h:iV w p xs R){i j:aG}{y:aA CV}{x:CV}(hi:xs[i]? =aj y)(hj:y[j]? =aj x):∃u:bg,R i j u x:=by
 cases hn:p.nil with
 |true=>rw[(h.nil hn).1]at hi;simp at hi
 |false=>obtain⟨vals,_,_,_,_,hc⟩:=h.mem hn;obtain⟨u,_,hr⟩:=hc i y j x hi hj;exact⟨u,hr⟩
theorem KF.fit{E:Tab}{w:bF}{c:eO}{nm e:aG}{ex:aY}{xs:aW}(h:KF E w c nm e ex xs):ur xs:=by
 refine⟨tp h.at_,λy hy x hx=> ?_⟩
 obtain⟨i,hi⟩:=bZ hy;obtain⟨j,hj⟩:=bZ hx;obtain⟨u,hr⟩:=yV h.at_ hi hj;split at hr
 ·cases x with
  |i k n=>exact .i k n
  |b x=>exact .b x
  |s x=>exact .s x (show Sc u (.s x)from hr).2
  |l e2 ys=>obtain⟨_,ti,_,hp,_,ma,fW⟩:=hr;refine .l e2 ys (tp fW) (λy2 hy2 x2 N9=> ?_);obtain⟨i2,EY⟩:=bZ hy2;obtain⟨j2,N5⟩:=bZ N9;obtain⟨u2,hr2⟩:=yV fW EY N5;exact Fit.afY (gX hp (ma y2 hy2) N5) hr2
 ·exact cZ.fit hr
theorem Dh{T:Tab}{w:bF}{c:eO}{xs:aA AA}{nm:aG}(afn:∀(j e:aG) (ex:aY) (ys:aW),xs[j]? =aj (AA.ow e ex ys)->ur ys)(h:∀(j:aG) (x:AA),xs[j]? =aj x->∃v,ej T w c (kQ (nm+j) x) v):EM xs:=by
 induction xs generalizing nm with
 |nil=>trivial
 |cons x xs ih=>
  refine⟨?_,ih (nm:=nm+1) (λj e ex ys hj=>afn (j+1) e ex ys hj) (λj y hj=> ?_)⟩
  ·obtain⟨v,hv⟩:=h 0 x rfl;cases x with
   |s x=>exact hv.2
   |sh e ys=>exact(cZ.fit hv).row
   |ow e ex ys=>exact afn 0 e ex ys rfl
   |_=>trivial
  ·have:=h (j+1) y hj;rw[show nm+1+j=nm+(j+1)by omega];exact this
def yr(args:aA eV):aY:=fj args.length 500&&args.all λa=>fj (mL a) 100
theorem Va{args:aA eV}(hs:yr args=ak){p j e:aG}{x:eV}{xs:aA AA}{ex:aY}{ys:aW}(h0:args[p]? =aj x)(hx:(∃g,x= .v g xs)\/x= .pt xs)(hj:xs[j]? =aj (AA.ow e ex ys)):inj args (cX (dO p j))= .o (.row e ex ys):=by
 simp only[yr,aK,bn]at hs;have len:∀(x:eV) (xs:aA AA) (j:aG) (y:AA),x∈args->((∃g,x= .v g xs)\/x= .pt xs)->xs[j]? =aj y->j<100:=by
  intro x xs j y hm hx hj;have h1:=cC (hs.2 x hm);have h2:mL x=xs.length:=by rcases hx with ⟨g,rfl⟩|rfl<;>rfl
  have h3:=(aU.1 hj).1;omega
 have jF:=len x xs j _ (aQ h0) hx hj;refine yv (lk.2 ⟨p,x,h0, .inr (h_.2 (.inr ⟨xs,j,e,ex,ys,hx,hj,by rw[bT],rfl⟩))⟩) (λc' G7=> ?_);obtain⟨p',a',TK,hh⟩:=lk.1 G7;rw[bT]at hh;rcases hh with ⟨h,_⟩|hh
 ·exact cq h (lL _ _)
 ·rcases h_.1 hh with ⟨zs,_,h,_⟩|⟨zs,j',e',s6,B7,oW,Ls,h,rfl⟩
  ·have:=tf (by omega) (by omega) (jE h);omega
  ·have atI:=len a' zs j' _ (aQ TK) oW Ls;obtain⟨rfl,rfl⟩:=tf (by omega) (by omega) (jE h);rw[h0]at TK;cases TK;have:xs=zs:=by rcases hx with ⟨g,rfl⟩|rfl<;>rcases oW with ⟨g',oW⟩|oW<;>cases oW<;>rfl
   subst this;rw[hj]at Ls;cases Ls;rfl
theorem Jf{T:Tab}{w:bF}{c:eO}:∀{cs:aA CV},(∀(q:aG) (x:CV),cs[q]? =aj x->Fit x)->Qj cs:=by
 intro cs;induction cs with
 |nil=>intro _;trivial
 |cons x cs ih=>intro h;exact⟨(h 0 x rfl).toC,ih (λq y hq=>h (q+1) y hq)⟩
theorem Qk{T:Tab}{w:bF}{c:eO}{args:aA eV}(hs:yr args=ak)(b8:Ok T (inj args) w c)(h:∀(p:aG) (x:eV),args[p]? =aj x->∃v,iW T w c (sr p x) v):vM args:=by
 have one:∀(p:aG) (x:eV),args[p]? =aj x->Qi x:=by
  intro p x h0;have rows:∀xs,((∃g,x= .v g xs)\/x= .pt xs)->∀(j e:aG) (ex:aY) (ys:aW),xs[j]? =aj (AA.ow e ex ys)->ur ys:=λxs hx j e ex ys hj=>KF.fit (b8.obj _ _ (Va hs h0 hx hj));obtain⟨v,hv⟩:=h p x h0;cases x with
  |v g xs=>
   refine Dh (T:=T) (w:=w) (c:=c) (nm:=dO p 0) (rows xs (.inl ⟨g,rfl⟩)) (λj y hj=> ?_);replace hv:pM T w c g (gi (dO p 0) xs) v:=hv;have Ls:(gi (dO p 0) xs)[j]? =aj (kQ (dO p 0+j) y):=by rw[ie,hj];rfl
   unfold pM at hv;split at hv
   ·rename_i a he;rw[he]at Ls;cases j with
    |zero=>cases Ls;exact⟨v,hv⟩
    |succ j=>simp at Ls
   ·obtain⟨vals,_,_,hv⟩:=hv;obtain⟨u,_,hu⟩:=hv j _ Ls;exact⟨u,hu⟩
   ·exact hv.elim
  |pt xs=>
   have amn:inj args (cX (dO p 900))= .o (.box (gi (dO p 0) xs)):=by
    refine yv (lk.2 ⟨p,_,h0, .inr (h_.2 (.inl ⟨xs,rfl,by rw[bT],by rw[bT]⟩))⟩) (λc' G7=> ?_);obtain⟨p',a',TK,hh⟩:=lk.1 G7;rw[bT]at hh;rcases hh with ⟨h,_⟩|hh
    ·exact cq h (lL _ _)
    ·rcases h_.1 hh with ⟨zs,hx,h,rfl⟩|⟨zs,j',e',s6,B7,oW,Ls,h,rfl⟩
     ·obtain⟨rfl,_⟩:=tf (by omega) (by omega) (jE h);rw[h0]at TK;cases TK;cases hx;rfl
     ·exfalso;simp only[yr,aK,bn]at hs;have h1:=cC (hs.2 a' (aQ TK));have h2:mL a'=zs.length:=by rcases oW with ⟨g,rfl⟩|rfl<;>rfl
      have h3:=(aU.1 Ls).1;have:=tf (by omega) (by omega) (jE h);omega
   obtain⟨vals,_,_,hc⟩:=b8.obj _ _ amn;refine Dh (T:=T) (w:=w) (c:=c) (nm:=dO p 0) (rows xs (.inr rfl)) (λj y hj=> ?_);obtain⟨u,_,hu⟩:=hc j (kQ (dO p 0+j) y) (by rw[ie,hj];rfl);exact⟨u,hu⟩
  |fb xs=>
   obtain⟨b,_,_,hf⟩:∃b,v= .pointer (aj (ad b 0))/\c.K b/\∀(q:aG) (x:CV),xs[q]? =aj x->∃u:bg,w.cell? (ad b q)=aj u/\cZ T w c.K u x:=by obtain⟨b,h1,h2,h3⟩:=hv;exact⟨b,h1,h2,h3⟩
   exact Jf (T:=T) (w:=w) (c:=c) (λq x hq=>by obtain⟨u,_,hu⟩:=hf q x hq;exact hu.fit)
 clear h b8 hs;induction args with
 |nil=>trivial
 |cons x args ih=>exact⟨one 0 x rfl,ih (λp y hp=>one (p+1) y hp)⟩
theorem abc{P:cR}{E:fF}(hE:eg P E)(hF:∀g,cF P E g (E.call g))(hm:P.follows .mixedOrders=ak){g:aG}{F:Func}{code:Code}(hf:P.funcs[g]? =aj F)(hb:F.body=aj code)
  (hc:((F.name== "runtime.NumGoroutine")|| !sd F.ntmps code)=aq) {spec:aA eV->aC (aY×dP)} (hs:∀args r,spec args=aj (ak,r)->yr args=ak/\(vM args->args.length<=F.ntmps/\∃(R:Type) (it:It R) (K:Ex->St->aC R) (q:R),(∀c∈jD code,cB E it c)/\se E it code (inj args) K=aj q/\∀e σ,K e σ=aj q->fin E F args e σ=aj r)):cF P E g spec:=by
 intro args r hr w c1 vs b8 fX QK;obtain⟨Ya,hs⟩:=hs args r hr;obtain⟨hlen,R,it,K,q,A3,aeR,amy⟩:=hs (Qk Ya b8 (λp x hp=>(QK p x hp).imp λ_ h=>h.2));simp only[ij,mb]at hc;refine⟨⟨F,hf,by rw[hb];rfl,hc.1⟩, ?_⟩
 refine calls_of_wp hf hb ?_;refine aa6 (N:=F.ntmps) (σ0:=inj args) (c0:=c1) (w0:=w) hE hF hm code A3 (inj args) K _ aeR hc.2 (λe σ' a' w' c' hk fW=> ?_) _ w c1 ⟨b8,⟨λn=> ?_,Hl,rfl⟩, ?_,nQ.refl _ _ _,Tw.refl _⟩
 ·obtain⟨he,ha,RL,OL,UO,QG⟩:=abb hE fW.ok fW.sl (amy _ _ hk)
  have am2:PK E args r c1 w (Bx (RL.map (·.v))) w':=
   ⟨mM σ' c' RL OL,UG fW.ok UO,fW.gr.trans (MN fW.ok UO),MO UO.sm ha fW.ag,Qe UO⟩
  rcases he with rfl|rfl<;>exact⟨fW.sl.df,_,QG,am2⟩
 ·rcases Hm (args:=args) (n:=n)with ⟨x,h0,h⟩|h
  ·rw[h];obtain⟨v,hv,wF⟩:=QK n x h0;have:(Act.mk (vs++zt (F.ntmps-vs.size) undef) []).eval (.tmp n)=v:=by show(vs++zt (F.ntmps-vs.size) undef).getD n undef=v;have hn:=(dQ.1 hv).1;rw[er,Array.getElem?_append,bC hn,hv];rfl
   rw[this];exact wF
  ·rw[h];trivial
 ·simp;omega
theorem MR{P:cR}{T:Tab}{g:aG}{spec:aA eV->aC (aY×dP)}(h:∀args,spec args=ao):cF P T g spec:=λargs r hr=>by rw[h]at hr;cases hr
end Go.FG

namespace Go.FG
structure ph where
 t:aG
 ti:TI
 fs:aA (aG×aG)
def zr:aA ph->aG->aC TI
 |[],_=>ao
 |r::rs,t=>bif bA t r.t then aj r.ti else zr rs t
def Ct:aA ph->aG->aG->aC (aG×aG)
 |[],_,_=>ao
 |r::rs,t,f=>bif bA t r.t then(bif r.ti.agg then r.fs[f]? else ao)else Ct rs t f
def S8(rows:aA ph)(eqs:aA aG):Tab:={ty:=zr rows,fo:=Ct rows,eqs:=eqs}
def zB:Ck->bg->aY
 | .i k, .int k' n=>decide (k'=k)&&decide (n=0)
 | .b, .bool x=> !x
 | .s, .string x=>decide (x.size=0)
 | .l _, .slice ao 0 0=>ak
 | .o, .nilIface=>ak
 |_,_=>aq
def zsB:aA Ck->aA bg->aY
 |[],[]=>ak
 |k::ks,v::vs=>zB k v&&zsB ks vs
 |_,_=>aq
def isAgg:bg->aY| .agg _=>ak|_=>aq
def vK(P:cR)(n:aG):aA Field->aA (aG×aG)->aY
 |[],[]=>ak
 |f::r,(o,m)::l=>bA f.offset o&&(match P.info? f.type with|some i=>bA i.size m|none=>aq)&&pX 0 m&&fj (o+m) n&&vK P n r l
 |_,_=>aq
def qT:TypeDesc->aY| .struct _=>aq| .array _ _=>aq|_=>ak
def WJ(P:cR)(r:ph):aY:=
 match P.info? r.t,P.underlying r.t with
 |some inf,aj d=>bA inf.size r.ti.ks.length&&bA inf.bytes r.ti.bytes&&pX 0 r.ti.ks.length&&
  (bif JI r.ti.ks then(match inf.zero with|some z=>zsB r.ti.ks z.cells.toList&&(!r.ti.agg||isAgg z)|none=>aq)else ak)&&
  (match d with
  | .struct fs=>r.ti.agg&&vK P r.ti.ks.length fs.toList r.fs
  | .int k=> !r.ti.agg&&pO r.ti.ks [.i k]
  | .bool=> !r.ti.agg&&pO r.ti.ks [.b]
  | .string=> !r.ti.agg&&pO r.ti.ks [.s]
  | .slice e=> !r.ti.agg&&pO r.ti.ks [.l e]
  |d=> !r.ti.agg&&pO r.ti.ks [.o]&&qT d)
 |_,_=>aq
theorem ail{k:Ck}{v:bg}(h:zB k v=ak):v=im k:=by
 cases k<;>cases v<;>simp_all [zB,im]
 ·rfl
 ·rename_i a n c;cases a<;>cases n<;>cases c<;>simp_all
theorem Tv:∀{ks:aA Ck} {vs:aA bg},zsB ks vs=ak->vs=ks.map im
 |[],[],_=>rfl
 |k::ks,v::vs,h=>by
  simp only[zsB,aK]at h;rw[ail h.1,Tv h.2];rfl
 |[],_::_,h=>by cases h
 |_::_,[],h=>by cases h
theorem aa1:∀{x y:Ck},ckB x y=ak->x=y:=by intro x y h;cases x<;>cases y<;>simp_all [ckB]
theorem na:∀{a b:aA Ck},pO a b=ak->a=b
 |[],[],_=>rfl
 |x::a,y::b,h=>by
  simp only[pO,aK]at h;rw[aa1 h.1,na h.2]
 |[],_::_,h=>by cases h
 |_::_,[],h=>by cases h
theorem uP{P:cR}{n:aG}:∀{fs:aA Field} {l:aA (aG×aG)},vK P n fs l=ak->
  fs.mapM (λf=>(P.info? f.type).map λi=>(f.offset,i.size))=aj l/\∀(f o m:aG),l[f]? =aj (o,m)->∃fd,fs[f]? =aj fd/\fd.offset=o/\(P.info? fd.type).map (·.size)=aj m/\m≠0/\o+m<=n
 |[],[],_=>⟨rfl,λf o m h=>by simp at h⟩
 |f::r,(o,m)::l,h=>by
  simp only[vK,aK]at h;obtain⟨⟨⟨⟨h1,h2⟩,h3⟩,h4⟩,h5⟩:=h;obtain⟨i1,i2⟩:=uP h5;have e1:=aX h1;cases hi:P.info? f.type with
  |none=>rw[hi]at h2;cases h2
  |some i=>
   rw[hi]at h2;have e2:i.size=m:=aX h2;have e3:0<m:=by simpa [zc]using h3
   have e4:=cC h4;refine⟨by simp[Ug,hi,i1,e1,e2],λg o' m' hg=> ?_⟩
   cases g with
   |zero=>cases hg;exact⟨f,rfl,e1,by rw[hi];exact mi aj e2,by omega,e4⟩
   |succ g=>exact i2 g o' m' hg
 |[],_::_,h=>by cases h
 |_::_,[],h=>by cases h
theorem H3:∀{rows:aA ph} {t:aG} {ti:TI},zr rows t=aj ti->∃r∈rows,r.t=t/\r.ti=ti/\∀f,Ct rows t f=(bif r.ti.agg then r.fs[f]? else ao)
 |[],_,_,h=>by cases h
 |r::rs,t,ti,h=>by
  unfold zr at h;cases hb:bA t r.t with
  |true=>rw[hb]at h;cases h;exact⟨r,dy ..,(aX hb).symm,rfl,λf=>by simp[Ct,hb]⟩
  |false=>rw[hb]at h;obtain⟨r',h1,h2,h3,h4⟩:=H3 (rows:=rs) h;exact⟨r',cW _ h1,h2,h3,λf=>by unfold Ct;rw[hb];exact h4 f⟩
theorem Lh:∀{rows:aA ph} {t f:aG} {o n:aG},Ct rows t f=aj (o,n)->∃ti,zr rows t=aj ti/\ti.agg=ak
 |[],_,_,_,_,h=>by cases h
 |r::rs,t,f,o,n,h=>by
  unfold Ct at h;unfold zr;cases hb:bA t r.t with
  |true=>
   rw[hb]at h;refine⟨r.ti,rfl, ?_⟩
   cases ha:r.ti.agg with
   |true=>rfl
   |false=>rw[ha]at h;cases h
  |false=>rw[hb]at h;exact Lh (rows:=rs) h
def Fk(P:cR):aG->aA Ck->aA Field->aY
 |_,[],[]=>ak
 |j,k::ks,f::fs=>f.name != "_" &&bA f.offset j&&(match P.underlying f.type,k with|some (.int q), .i q'=>decide (q=q')|some .bool, .b=>ak|some .string, .s=>ak|_,_=>aq)&&Fk P (j+1) ks fs
 |_,_,_=>aq
def XU(P:cR)(rows:aA ph)(t:aG):aY:=
 !P.eqGuardType P.depth t&& !P.stoodInHeld t&&(match zr rows t,P.underlying t with|some ti,aj (.struct fs)=>Fk P 0 ti.ks fs.toList|_,_=>aq)
theorem wc{P:cR}{t:aG}{d:TypeDesc}(hd:P.underlying t=aj d)(hp:qT d=ak){cs:di bg}{j:aG}{v:bg}(hj:cs[j]? =aj v)(w:bF):(part t cs j).run P w= .ok v w:=by cases d<;>simp_all [part,Go.isAgg,run_underlying hd,qT]
theorem yM{P:cR}(w:bF):∀(fs:aA Field) (ks:aA Ck) (pre JS xs ys:aA AV) (r:aY),Fk P pre.length ks fs=ak->JS.length=pre.length->xs.map E4=ks->ys.map E4=ks->UF xs ys=aj r->
  (Mu 9999 ((pre++xs).map lz).toArray ((JS++ys).map lz).toArray fs).run P w= .ok r w
 |[],[],pre,JS,xs,ys,r,_,_,hx,hy,he=>by
  have:xs=[]:=by simpa using hx
  subst this;have:ys=[]:=by simpa using hy
  subst this;cases he;rfl
 |f::fs,k::ks,pre,JS,x::xs,y::ys,r,h,hl,hx,hy,he=>by
  simp only[Fk,aK]at h;obtain⟨⟨⟨h1,h2⟩,h3⟩,h4⟩:=h;have h2:=aX h2;have h1:f.name≠ "_" :=by simpa using h1
  simp only[e9,XM]at hx hy;have gx:((pre++x::xs).map lz).toArray[f.offset]? =aj (lz x):=by rw[h2];simp
  have gy:((JS++y::ys).map lz).toArray[f.offset]? =aj (lz y):=by rw[h2,<-hl];simp
  have ih:=λr' he'=>yM w fs ks (pre++[x]) (JS++[y]) xs ys r' (by simpa using h4) (by simp[hl]) hx.2 hy.2 he';simp only[cj,tH]at ih
  have fin:∀{d:TypeDesc} {a b:bg} {q t:aY},P.underlying f.type=aj d->qT d=ak->lz x=a->lz y=b->(Op.equalIn 9999 f.type a b).run P w= .ok q w->UF xs ys=aj t->r=(q&&t)->
    (Mu 9999 ((pre++x::xs).map lz).toArray ((JS++y::ys).map lz).toArray (f::fs)).run P w= .ok r w:=by
   intro d a b q t hd hp ha hb hq ht hr
   subst ha;subst hb;subst hr
   simp only[Mu,bC h1,cg,wc hd hp gx w,wc hd hp gy w,bB,hq,mD]
   cases q with
   |false=>rfl
   |true=>simpa using ih t ht
  cases hu:P.underlying f.type with
  |none=>rw[hu]at h3;cases h3
  |some d=>
   rw[hu]at h3;cases x<;>cases y<;>simp only[UF]at he<;>try (cases he;done)
   ·rename_i k1 n1 k2 n2;split at he
    ·rename_i Qz;subst Qz;split at he
     ·rename_i t ht;cases he;have hk:k= .i k1:=hx.1.symm;subst hk;cases d<;>simp at h3;subst h3;exact fin hu rfl rfl rfl (run_equalIn_int w 9998 f.type _ _ _ _ hu) ht rfl
     ·cases he
    ·cases he
   ·split at he
    ·rename_i t ht;cases he;have hk:k= .b:=hx.1.symm;subst hk;cases d<;>simp at h3;exact fin hu rfl rfl rfl (run_equalIn_bool' w 9998 f.type _ _ hu) ht rfl
    ·cases he
   ·split at he
    ·rename_i t ht;cases he;have hk:k= .s:=hx.1.symm;subst hk;cases d<;>simp at h3;exact fin hu rfl rfl rfl (run_equalIn_string w 9998 f.type _ _ hu) ht rfl
    ·cases he
 |[],_::_,_,_,_,_,_,h,_,_,_,_=>by cases h
 |_::_,[],_,_,_,_,_,h,_,_,_,_=>by cases h
 |_::_,_::_,_,_,[],_,_,_,_,hx,_,_=>by cases hx
 |_::_,_::_,_,_,_::_,[],_,_,_,_,hy,_=>by cases hy
theorem aa5{P:cR}{rows:aA ph}{eqs:aA aG}(h:rows.all (WJ P)=ak)(h2:eqs.all (XU P rows)=ak):eg P (S8 rows eqs):=by
 have key:∀t ti,zr rows t=aj ti->∃r,r.t=t/\r.ti=ti/\WJ P r=ak/\∀f,Ct rows t f=(bif r.ti.agg then r.fs[f]? else ao):=λt ti ht=>by obtain⟨r,h1,h2,h3,h4⟩:=H3 ht;exact⟨r,h2,h3,bn.1 h r h1,h4⟩
 have open_:∀r,WJ P r=ak->∃inf d,P.info? r.t=aj inf/\P.underlying r.t=aj d/\inf.size=r.ti.ks.length/\inf.bytes=r.ti.bytes/\0<r.ti.ks.length/\
   (JI r.ti.ks=ak->∃z,inf.zero=aj z/\z.cells.toList=r.ti.ks.map im/\(r.ti.agg=ak->isAgg z=ak))/\
   ((∃fs,d= .struct fs/\r.ti.agg=ak/\vK P r.ti.ks.length fs.toList r.fs=ak)\/(r.ti.agg=aq/\((∃k,r.ti.ks=[.i k]/\d= .int k)\/(r.ti.ks=[.b]/\d= .bool)\/(r.ti.ks=[.s]/\d= .string)\/(∃e,r.ti.ks=[.l e]/\d= .slice e)\/(r.ti.ks=[.o]/\qT d=ak)))):=by
  intro r hr
  unfold WJ at hr
  split at hr
  ·rename_i inf d h1 h2;simp only[aK]at hr;obtain⟨⟨⟨⟨k1,k2⟩,k3⟩,k4⟩,k5⟩:=hr;refine⟨inf,d,h1,h2,aX k1,aX k2,by simpa [zc]using k3,λhn=> ?_, ?_⟩
   ·rw[hn,ay]at k4;split at k4
    ·rename_i z hz;simp only[aK,dH,dG]at k4;exact⟨z,hz,Tv k4.1,λha=>by rcases k4.2 with h|h;(·rw[ha]at h;cases h);exact h⟩
    ·cases k4
   ·cases d<;>simp only[aK,dG]at k5;case struct fs=>exact .inl ⟨fs,rfl,k5⟩
    case int k=>exact .inr ⟨k5.1, .inl ⟨k,na k5.2,rfl⟩⟩
    case bool=>exact .inr ⟨k5.1, .inr (.inl ⟨na k5.2,rfl⟩)⟩
    case string=>exact .inr ⟨k5.1, .inr (.inr (.inl ⟨na k5.2,rfl⟩))⟩
    case slice e=>exact .inr ⟨k5.1, .inr (.inr (.inr (.inl ⟨e,na k5.2,rfl⟩)))⟩
    all_goals exact .inr ⟨k5.1.1, .inr (.inr (.inr (.inr ⟨na k5.1.2,k5.2⟩)))⟩
  ·cases hr
 refine⟨λt ti ht=> ?_,λt ti ht=> ?_,λt f o n hf=>Lh hf,λt ti ht ha fs hu=> ?_,λt ti he ht w x y xs ys r hr hx hy=> ?_,λ_ _ h=>by cases h⟩
 ·obtain⟨r,rfl,rfl,hr,_⟩:=key t ti ht;obtain⟨inf,d,h1,h2,h3,h4,h5,h6,h7⟩:=open_ r hr;refine⟨inf,h1,h3,h4,h5,λhn=> ?_⟩
  obtain⟨z,z1,z2,z3⟩:=h6 hn;have hc:z.cells=(r.ti.ks.map im).toArray:=by rw[<-z2]
  refine⟨z,z1,hc,λha=> ?_⟩
  have:=z3 ha;cases z<;>simp[isAgg]at this;rw[show _=_ from hc.symm];rfl
 ·obtain⟨r,rfl,rfl,hr,wD⟩:=key t ti ht;obtain⟨inf,d,h1,h2,h3,h4,h5,h6,h7⟩:=open_ r hr;refine⟨d,h2,λha=> ?_,λha=> ?_⟩
  ·rcases h7 with ⟨fs,rfl,_,hb⟩|⟨hn,_⟩
   ·refine⟨fs,rfl,λf o n hf=> ?_⟩
    have hf:Ct rows r.t f=aj (o,n):=hf;rw[wD,ha]at hf;obtain⟨fd,k1,k2⟩:=(uP hb).2 f o n hf;exact⟨fd,by simpa using k1,k2⟩
   ·rw[ha]at hn;cases hn
  ·rcases h7 with ⟨fs,_,hn,_⟩|⟨_,h|h|h|h|⟨h,hb⟩⟩
   ·rw[ha]at hn;cases hn
   ·exact .inl h
   ·exact .inr (.inl h)
   ·exact .inr (.inr (.inl h))
   ·exact .inr (.inr (.inr (.inl h)))
   ·refine .inr (.inr (.inr (.inr ⟨h, ?_⟩)));cases d<;>first|rfl|cases hb
 ·obtain⟨r,rfl,rfl,hr,wD⟩:=key t ti ht;obtain⟨inf,d,h1,h2,h3,h4,h5,h6,h7⟩:=open_ r hr;rw[h2]at hu;cases hu;rcases h7 with ⟨fs',he,_,hb⟩|⟨hn,_⟩
  ·cases he;refine⟨r.fs,(uP hb).1,λf o n hf=> ?_⟩
   have hf:Ct rows r.t f=aj (o,n):=hf;rw[wD,ha]at hf;exact hf
  ·rw[ha]at hn;cases hn
 ·have hm:t∈eqs:=by
   have:∀l:aA aG,lZ t l=ak->t∈l:=by
    intro l;induction l with
    |nil=>intro h;cases h
    |cons a l ih=>
     intro h;simp only[lZ,dH]at h;rcases h with h|h
     ·rw[aX h];exact dy
     ·exact cW _ (ih h)
   exact this _ he
  have hb:=bn.1 h2 t hm;simp only[XU,aK,dG]at hb;obtain⟨⟨b1,b2⟩,b3⟩:=hb;rw[show zr rows t=aj ti from ht]at b3;cases hu:P.underlying t with
  |none=>rw[hu]at b3;cases b3
  |some d=>
   rw[hu]at b3;cases d<;>try (cases b3;done)
   rename_i fs;have wD:P.fieldsOf t=fs:=by unfold Program.fieldsOf;rw[hu]
   have rA:P.underlying t=aj (.struct (P.fieldsOf t)):=by rw[wD];exact hu
   have key:(Op.equalIn 10000 t (.agg (xs.map lz).toArray) (.agg (ys.map lz).toArray)).run P w= .ok r w:=by rw[run_equalIn_agg w 9999 t _ _ rA b2,wD];exact yM w fs.toList ti.ks [] [] xs ys r b3 rfl hx hy hr
   refine⟨?_, ?_⟩
   ·simp only[cg,run_eqGuard_agg w .eql t x y _ _ b1,bB,run_eql_struct,key]
   ·simp only[cg,run_eqGuard_agg w .neq t x y _ _ b1,bB,run_neq_struct,key]
def ahY(rows:aA ph)(eqs:aA aG)(Ql:aA (aG×aG)):Tab:={S8 rows eqs with Ql:=λt f=>Ql.any λp=>bA t p.1&&bA f p.2}
def flB(P:cR)(p:aG×aG):aY:=
 match P.underlying p.1 with
 |some (.struct fs)=>(match fs[p.2]? with|some fd=>(match P.underlying fd.type with|some d=>qT d|none=>aq)|none=>aq)
 |_=>aq
theorem aaN{P:cR}{t:aG}{d:TypeDesc}(h:P.underlying t=aj d)(hb:qT d=ak)(w:bF):(Go.isAgg t).run P w= .ok aq w:=by unfold Go.isAgg;rw[cg,run_underlying h,bB];cases d<;>first|rfl|cases hb
theorem UD{P:cR}{rows:aA ph}{eqs:aA aG}{Ql:aA (aG×aG)}(h:eg P (S8 rows eqs))(hf:Ql.all (flB P)=ak):eg P (ahY rows eqs Ql):=by
 refine⟨h.info,h.desc,h.fo,h.pl,h.eq,λt f hq fs fd hu hd w=> ?_⟩
 obtain⟨p,hp,he⟩:=List.any_eq_true.1 (show(Ql.any λp=>bA t p.1&&bA f p.2)=ak from hq);rw[aK]at he;have hb:=bn.1 hf p hp;unfold flB at hb;rw[<-aX he.1,<-aX he.2,hu]at hb;dsimp only at hb;rw[hd]at hb;dsimp only at hb;split at hb
 ·rename_i d h2;exact aaN h2 hb w
 ·cases hb
end Go.FG

