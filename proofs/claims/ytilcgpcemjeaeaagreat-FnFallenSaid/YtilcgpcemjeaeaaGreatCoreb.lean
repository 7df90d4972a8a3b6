/- An evaluator for the part of the language that this program uses, proved sound over the model: states told as values and lists; what an evaluation tells, the call does. No condition. -/
import Derived.Calls
import Derived.Orders
import Derived.Below
import Derived.Laws.AppendOwn
import Derived.Laws.Slices
import Derived.Laws.StructEq
import Derived.Laws.Tables
import Derived.Laws.MakeOwn
import Derived.Laws.IdiomStrings
import Derived.Laws.BytesArg
import Derived.Laws.NewFold
import Derived.SizedLaws
import Derived.Carry
import Derived.ProofKit
import Derived.KernelRfl
import Derived.Laws.Strings
import Derived.Test.YtilcgpcemjeaeaaGreatCorea
set_option linter.unusedVariables false
set_option linter.unusedSimpArgs false
set_option maxRecDepth 100000
open Array renaming ext'->sE,length_toList->dS,getElem?_toList->cZ,getElem?_eq_some_iff->dV,getElem?_extract->ed,getElem?_map->OG,getElem?_append_left->Ei,toList_map->Aw,eq_empty_of_size_eq_zero->Av,getD_eq_getD_getElem?->eP,getElem?_replicate->Ej,replicate->A4
open Bool renaming false->ak,true->ai,or_true->Kh,and_eq_true->aL,and_true->js,false_eq_true->dy,not_eq_true'->dt,not_eq_false'->nc,or_eq_true->dM,and_false->wA,not_false->bR,true_or->Ax,or_eq_false_iff->iJ
open Go renaming World->bL,Value->bk,Program->c6,Oper->fD,IntKind->nu,Operand->dz
open Go.Act renaming put->Wb
open Go.Builtin renaming firstCells->fC,lenOf->pG,append_->ix,zeroCells->fO
open Go.Exit renaming inBlock->H6
open Go.Instr renaming makeFunc->Wc,loadAt->yQ,sureAddr->uS
open Go.IntKind renaming u8->bh
open Go.Op renaming eqFields->OI
open Go.Oper renaming wp->OJ,upon_enter->We
open Go.Region renaming wanted->vk,binds->mQ,ready->wF
open Go.Result renaming andThen_ok->bG
open Go.Sem renaming run_bind->cm,run_pure->cU,run->nv,run_ite->ni
open List renaming mem_of_getElem?->aR,map_append->dj,map_cons->fE,map_nil->BU,mem_append->ba,mem_map->cX,mem_singleton->aZ,mem_append_left->bM,mem_append_right->bN,getElem?_append_left->dI,getElem?_append_right->db,length_append->bP,eq_nil_of_length_eq_zero->gf,length_map->bU,getElem?_eq_some_iff->aT,mem_cons->cC,getElem?_of_mem->bY,getElem_mem->bC,map_toArray->DE,mem_cons_self->dr,mem_cons_of_mem->c8,not_mem_nil->gG,getElem?_cons_succ->dP,mem_flatMap->bQ,length_eq_one_iff->gZ,getElem?_cons_zero->sF,flatMap_cons->yR,nodup_append->eQ,getElem?_map->bK,nodup_cons->la,getD_eq_getElem?_getD->cT,nil_append->gD,all_eq_true->bu,map_map->mn,append_nil->dp,cons_append->BT,length_singleton->bA,range'->mo,length_cons->dc,getElem?_eq_none->kY,append_assoc->cB,take_append_of_le_length->o8,take_length->dE,singleton_append->uV,length_nil->jS,getElem?_take->ea,countP_cons->lI,range->b9,reverse_reverse->vO,range_eq_range'->R2,find?_eq_none->W4,find?_some->vl,length_set->cE,mem_or_eq_of_mem_set->jK,mem_filter->c_,mapM_cons->W7,getD_cons_succ->vM,any_eq_true->FR
open Nat renaming lt_of_lt_of_le->jw,mul_le_mul_right->b8,add_mul->dq,add_assoc->l_,eq_of_beq_eq_true->aU,le_refl->cG,zero_le->bI,div_lt_iff_lt_mul->yE,mod_lt->Ds,div_add_mod->J4,mul_comm->Et,zero_add->bV,add_comm->ja,beq->bD,le_of_ble_eq_true->cO,add_zero->yT,blt->qB,blt_eq->AE,lt_or_ge->qX,le_trans->di,ble_eq_true_of_le->Kp,ble->fL,sub_zero->si
open Option renaming some->ah,getD_some->yU,none->aj
open Option.some renaming inj->aJ,injEq->jD
open Prod.mk renaming inj->bW,injEq->jg
open _root_ renaming Nat->aF,Bool->aX,List->aA,if_pos->bz,if_neg->bH,absurd->cK,Array->dv,Int->aw,decide_eq_true_eq->bf,Option->az,cond_true->au,cond_false->ax,decide_eq_true->aE,decide_eq_false->aK,of_decide_eq_true->cu,congrArg->lN
namespace Go.FG
theorem p_{E:fS}{w:bL}{K:aF->Prop}{p:Pl}{xs:aQ}{el:aF}{te:TI}(ht:E.ty el=ah te)(hs:p.sz=te.ks.length)(mN:∀y∈xs,y.map CV.kd=te.ks)
  (h:jj w p xs (λ_ _ u x=>da E w K u x)) (hK:p.nil=ak->K p.blk):da E w K (lT p) (.l el xs):=by
 cases hq:p.nil with
 |true=>rw[nK hq,(h.nil hq).1];exact .nl _ _ _
 |false=>
  rw[fc hq,h.n];obtain⟨vals,hb,SX,hmx,_,hc⟩:=h.mem hq;have I7:=λi y j x (h1:xs[i]? =ah y) (h2:y[j]? =ah x)=>hc i y j x h1 h2;refine .l el xs p.blk p.off p.cap te (λi j=>(vals[p.off+i*p.sz+j]?).getD undef) ht (by rw[<-h.n];exact SX) hmx (hK hq) mN (λi j y x h1 h2=> ?_) (λi j y x h1 h2=> ?_)
  ·obtain⟨u,hu,_⟩:=I7 i y j x h1 h2;rw[hb.cell,<-hs,hu];rfl
  ·obtain⟨u,hu,hr⟩:=I7 i y j x h1 h2;simp only[hu,yU];exact hr
theorem yB{E:fS}{w:bL}{K:aF->Prop}{G:aF->aF->Pl}{i j:aF}{u:bk}{x:CV}(h:XC E w G i j u x)(hK:uD x=ai->(G i j).nil=ak->K (G i j).blk):da E w K u x:=by
 cases x with
 |l e ys=>obtain⟨rfl,t,ht,hp,hs,mN,gg⟩:=h;exact p_ ht hs mN (gg.frame (λ_=>rfl) (λi j y x u hi hj hr=>kR (iv hp (mN y (aR hi)) hj) hr)) (hK rfl)
 |i=>exact kR rfl h
 |b=>exact kR rfl h
 |s=>exact kR rfl h
section
variable {P:c6} {E:fS} {σ:St} {a:Act} {w:bL} {c:e_} {o:fD} {nm:aF} {e:s5}
structure Kg (E:fS) (σ:St) (w:bL) (c:e_) (te:TI) (v:bk) (Dt:aX) (xs:aQ) (b:aA aF) (p:Pl) (g:aF->aF->Pl):Prop where
 v:v=lT p
 sz:p.sz=te.ks.length
 sh:∀y∈xs,y.map CV.kd=te.ks
 at_:jj w p xs (λi j u x=>if Dt=ai then XC E w g i j u x else da E w c.K u x)
 inn:Dt=ai->FQ p g xs
 own:p.nil=ak->∃nm ob,nm∈b/\σ (c9 nm)= .o ob/\fM c nm ob p.blk
 owni:Dt=ai->∀i j,gk xs i j->(g i j).nil=ak->∃nm ob,nm∈b/\σ (c9 nm)= .o ob/\fM c nm ob (g i j).blk
 kn:∀nm∈b,∃ob,σ (c9 nm)= .o ob
def K1(σ:St)(c:e_)(D:aA (aF×Obj))(q:aF):Prop:=c.K q\/∃n e xs ob,(n,Obj.fU e xs)∈D/\σ (c9 n)= .o ob/\fM c n ob q
structure ry (E:fS) (σ:St) (w:bL) (c:e_) (te:TI) (b:aA aF) (AY:aX) (ys:aQ) (D:aA (aF×Obj)) (news:aA bk) (gx:aF->aF->Pl):Prop where
 sh:∀y∈ys,y.map CV.kd=te.ks
 cellX:AY=ai->∀(i:aF) (y:aA CV) (j:aF) (x:CV),ys[i]? =ah y->y[j]? =ah x->∃u:bk,news[i*te.ks.length+j]? =ah u/\XC E w gx i j u x
 cellH:AY=ak->∀(i:aF) (y:aA CV) (j:aF) (x:CV),ys[i]? =ah y->y[j]? =ah x->∃u:bk,news[i*te.ks.length+j]? =ah u/\da E w (K1 σ c D) u x
 own:AY=ai->∀i j,gk ys i j->(gx i j).nil=ak->∃n ob,(n,Obj.dead)∈D/\σ (c9 n)= .o ob/\fM c n ob (gx i j).blk
 one:AY=ai->∀i j i' j',gk ys i j->gk ys i' j'->(gx i j).nil=ak->(gx i' j').nil=ak->(gx i j).blk=(gx i' j').blk->i=i'/\j=j'
 D:∀n x,(n,x)∈D->n∉b/\(∃ob,σ (c9 n)= .o ob)/\(x= .dead\/(AY=ak/\∃e xs,x= .fU e xs/\da E w (K1 σ c D) (lT (c.P n)) (.l e xs)/\(c.P n).n=xs.length/\∃ti,E.ty e=ah ti/\(c.P n).sz=ti.ks.length))
theorem E0(cg:Ok E σ w c)(dL:fF E σ a w c)(hd:∀d,o.dst=ah d->d<a.tmps.size){tL el:aF}{te:TI}(ht:E.ty el=ah te)(hf:σ (c9 tL)= .j8)(jB:tL<900000000)
  {v:bk} {Dt AY:aX} {xs ys:aQ} {b:aA aF} {p p':Pl} {g gx:aF->aF->Pl} {D2:aA (aF×Obj)} {news:aA bk} {w':bL}
  (hB:Kg E σ w c te v Dt xs b p g) (hM:ry E σ w c te b AY ys D2 news gx) (hA:aeb w w' p p' ys.length news) (hr:(execOp a.eval o).run P w= .ok (.value (lT p')) w'):
  gY P E σ a w c o (ox b++(km D2++[(c9 tL,eU.o (.row el (Dt&&AY) (xs++ys)))])++dw o (.v ak [.own tL])):=by
 have afd:(Dt&&AY)=ai->Dt=ai/\AY=true:=λh=>by simpa using h
 generalize afc:(Dt&&AY)=O5 at afd;let D:aA (aF×Obj):=EP b++(D2++[(tL, .row el O5 (xs++ys))])
 have hD:ox b++(km D2++[(c9 tL,eU.o (.row el O5 (xs++ys)))])=km D:=by rw[Cc];simp only[D,km,dj,fE,BU]
 rw[hD];have mem:∀m x,(m,x)∈D->(m∈b/\x= .dead)\/(m,x)∈D2\/(m=tL/\x= .row el O5 (xs++ys)):=by
  intro m x hm;rcases ba.1 hm with hm|hm
  ·obtain⟨q,hq,h⟩:=cX.1 hm;cases h;exact .inl ⟨hq,rfl⟩
  ·rcases ba.1 hm with hm|hm
   ·exact .inr (.inl hm)
   ·rw[aZ]at hm;cases hm;exact .inr (.inr ⟨rfl,rfl⟩)
 have Nt:∀m,m∈b->uR D m:=λm hm=>⟨.dead,bM _ (cX.2 ⟨m,hm,rfl⟩)⟩
 have SP:∀m x,(m,x)∈D2->uR D m:=λm x hm=>⟨x,bN _ (bM _ hm)⟩
 have aiN:uR D tL:=⟨_,bN _ (bN _ (aZ.2 rfl))⟩
 have F1:p'.nil=ak->p'.blk=w.heap.size\/∃m ob,m∈b/\σ (c9 m)= .o ob/\fM c m ob p'.blk:=by
  intro hn;rcases hA.blk hn with ⟨h1,h2⟩|h
  ·rw[h2];exact .inr (hB.own h1)
  ·exact .inl h
 have Dne:∀n x ob q,(n,x)∈D2->σ (c9 n)= .o ob->fM c n ob q->¬(p'.nil=ak/\q=p'.blk):=by
  rintro n x ob q hx mY pW ⟨hn,rfl⟩;have XU:=wI.lt cg ⟨n,ob,mY,pW⟩;rcases F1 hn with h|⟨m,ob',h1,h2,h3⟩
  ·omega
  ·have:=cg.sep n ob m ob' _ mY h2 pW h3;subst this;exact(hM.D n x hx).1 h1
 have Kne:∀q,c.K q->¬(p'.nil=ak/\q=p'.blk):=by
  rintro q hq ⟨hn,rfl⟩;have XU:=cg.lt _ hq;rcases F1 hn with h|⟨m,ob',h1,h2,h3⟩
  ·omega
  ·exact cg.kk m ob' _ h2 h3 hq
 have Gne:Dt=ai->∀i j,gk xs i j->(g i j).nil=ak->¬(p'.nil=ak/\(g i j).blk=p'.blk):=by
  rintro hx i j hh hn ⟨kK,he⟩;obtain⟨m,ob,q1,q2,q3⟩:=hB.owni hx i j hh hn;have XU:=wI.lt cg ⟨m,ob,q2,q3⟩;rcases hA.blk kK with ⟨h1,h2⟩|h
  ·exact(hB.inn hx).out i j hh hn h1 (he.trans h2)
  ·omega
 let K':aF->Prop:=λq=>c.K q\/(O5=ak/\j_ (uR D) σ c q/\¬(p'.nil=ak/\q=p'.blk))
 have aiu:∀q,K' q->q<w.heap.size:=by
  rintro q (h|⟨_,h,_⟩)
  ·exact cg.lt q h
  ·exact wI.lt cg h.own
 have aiv:∀q,K' q->¬(p'.nil=ak/\q=p'.blk):=by
  rintro q (h|⟨_,_,h⟩)
  ·exact Kne q h
  ·exact h
 have F3:∀q,K' q->w'.heap[q]? =w.heap[q]? :=λq hq=>hA.old q (aiu q hq) (λhn he=>aiv q hq ⟨hn,he⟩);have F4:O5=ak->∀q,K1 σ c D2 q->K' q:=by
  rintro hR q (h|⟨n,e',zs,ob,h1,h2,h3⟩)
  ·exact .inl h
  ·exact .inr ⟨hR,⟨n,ob,SP n _ h1,h2,h3⟩,Dne n _ ob q h1 h2 h3⟩
 have F5:O5=ak->Dt=ai->∀i j,gk xs i j->(g i j).nil=ak->K' (g i j).blk:=by intro hR hx i j hh hn;obtain⟨m,ob,q1,q2,q3⟩:=hB.owni hx i j hh hn;exact .inr ⟨hR,⟨m,ob,Nt m q1,q2,q3⟩,Gne hx i j hh hn⟩
 have F6:O5=ak->AY=ai->∀i j,gk ys i j->(gx i j).nil=ak->K' (gx i j).blk:=by intro hR hx i j hh hn;obtain⟨n,ob,q1,q2,q3⟩:=hM.own hx i j hh hn;exact .inr ⟨hR,⟨n,ob,SP n _ q1,q2,q3⟩,Dne n _ ob _ q1 q2 q3⟩
 let G':aF->aF->Pl:=λi j=>if i<xs.length then g i j else gx (i-xs.length) j
 have G'l:∀i j,i<xs.length->G' i j=g i j:=λi j h=>bz h;have G'r:∀i j,¬i<xs.length->G' i j=gx (i-xs.length) j:=λi j h=>bH h;have Ta:∀i j,i<xs.length->gk (xs++ys) i j->gk xs i j:=by rintro i j hi ⟨y,x,h1,h2,h3⟩;rw[dI hi]at h1;exact⟨y,x,h1,h2,h3⟩
 have X8:∀i j,¬i<xs.length->gk (xs++ys) i j->gk ys (i-xs.length) j:=by rintro i j hi ⟨y,x,h1,h2,h3⟩;rw[db (by omega)]at h1;exact⟨y,x,h1,h2,h3⟩
 let c':e_:=⟨λm=>if m=tL then p' else c.P m,λm=>if m=tL then G' else c.G m,K'⟩
 have hP:c'.P tL=p':=bz rfl;have hG:c'.G tL=G':=bz rfl;have hAg:jF σ c c':=λm hm=>by
  have:m≠tL:=by rintro rfl;rcases hm with h|h;exact h hf;omega
  exact⟨bH this,bH this⟩
 have ajs:O5=ai->∀i j,gk (xs++ys) i j->(G' i j).nil=ak->¬(p'.nil=ak/\(G' i j).blk=p'.blk)/\j_ (uR D) σ c (G' i j).blk:=by
  intro hR i j hh hn;obtain⟨r1,r2⟩:=afd hR;by_cases hi:i<xs.length
  ·rw[G'l i j hi]at hn⊢;obtain⟨m,ob,q1,q2,q3⟩:=hB.owni r1 i j (Ta i j hi hh) hn;exact⟨Gne r1 i j (Ta i j hi hh) hn,m,ob,Nt m q1,q2,q3⟩
  ·rw[G'r i j hi]at hn⊢;obtain⟨n,ob,q1,q2,q3⟩:=hM.own r2 _ j (X8 i j hi hh) hn;exact⟨Dne n _ ob _ q1 q2 q3,n,ob,SP n _ q1,q2,q3⟩
 have hlen:∀y∈xs++ys,y.map CV.kd=te.ks:=λy hy=>(ba.1 hy).elim (hB.sh y) (hM.sh y);refine KX cg dL hd (D:=D) (c':=c') (w':=w') hAg ?_ ?_ ?_ ?_ (λq h=> .inl h) ?_ (λq hq=>jw (aiu q hq) hA.size) ?_ hA.size hA.os hA.tape hA.output ?_ ?_ hr
 ·intro m x hm;rcases mem m x hm with ⟨_,rfl⟩|XN|⟨rfl,rfl⟩
  ·trivial
  ·obtain⟨_,⟨ob,mY⟩,hx⟩:=hM.D m x XN;rcases hx with rfl|⟨Wx,e',zs,rfl,q1,q2,q3⟩
   ·trivial
   ·have hR:O5=false:=by rw[<-afc,Wx];simp
    obtain⟨a1,a2⟩:=hAg m (.inl (by rw[mY];simp));show da E w' K' (lT (c'.P m)) _/\(c'.P m).n=_/\_;rw[a1];exact⟨q1.frame (λq hq=>F3 q (F4 hR q hq)) (F4 hR),q2,q3⟩
  ·refine⟨⟨te,ht,by rw[hP,hA.sz];exact hB.sz,hlen⟩, ?_,λhR=> ?_⟩
   ·rw[hP,hG];refine⟨by rw[hA.n,hB.at_.n,bP],λhn=> ?_,λhn=> ?_⟩
    ·obtain⟨n1,n2,n3⟩:=hA.nil hn;refine⟨?_,n1⟩
     have e1:xs.length=0:=by rw[<-hB.at_.n];exact n2
     rw[gf e1,gf n3];rfl
    ·obtain⟨jc,m1,m2,m3,m4,m5,m6⟩:=hA.mem hn;refine⟨jc,m1,m2,m3,m4,λi y j x hy hx=> ?_⟩
     have hj:j<te.ks.length:=by rw[<-hlen y (aR hy),bU];exact(aT.1 hx).1
     by_cases hi:i<xs.length
     ·rw[dI hi]at hy;have hpn:p.nil=false:=by
       cases hq:p.nil with
       |false=>rfl
       |true=>have:=(hB.at_.nil hq).1;subst this;simp at hi
      obtain⟨vals,k1,k2,k3,k4,k5⟩:=hB.at_.mem hpn;obtain⟨u,hu,hR⟩:=k5 i y j x hy hx;have hk:i*p.sz+j<p.n*p.sz:=by have:(i+1)*p.sz<=p.n*p.sz:=b8 _ (by rw[hB.at_.n];exact hi);rw[dq]at this;rw[hB.sz]at this⊢;omega
      refine⟨u, ?_, ?_⟩
      ·rw[hA.sz,l_];refine m5 _ u hk ?_;rw[k1.cell,<-l_];exact hu
      ·cases hxb:Dt with
       |true=>
        rw[hxb,bz rfl]at hR;cases X3:O5 with
        |true=>
         rw[bz rfl];have QD:XC E w' g i j u x:=hR.frame (λhl kK=>hA.old _ (by obtain⟨m,ob,_,q2,q3⟩:=hB.owni hxb i j ⟨y,x,hy,hx,hl⟩ kK;exact wI.lt cg ⟨m,ob,q2,q3⟩) (λafm he=>Gne hxb i j ⟨y,x,hy,hx,hl⟩ kK ⟨afm,he⟩));cases x with
         |l e1 z1=>simpa only[XC,G'l i j hi]using QD
         |_=>exact QD
        |false=>rw[bH (by simp)];have:=yB (K:=K') hR (λhl kK=>F5 X3 hxb i j ⟨y,x,hy,hx,hl⟩ kK);exact this.frame F3 (λ_ h=>h)
       |false=>
        have X3:O5=false:=by rw[<-afc,hxb];rfl
        rw[hxb,bH (by simp)]at hR;rw[X3,bH (by simp)];exact hR.frame (λq hq=>F3 q (.inl hq)) (λq hq=> .inl hq)
     ·rw[db (by omega)]at hy;have Jj:i-xs.length<ys.length:=(aT.1 hy).1;have hk:(i-xs.length)*p.sz+j<ys.length*p.sz:=by have:(i-xs.length+1)*p.sz<=ys.length*p.sz:=b8 _ Jj;rw[dq]at this;rw[hB.sz]at this⊢;omega
      have arX:p'.off+i*p'.sz+j=p'.off+p.n*p.sz+((i-xs.length)*p.sz+j):=by
       rw[hA.sz,hB.at_.n];have:i*p.sz=xs.length*p.sz+(i-xs.length)*p.sz:=by rw[<-dq];congr 1;omega
       omega
      have mM:∀u,news[(i-xs.length)*te.ks.length+j]? =ah u->jc[p'.off+i*p'.sz+j]? =ah u:=λu hu=>by rw[arX,m6 _ hk,hB.sz];exact hu
      cases Wx:AY with
      |true=>
       obtain⟨u,hu,hX⟩:=hM.cellX Wx _ y j x hy hx;refine⟨u,mM u hu, ?_⟩
       cases X3:O5 with
       |true=>
        rw[bz rfl];have QD:XC E w' gx (i-xs.length) j u x:=hX.frame (λhl kK=>hA.old _ (by obtain⟨n,ob,_,q2,q3⟩:=hM.own Wx _ j ⟨y,x,hy,hx,hl⟩ kK;exact wI.lt cg ⟨n,ob,q2,q3⟩) (λafm he=>by obtain⟨n,ob,q1,q2,q3⟩:=hM.own Wx _ j ⟨y,x,hy,hx,hl⟩ kK;exact Dne n _ ob _ q1 q2 q3 ⟨afm,he⟩));cases x with
        |l e1 z1=>simpa only[XC,G'r i j hi]using QD
        |_=>exact QD
       |false=>rw[bH (by simp)];have:=yB (K:=K') hX (λhl kK=>F6 X3 Wx _ j ⟨y,x,hy,hx,hl⟩ kK);exact this.frame F3 (λ_ h=>h)
      |false=>
       have X3:O5=false:=by rw[<-afc,Wx];simp
       obtain⟨u,hu,hH⟩:=hM.cellH Wx _ y j x hy hx;refine⟨u,mM u hu, ?_⟩
       rw[X3,bH (by simp)];exact hH.frame (λq hq=>F3 q (F4 X3 q hq)) (F4 X3)
   ·rw[hP,hG];refine⟨λi j hh hn hpn he=>(ajs hR i j hh hn).1 ⟨hpn,he⟩,λi j i' j' hh A0 hn kK he=> ?_⟩
    obtain⟨r1,r2⟩:=afd hR;have aaZ:∀i j i' j',i<xs.length->¬i'<xs.length->gk (xs++ys) i j->gk (xs++ys) i' j'->(G' i j).nil=ak->(G' i' j').nil=ak->(G' i j).blk≠(G' i' j').blk:=by intro i j i' j' hi mc hh A0 hn kK he;rw[G'l i j hi]at hn he;rw[G'r i' j' mc]at kK he;obtain⟨m,ob,q1,q2,q3⟩:=hB.owni r1 i j (Ta i j hi hh) hn;obtain⟨n,ob',s1,s2,s3⟩:=hM.own r2 _ j' (X8 i' j' mc A0) kK;rw[he]at q3;have:=cg.sep m ob n ob' _ q2 s2 q3 s3;subst this;exact(hM.D m _ s1).1 q1
    by_cases hi:i<xs.length
    ·by_cases mc:i'<xs.length
     ·rw[G'l i j hi]at hn he;rw[G'l i' j' mc]at kK he;exact(hB.inn r1).one i j i' j' (Ta i j hi hh) (Ta i' j' mc A0) hn kK he
     ·exact cK he (aaZ i j i' j' hi mc hh A0 hn kK)
    ·by_cases mc:i'<xs.length
     ·exact cK he.symm (aaZ i' j' i j mc hi A0 hh kK hn)
     ·rw[G'r i j hi]at hn he;rw[G'r i' j' mc]at kK he;have:=hM.one r2 _ j _ j' (X8 i j hi hh) (X8 i' j' mc A0) hn kK he;exact⟨by omega,this.2⟩
 ·intro m x q hm pW;rcases mem m x hm with ⟨_,rfl⟩|XN|⟨rfl,rfl⟩
  ·exact pW.elim
  ·obtain⟨_,_,hx⟩:=hM.D m x XN;rcases hx with rfl|⟨_,e',zs,rfl,_⟩
   ·exact pW.elim
   ·exact pW.elim
  ·rcases pW with ⟨hn,rfl⟩|⟨hR,i,j,hh,hn,rfl⟩
   ·rw[hP]at hn⊢;refine⟨?_,λhk=>aiv _ hk ⟨hn,rfl⟩⟩
    rcases F1 hn with h|⟨m,ob,h1,h2,h3⟩
    ·right;omega
    ·exact .inl ⟨m,ob,Nt m h1,h2,h3⟩
   ·rw[hG]at hn⊢;obtain⟨q1,q2⟩:=ajs hR i j hh hn;refine⟨.inl q2, ?_⟩
    rintro (h|⟨h,_⟩)
    ·exact cg.Jz q2.own h
    ·rw[hR]at h;cases h
 ·intro m x m' x' q hm xH pW SS;have only:∀m x,(m,x)∈D->fM c' m x q->m=tL:=by
   intro m x hm pW;rcases mem m x hm with ⟨_,rfl⟩|XN|⟨rfl,rfl⟩
   ·exact pW.elim
   ·obtain⟨_,_,hx⟩:=hM.D m x XN;rcases hx with rfl|⟨_,e',zs,rfl,_⟩
    ·exact pW.elim
    ·exact pW.elim
   ·rfl
  rw[only m x hm pW,only m' x' xH SS]
 ·intro m zs hm;rcases mem m _ hm with ⟨_,h⟩|XN|⟨_,h⟩
  ·cases h
  ·obtain⟨_,_,hx⟩:=hM.D m _ XN;rcases hx with h|⟨_,e',zs,h,_⟩<;>cases h
  ·cases h
 ·rintro q (h|⟨_,h,_⟩)
  ·exact .inl h
  ·exact .inr (.inl h)
 ·intro q hq XO;refine hA.old q hq (λhn he=>XO ?_);rcases F1 hn with h|⟨m,ob,h1,h2,h3⟩
  ·omega
  ·rw[he];exact⟨m,ob,Nt m h1,h2,h3⟩
 ·show _=lT (c'.P tL);rw[hP]
 ·intro m hm;have:m=tL:=by simpa [cQ,bS]using hm
  subst this;exact .inr aiN
end
end Go.FG

namespace Go.FG
theorem Jr:∀{l:aA aF} {n:aF},n∈l->mK n l=true:=by
 intro l;induction l with
 |nil=>intro n h;cases h
 |cons m r ih=>
  intro n h;rcases cC.1 h with rfl|h
  ·simp[mK]
  ·simp only[mK,ih h,Kh]
theorem qt{l:aA aF}{n:aF}(h:mK n l=ak):n∉l:=λhm=>by rw[Jr hm]at h;cases h
theorem da.one{E:fS}{w:bL}{K:aF->Prop}{u:bk}{x:CV}(h:da E w K u x):u.oneCell'=true:=by cases h<;>rfl
theorem XM(p:Pl):(lT p).oneCell'=true:=by unfold lT;split<;>rfl
theorem XC.one{E:fS}{w:bL}{G:aF->aF->Pl}{i j:aF}{u:bk}{x:CV}(h:XC E w G i j u x):u.oneCell'=true:=by
 cases x with
 |l e ys=>rw[h.1];exact XM _
 |i=>rw[show u=_ from h.1];rfl
 |b=>rw[show u=_ from h.1];rfl
 |s=>rw[show u=_ from h.1];rfl
theorem JS{x:CV}:(Qc x).oneCell'=true:=by cases x<;>rfl
theorem wX{α:Type}{b:aX}{x y:Rd α}(h:b=ai):(bif b then x else y)=x:=by rw[h];rfl
theorem EN{α:Type}{b:aX}{x y:Rd α}(h:b=ak):(bif b then x else y)=y:=by rw[h];rfl
theorem sP{α β γ:Type}{σ:St}{a x:α}{b y:β}{c z:γ}(h:(Rd.ret (a,b,c)).val σ=ah (x,y,z)):a=x/\b=y/\c=z:=by obtain⟨h1,h2⟩:=bW (aJ h);obtain⟨h2,h3⟩:=bW h2;exact⟨h1,h2,h3⟩
section
variable {P:c6} {E:fS} {σ:St} {a:Act} {w:bL} {c:e_} {o:fD} {nm:aF} {e:s5}
theorem B7(cg:Ok E σ w c){el:aF}{te:TI}(ht:E.ty el=ah te){s:AV}{v:bk}(hs:eM E w c s v){Dt:aX}{xs:aQ}{b:aA aF}(h:(wW el s).val σ=ah (Dt,xs,b)):
  ∃p g,Kg E σ w c te v Dt xs b p g:=by
 have aj1:∀b,(∀m∈b,∃ob,σ (c9 m)= .o ob)->v= .slice aj 0 0->∀Dt,Kg E σ w c te v Dt [] b ⟨ai,0,0,0,0,te.ks.length⟩ (Ls E te.ks):=λb hb hv Dt=>
  ⟨hv,rfl,λy hy=>(by cases hy),⟨rfl,λ_=>⟨rfl,rfl⟩,λh=>(by cases h)⟩,λ_=>we (λ_ _=>rfl),λh=>(by cases h),λ_ i j ⟨y,x,h,_⟩=>(by simp at h),hb⟩
 cases s with
 |nl=>obtain⟨rfl,rfl,rfl⟩:=sP h;exact⟨_,_,aj1 [] (λm hm=>by cases hm) hs ai⟩
 |own n=>
  obtain⟨ob,hg,h⟩:=Rd.bind_some h;have hg:=dA hg;cases ob with
  |row e' ex ys=>obtain⟨h1,h9⟩:=cS h;have:=aU h1;subst this;have h:=h9;obtain⟨rfl,rfl,rfl⟩:=sP h;obtain⟨⟨t2,q1,q2,q3⟩,q4,q5⟩:=cg.obj n _ hg;obtain rfl:te=t2:=aJ (ht.symm.trans q1);exact⟨c.P n,c.G n,hs,q2,q3,q4,q5,λhn=>⟨n,_,by simp,hg, .inl ⟨hn,rfl⟩⟩,λhx i j hh hn=>⟨n,_,by simp,hg, .inr ⟨hx,i,j,hh,hn,rfl⟩⟩,λm hm=>by rw[aZ]at hm;subst hm;exact⟨_,hg⟩⟩
  |_=>simp at h
 |vw n lo hi=>
  obtain⟨ob,hg,h⟩:=Rd.bind_some h;have hg:=dA hg;cases ob with
  |row e' ex ys=>
   obtain⟨h1,h9⟩:=cS h;have:=aU h1;subst this;have h:=h9;obtain⟨rfl,rfl,rfl⟩:=sP h;obtain⟨⟨t2,q1,q2,q3⟩,q4,q5⟩:=cg.obj n _ hg;obtain rfl:te=t2:=aJ (ht.symm.trans q1);obtain⟨v1,v2,v3,v4⟩:=hs;have hle:hi<=ys.length:=by rw[<-q4.n];exact v2
   have hvl:=mC (xs:=ys) (lo:=lo) hle;have hb:∀m∈[n],∃ob,σ (c9 m)= .o ob:=λm hm=>by rw[aZ]at hm;subst hm;exact⟨_,hg⟩
   cases hq:(c.P n).nil with
   |true=>
    have hy:=(q4.nil hq).1;subst hy;have QC:eA ([]:aQ) lo hi=[]:=by unfold eA;simp
    rw[QC];exact⟨_,_,aj1 [n] hb (v3 hq) ex⟩
   |false=>
    obtain⟨vals,k1,k2,k3,k4,k5⟩:=q4.mem hq;rcases v4 hq with ⟨u1,hv⟩|⟨u1,oo,u2,hv⟩
    ·have X7:∀i j,gk (eA ys lo hi) i j->gk ys (lo+i) j:=by
      rintro i j ⟨y,x,h1,h2,h3⟩;rw[uc]at h1;split at h1
      ·exact⟨y,x,h1,h2,h3⟩
      ·cases h1
     refine⟨⟨ak,(c.P n).blk,(c.P n).off+lo*(c.P n).sz,(c.P n).cap-lo,hi-lo,(c.P n).sz⟩,λi j=>c.G n (lo+i) j,hv,q2,λy hy=>q3 y (CE hy),⟨hvl.symm,λh=>(by cases h),λ_=>⟨vals,k1,by show hi-lo<=(c.P n).cap-lo;omega,by show(c.P n).cap-lo<=maxLen;omega, ?_,λi y j x h1 h2=> ?_⟩⟩,λhx=>⟨λi j hh hn _=>(q5 hx).out _ j (X7 i j hh) hn hq,λi j i' j' hh A0 hn kK he=> ?_⟩,λ_=>⟨n,_,by simp,hg, .inl ⟨hq,rfl⟩⟩,λhx i j hh hn=>⟨n,_,by simp,hg, .inr ⟨hx,lo+i,j,X7 i j hh,hn,rfl⟩⟩,hb⟩
     ·show(c.P n).off+lo*(c.P n).sz+((c.P n).cap-lo)*(c.P n).sz<=vals.size;have:lo*(c.P n).sz+((c.P n).cap-lo)*(c.P n).sz=(c.P n).cap*(c.P n).sz:=by rw[<-dq];congr 1;omega
      omega
     ·rw[uc]at h1;split at h1
      ·obtain⟨u,hu,hr⟩:=k5 (lo+i) y j x h1 h2;refine⟨u, ?_, ?_⟩
       ·show vals[(c.P n).off+lo*(c.P n).sz+i*(c.P n).sz+j]? =ah u;rw[<-hu];congr 1;rw[dq];omega
       ·split at hr
        ·rename_i hx;rw[bz hx];cases x with
         |l e1 z1=>exact hr
         |_=>exact hr
        ·rename_i hx;rw[bH hx];exact hr
      ·cases h1
     ·have:=(q5 hx).one _ j _ j' (X7 i j hh) (X7 i' j' A0) hn kK he;exact⟨by omega,this.2⟩
    ·have h0:hi-lo=0:=by omega
     have QC:eA ys lo hi=[]:=gf (hvl.trans h0);rw[QC];exact⟨⟨ak,(c.P n).blk,oo,0,0,(c.P n).sz⟩,Ls E te.ks,hv,q2,λy hy=>(by cases hy),⟨rfl,λh=>(by cases h),λ_=>⟨vals,k1,cG _,bI _,by show oo+0*(c.P n).sz<=vals.size;rw[Nat.zero_mul];omega,λi y j x h=>(by simp at h)⟩⟩,λ_=>we (λ_ _=>rfl),λ_=>⟨n,_,by simp,hg, .inl ⟨hq,rfl⟩⟩,λ_ i j ⟨y,x,h,_⟩=>(by simp at h),hb⟩
  |_=>simp at h
 |_=>simp[wW]at h
theorem rL{u:aF}(hu:(∃e',P.underlying u=ah (.slice e'))\/P.underlying u=ah .string){z:dv bk}{v:bk}{ys:aQ}{ks:aA Ck}(lj:0<ks.length){R:aF->aF->bk->CV->Prop}(hs:ov w v ys ks.length R)(mN:∀y∈ys,y.map CV.kd=ks)(h1:∀i j u x,R i j u x->u.oneCell'=ai):
  ∃news,App P w u v z ks.length ys.length news/\∀(i:aF) (y:aA CV) (j:aF) (x:CV),ys[i]? =ah y->y[j]? =ah x->∃u:bk,news[i*ks.length+j]? =ah u/\R i j u x:=by
 have hl:∀y∈ys,y.length=ks.length:=λy hy=>by rw[<-mN y hy];simp
 obtain⟨A,cp,news,rfl,n1,n2,n3⟩:=hs.list hl;have first:∀W:bL,(∀q,W.cell? q=w.cell? q)->(fC ks.length ys.length (.slice A ys.length cp)).run P W= .ok news.toArray W:=by
  intro W hW;rcases n2 with h|⟨b,oo,rfl,h⟩
  ·subst h;have hn:news=[]:=gf (by rw[n1];simp);subst hn;cases A with
   |none=>exact run_firstCells_none _ _ _ _ _
   |some a=>exact run_firstCells_some W ks.length 0 a _ _ [] (by simp) (λj v hj=>by simp at hj)
  ·exact run_firstCells_some W ks.length ys.length _ _ _ news n1 (λj v hj=>by rw[hW,Addr.n9];exact h j v hj)
 refine⟨news,⟨.inl ⟨hu,by simp[pG],first w (λ_=>rfl),first w.drew (λ_=>rfl)⟩,n1,λv hv=> ?_⟩,n3⟩
 obtain⟨q,hq⟩:=bY hv;have XU:q<ys.length*ks.length:=by rw[<-n1];exact(aT.1 hq).1
 have hi:q/ks.length<ys.length:=by rw[yE lj];exact XU
 have hj:q%ks.length<ys[q/ks.length].length:=by rw[hl _ (bC hi)];exact Ds _ lj
 obtain⟨u',sA,hr⟩:=n3 (q/ks.length) ys[q/ks.length] (q%ks.length) (ys[q/ks.length][q%ks.length]) (by simp[hi]) (by simp[hj]);have:q/ks.length*ks.length+q%ks.length=q:=by have:=J4 q ks.length;rw[Et]at this;exact this
 rw[this,hq]at sA;cases sA;exact h1 _ _ _ _ hr
theorem TX(hE:eH P E)(cg:Ok E σ w c){tL el:aF}{te:TI}(ht:E.ty el=ah te)(lj:0<te.ks.length){u:aF}(hu:(∃e',P.underlying u=ah (.slice e'))\/P.underlying u=ah .string){z:dv bk}{b:aA aF}{x:AV}{v:bk}(hx:eM E w c x v)
  {AY:aX} {ys:aQ} {w2:aA (aF×eU)} (h:(TW E tL el te.ks b x).val σ=ah (AY,ys,w2)):
  ∃D news gx,w2=km D/\App P w u v z te.ks.length ys.length news/\ry E σ w c te b AY ys D news gx:=by
 have inK:∀D q,c.K q->K1 σ c D q:=λD q h=> .inl h;have PL:plain te.ks=ai->∀ys,ov w v ys te.ks.length (λ_ _ u x=>Sc u x)->(∀y∈ys,y.map CV.kd=te.ks)->∃D news gx,([]:aA (aF×eU))=km D/\App P w u v z te.ks.length ys.length news/\ry E σ w c te b ai ys D news gx:=by
  intro hp ys hs mN;obtain⟨news,n1,n2⟩:=rL (P:=P) (z:=z) hu lj hs mN (λi j u x hr=>by rw[hr.1];exact JS);refine⟨[],news,λ_ _=>⟨ai,0,0,0,0,0⟩,rfl,n1,mN,λ_ i y j x hy hx=> ?_,λh=>(by cases h),λ_ i j _ hn=>(by cases hn),λ_ i j _ _ _ _ hn=>(by cases hn),λn x hn=>(by cases hn)⟩
  obtain⟨u,hu,hr⟩:=n2 i y j x hy hx;exact⟨_,hu,uM (iv hp (mN y (aR hy)) hx) hr⟩
 have PLr:plain te.ks=ai->∀ys,(mF E x).val σ=ah (el,ys)->∃D news gx,([]:aA (aF×eU))=km D/\App P w u v z te.ks.length ys.length news/\ry E σ w c te b ai ys D news gx:=by intro hp ys hr;obtain⟨q1,q2,_⟩:=Ar cg hx hr ht hp;exact PL hp ys q1 q2
 have SH:∀ys,ov w v ys te.ks.length (λ_ _ u x=>da E w c.K u x)->(∀y∈ys,y.map CV.kd=te.ks)->∃D news gx,([]:aA (aF×eU))=km D/\App P w u v z te.ks.length ys.length news/\ry E σ w c te b ak ys D news gx:=by
  intro ys hs mN;obtain⟨news,n1,n2⟩:=rL (P:=P) (z:=z) hu lj hs mN (λi j u x hr=>hr.one);refine⟨[],news,λ_ _=>⟨ai,0,0,0,0,0⟩,rfl,n1,mN,λh=>(by cases h),λ_ i y j x hy hx=> ?_,λh=>(by cases h),λh=>(by cases h),λn x hn=>(by cases hn)⟩
  obtain⟨u,hu,hr⟩:=n2 i y j x hy hx;exact⟨_,hu,hr.frame (λ_ _=>rfl) (inK [])⟩
 have SHv:∀ys,da E w c.K v (.l el ys)->∃D news gx,([]:aA (aF×eU))=km D/\App P w u v z te.ks.length ys.length news/\ry E σ w c te b ak ys D news gx:=by intro ys hh;obtain⟨q1,q2⟩:=zR ht hh;exact SH ys q1 q2
 have HP:∀ys,da E w c.K v (.l el ys)->(mF E x).val σ=ah (el,ys)->∃D news gx,([]:aA (aF×eU))=km D/\App P w u v z te.ks.length ys.length news/\ry E σ w c te b (plain te.ks) ys D news gx:=by
  intro ys hh hr;cases hp:plain te.ks with
  |true=>exact PLr hp ys hr
  |false=>exact SHv ys hh
 have FZ:∀n xs lo hi,σ (c9 n)= .o (.row el ai xs)->n∉b->wV (c.P n) lo hi v->∃D news gx,[(c9 n,eU.o (.fU el xs))]=km D/\App P w u v z te.ks.length (eA xs lo hi).length news/\ry E σ w c te b ak (eA xs lo hi) D news gx:=by
  intro n xs lo hi hg K_ hv;obtain⟨⟨t2,q1,q2,q3⟩,q4,q5⟩:=cg.obj n _ hg;obtain rfl:te=t2:=aJ (ht.symm.trans q1);obtain⟨t3,r1,r2,r3⟩:=xU cg hg hv;obtain rfl:te=t3:=aJ (ht.symm.trans r1);let D:aA (aF×Obj):=[(n, .fU el xs)]
  have kin:∀i j,gk xs i j->(c.G n i j).nil=ak->K1 σ c D (c.G n i j).blk:=λi j hh hn=> .inr ⟨n,el,xs,_,aZ.2 rfl,hg, .inr ⟨rfl,i,j,hh,hn,rfl⟩⟩;have gg:jj w (c.P n) xs (λ_ _ u x=>da E w (K1 σ c D) u x):=q4.frame (λ_=>rfl) (λi j y x u hy hx hr=>by rw[bz rfl]at hr;exact yB hr (λhl hn=>kin i j ⟨y,x,hy,hx,hl⟩ hn));have D4:ov w v (eA xs lo hi) te.ks.length (λ_ _ u x=>da E w (K1 σ c D) u x):=by have:=L4 gg hv;rwa[q2]at this
  obtain⟨news,n1,n2⟩:=rL (P:=P) (z:=z) hu lj D4 r2 (λi j u x hr=>hr.one);refine⟨D,news,λ_ _=>⟨ai,0,0,0,0,0⟩,rfl,n1,r2,λh=>(by cases h),λ_=>n2,λh=>(by cases h),λh=>(by cases h),λm y hm=> ?_⟩
  rw[aZ]at hm;cases hm;exact⟨K_,⟨_,hg⟩, .inr ⟨rfl,el,xs,rfl,p_ ht q2 q3 gg (λhn=> .inr ⟨n,el,xs,_,aZ.2 rfl,hg, .inl ⟨hn,rfl⟩⟩),q4.n,te,ht,q2⟩⟩
 cases x with
 |s s=>
  obtain⟨h1,h⟩:=cS h;obtain⟨rfl,rfl,rfl⟩:=sP h;have hk:te.ks=[.i .u8]:=by
   unfold u8s at h1;split at h1
   ·assumption
   ·cases h1
  have hv:v= .string s:=hx.1;subst hv;refine⟨[],(s.data.map λb=>Value.int .u8 b.toNat).toList,λ_ _=>⟨ai,0,0,0,0,0⟩,rfl,⟨.inl ⟨hu, ?_, ?_, ?_⟩, ?_, ?_⟩,by rw[hk];exact JK s,λ_ i y j x hy hx=> ?_,λh=>(by cases h),λ_ i j _ hn=>(by cases hn),λ_ i j _ _ _ _ hn=>(by cases hn),λn x hn=>(by cases hn)⟩
  ·simp[pG,mf]
  ·simp[fC,mf];apply sE;simp
  ·simp[fC,mf];apply sE;simp
  ·rw[hk,mf];simp
  ·intro v hv;have hv:∃b,b∈s.data/\Value.int bh (b.toNat:aw)=v:=by simpa using hv
   obtain⟨b,_,rfl⟩:=hv;rfl
  ·obtain⟨rfl,b,hb,rfl⟩:=Hv hy hx;refine⟨.int .u8 b.toNat, ?_,rfl,trivial⟩
   rw[hk];simp[hb]
 |nl=>obtain⟨rfl,rfl,rfl⟩:=sP h;have hv:v= .slice aj 0 0:=hx;subst hv;refine⟨[],[],λ_ _=>⟨ai,0,0,0,0,0⟩,rfl,⟨.inl ⟨hu,by simp[pG],run_firstCells_none _ _ _ _ _,run_firstCells_none _ _ _ _ _⟩,by simp,λv hv=>(by cases hv)⟩,λy hy=>(by cases hy),λ_ i y j x hy=>(by simp at hy),λh=>(by cases h),λ_ i j _ hn=>(by cases hn),λ_ i j _ _ _ _ hn=>(by cases hn),λn x hn=>(by cases hn)⟩
 |sh e' xs=>obtain⟨h1,h9⟩:=cS h;have:=aU h1;subst this;have h:=h9;obtain⟨rfl,rfl,rfl⟩:=sP h;exact HP xs hx rfl
 |own n=>
  obtain⟨ob,hg,h⟩:=Rd.bind_some h;have hg:=dA hg;have hv:v=lT (c.P n):=hx;cases ob with
  |row e' ex xs=>
   obtain⟨h1,h9⟩:=cS h;have:=aU h1;subst this;have h:=h9;have Jh:(mF E (.own n)).val σ=ah (el,xs):=by simp[mF,jO,hg]
   have Ww:wV (c.P n) 0 xs.length v:=by rw[hv];exact wm cg hg
   cases hp:plain te.ks with
   |true=>rw[wX (by rw[hp];rfl)]at h;obtain⟨rfl,rfl,rfl⟩:=sP h;rw[hp];exact PLr hp xs Jh
   |false=>
    cases ex with
    |false=>rw[wX (by simp)]at h;obtain⟨rfl,rfl,rfl⟩:=sP h;rw[hp];obtain⟨t3,r1,r2,r3⟩:=xU cg hg Ww;obtain rfl:te=t3:=aJ (ht.symm.trans r1);rw[qV]at r2 r3;exact SH xs (r3.imp λi y j x u _ _ hr=>by simpa using hr) r2
    |true=>
     rw[EN (by rw[hp];rfl)]at h;cases hm:mK n b with
     |true=>rw[hm]at h;simp at h
     |false=>
      have K_:=qt hm;rw[hm]at h;cases G_:E.tk tL with
      |true=>rw[G_]at h;obtain⟨rfl,rfl,rfl⟩:=sP h;have:=FZ n xs 0 xs.length hg K_ Ww;rwa[qV]at this
      |false=>
       rw[G_]at h;obtain⟨rfl,rfl,rfl⟩:=sP h;obtain⟨t3,r1,r2,r3⟩:=xU cg hg Ww;obtain rfl:te=t3:=aJ (ht.symm.trans r1);rw[qV]at r2 r3;have r3':=r3.imp (R':=λi j u x=>XC E w (c.G n) i j u x) (λi y j x u _ _ hr=>by rw[bz rfl,bV]at hr;exact hr);obtain⟨news,n1,n2⟩:=rL (P:=P) (z:=z) hu lj r3' r2 (λi j u x hr=>hr.one);refine⟨[(n, .dead)],news,c.G n,rfl,n1,r2,λ_=>n2,λh=>(by cases h),λ_ i j hh hn=>⟨n,_,aZ.2 rfl,hg, .inr ⟨rfl,i,j,hh,hn,rfl⟩⟩,λ_=>((cg.obj n _ hg).inn rfl).one,λm y hm=> ?_⟩
       rw[aZ]at hm;cases hm;exact⟨K_,⟨_,hg⟩, .inl rfl⟩
  |fU e' xs=>obtain⟨h1,h9⟩:=cS h;have:=aU h1;subst this;have h:=h9;obtain⟨rfl,rfl,rfl⟩:=sP h;refine HP xs ?_ (by simp[mF,jO,hg]);rw[hv];exact(cg.obj n _ hg).1
  |_=>simp at h
 |vw n lo hi=>
  obtain⟨ob,hg,h⟩:=Rd.bind_some h;have hg:=dA hg;cases ob with
  |row e' ex xs=>
   obtain⟨h1,h9⟩:=cS h;have:=aU h1;subst this;have h:=h9;have Jh:(mF E (.vw n lo hi)).val σ=ah (el,eA xs lo hi):=by simp[mF,jO,hg]
   cases hp:plain te.ks with
   |true=>rw[wX (by rw[hp];rfl)]at h;obtain⟨rfl,rfl,rfl⟩:=sP h;rw[hp];exact PLr hp _ Jh
   |false=>
    cases ex with
    |false=>rw[wX (by simp)]at h;obtain⟨rfl,rfl,rfl⟩:=sP h;rw[hp];obtain⟨t3,r1,r2,r3⟩:=xU cg hg hx;obtain rfl:te=t3:=aJ (ht.symm.trans r1);exact SH _ (r3.imp λi y j x u _ _ hr=>by simpa using hr) r2
    |true=>
     rw[EN (by rw[hp];rfl)]at h;cases hm:mK n b with
     |true=>rw[hm]at h;simp at h
     |false=>
      have K_:=qt hm;rw[hm]at h;cases G_:E.tk tL with
      |true=>rw[G_]at h;obtain⟨rfl,rfl,rfl⟩:=sP h;exact FZ n xs lo hi hg K_ hx
      |false=>rw[G_]at h;simp at h
  |fU e' xs=>obtain⟨h1,h9⟩:=cS h;have:=aU h1;subst this;have h:=h9;obtain⟨rfl,rfl,rfl⟩:=sP h;exact HP _ (pz cg hg hx) (by simp[mF,jO,hg])
  |_=>simp at h
 |inn n i j=>obtain⟨h1,h⟩:=cS h;obtain⟨⟨e',xs⟩,h2,h⟩:=Rd.bind_some h;obtain⟨h3,h9⟩:=cS h;have:=aU h3;subst this;have h:=h9;obtain⟨rfl,rfl,rfl⟩:=sP h;exact PLr h1 xs h2
 |_=>simp[TW]at h
theorem PO(hE:eH P E)(cg:Ok E σ w c)(dL:fF E σ a w c)(hd:∀d,o.dst=ah d->d<a.tmps.size){cl:Call}(ho:o.op= .call cl)(hb:cl.callee= .builtin .append)(h:(mg E nm o).val σ=ah e)(hc:e.cond=ai):gY P E σ a w c o e.ws:=by
 simp only[mg,ho,hb]at h;split at h
 ·rename_i s x t u sq afs;obtain⟨ku,h1,h⟩:=Rd.bind_some h;obtain⟨sv,h2,h⟩:=Rd.bind_some h;obtain⟨xv,h3,h⟩:=Rd.bind_some h;obtain⟨es,_⟩:=i_ dL h2;obtain⟨ex,_⟩:=i_ dL h3;have sq:=Df sq;have afs:=Df afs;have exec:∀{r w'},(ix #[t,u] o.type #[a.eval s,a.eval x]).run P w= .ok r w'->(execOp a.eval o).run P w= .ok (.value r) w':=by intro r w' hr;obtain⟨cs,HY⟩:=mV (P:=P) (a:=a) (w:=w) ho hb;rw[HY,sq,afs];simp only[builtin,DE,fE,BU];exact i9 hr
  have APP:((∃e',P.underlying u=ah (.slice e'))\/P.underlying u=ah .string)->∀b v wl,(GJ E nm t sv xv).val σ=ah (b,v,wl)->b=ai->gY P E σ a w c o (wl++dw o (.v ak [v])):=by
   intro hu b v wl h hbt;obtain⟨ti,k1,h⟩:=Rd.bind_some h;have k1:=dX k1;split at h
   ·rename_i el uC A1;obtain⟨te,k2,h⟩:=Rd.bind_some h;have k2:=dX k2;obtain⟨zA,h⟩:=cS h;obtain⟨⟨Dt,xs,bl⟩,k3,h⟩:=Rd.bind_some h;obtain⟨⟨AY,ys,w2⟩,k4,h⟩:=Rd.bind_some h;obtain⟨_,k5,h⟩:=Rd.bind_some h;obtain⟨rfl,rfl,rfl⟩:=sP h;obtain⟨hf,jB⟩:=kJ k5;have ht:=pk hE k1 uC A1;obtain⟨inf,hi,gi,hby,lj,hz⟩:=hE.info el te k2;obtain⟨z,J8,D6,_⟩:=hz zA;obtain⟨p,g,hB⟩:=B7 cg k2 es k3;obtain⟨D,news,gx,rfl,hA,hM⟩:=TX (P:=P) (z:=z.cells) hE cg k2 lj hu ex k4;simp only[cy,aL,bf]at hbt;obtain⟨p',w',hr,hAd⟩:=tV (P:=P) (w:=w) (ty:=o.type) (p:=p) (x:=a.eval x) ht hi J8 (by rw[D6,hB.sz];simp) (by rw[gi,hB.sz]) (λhn=>by rw[hB.at_.n,(hB.at_.nil hn).1];rfl) (λhn=>by obtain⟨vals,m1,m2,m3,m4,_⟩:=hB.at_.mem hn;exact⟨vals,m1,m2,m3,m4⟩) (by rw[hB.sz];exact hA) (by rw[hB.at_.n,hby];exact hbt.1) (by rw[hB.at_.n];exact hbt.2);rw[<-hB.v]at hr;exact E0 cg dL hd k2 hf jB hB hM hAd (exec hr)
   ·simp at h
  have ZER:∀k,P.underlying u=ah (.int k)->∀(kn:nu) (n:aw),a.eval x= .int kn n->∀b v wl,(V9 E nm t sv n).val σ=ah (b,v,wl)->b=ai->gY P E σ a w c o (wl++dw o (.v ak [v])):=by
   intro k hu kn n hxn b v wl h hbt;obtain⟨ti,k1,h⟩:=Rd.bind_some h;have k1:=dX k1;split at h
   ·rename_i el uC A1;obtain⟨te,k2,h⟩:=Rd.bind_some h;have k2:=dX k2;obtain⟨QA,h⟩:=cS h;simp only[aL]at QA;obtain⟨zA,Po⟩:=QA;obtain⟨⟨Dt,xs,bl⟩,k3,h⟩:=Rd.bind_some h;obtain⟨_,k5,h⟩:=Rd.bind_some h;obtain⟨rfl,rfl,rfl⟩:=sP h;obtain⟨hf,jB⟩:=kJ k5;have ht:=pk hE k1 uC A1;obtain⟨inf,hi,gi,hby,lj,hz⟩:=hE.info el te k2;obtain⟨z,J8,D6,_⟩:=hz zA;obtain⟨p,g,hB⟩:=B7 cg k2 es k3;simp only[cy,aL,bf]at hbt;obtain⟨⟨c0,c1,c2⟩,c3⟩:=hbt;have Le:(aP te.ks n.toNat).length=n.toNat:=by simp[aP]
    have hzc:fO z.cells n.toNat=madeCells (te.ks.map iN).toArray (n.toNat*te.ks.length):=by rw[D6];show madeCells _ (n.toNat*(te.ks.map iN).toArray.size)=_;simp
    have hA:App P w u (a.eval x) z.cells te.ks.length (aP te.ks n.toNat).length (fO z.cells n.toNat).toList:=by
     refine⟨.inr ⟨⟨k,hu⟩,⟨kn, ?_⟩, ?_⟩, ?_,λv hv=> ?_⟩
     ·rw[hxn,Le,Int.toNat_of_nonneg c0]
     ·rw[Le]
     ·rw[Le,dS,size_zeroCells,D6];simp
     ·rw[hzc]at hv;obtain⟨q,hq⟩:=bY hv;have XU:q<n.toNat*te.ks.length:=by have:=(aT.1 hq).1;simpa [size_madeCells]using this
      have h1:q/te.ks.length<n.toNat:=by rw[yE lj];exact XU
      have h2:q%te.ks.length<te.ks.length:=Ds _ lj;have:=lU (n:=n.toNat) h1 (show te.ks[q%te.ks.length]? =ah te.ks[q%te.ks.length]by simp[h2]);rw[show q/te.ks.length*te.ks.length+q%te.ks.length=q by have:=J4 q te.ks.length;rw[Et]at this;exact this]at this;rw[cZ,this]at hq;cases hq;cases te.ks[q%te.ks.length]<;>rfl
    have hM:ry E σ w c te bl ai (aP te.ks n.toNat) [] (fO z.cells n.toNat).toList (Ls E te.ks):=by
     refine⟨yC zA _,λ_ i y j x hy hx=> ?_,λh=>(by cases h),λ_ i j _ hn=>(by cases hn),λ_ i j _ _ _ _ hn=>(by cases hn),λn x hn=>(by cases hn)⟩
     obtain⟨gh,k,hk,rfl⟩:=uP hy hx;refine⟨iN k, ?_,OD Po zA hk⟩
     rw[hzc,cZ];exact lU gh hk
    obtain⟨p',w',hr,hAd⟩:=tV (P:=P) (w:=w) (ty:=o.type) (p:=p) (x:=a.eval x) ht hi J8 (by rw[D6,hB.sz];simp) (by rw[gi,hB.sz]) (λhn=>by rw[hB.at_.n,(hB.at_.nil hn).1];rfl) (λhn=>by obtain⟨vals,m1,m2,m3,m4,_⟩:=hB.at_.mem hn;exact⟨vals,m1,m2,m3,m4⟩) (by rw[hB.sz];exact hA) (by rw[hB.at_.n,hby,Le];exact c1) (by rw[hB.at_.n,Le];exact c2);rw[<-hB.v]at hr;have:=E0 cg dL hd k2 hf jB hB hM hAd (exec hr);rw[js]at this;exact this
   ·simp at h
  cases ku with
  |i k=>
   cases xv with
   |i k' n=>obtain⟨⟨b,v,wl⟩,h4,h⟩:=Rd.bind_some h;obtain rfl:=aJ h;exact ZER k (zE hE h1) k' n ex b v wl h4 hc
   |_=>simp at h
  |l e'=>obtain⟨⟨b,v,wl⟩,h4,h⟩:=Rd.bind_some h;obtain rfl:=aJ h;exact APP (.inl ⟨e',kM hE h1⟩) b v wl h4 hc
  |s=>obtain⟨⟨b,v,wl⟩,h4,h⟩:=Rd.bind_some h;obtain rfl:=aJ h;exact APP (.inr (ll hE h1)) b v wl h4 hc
  |b=>simp at h
  |o=>simp at h
 ·simp at h
end
end Go.FG

namespace Go.FG
section
variable {P:c6} {E:fS} {σ:St} {a:Act} {w:bL} {c:e_} {o:fD} {nm:aF} {e:s5}
theorem Xk:∀{xs:aA AV} {cs:aA CV},(Sl.aeL xs).val σ=ah cs->cs.length=xs.length/\∀(vals:dv bk),f_ E w c vals xs->∀(q:aF) (x:CV),cs[q]? =ah x->∃u:bk,vals[q]? =ah u/\da E w c.K u x:=by
 intro xs;induction xs with
 |nil=>intro cs h;obtain rfl:=aJ h;exact⟨rfl,λ_ _ q x hq=>by simp at hq⟩
 |cons a xs ih=>
  intro cs h;obtain⟨l,h1,h⟩:=Rd.bind_some h;obtain⟨i1,i2⟩:=ih h1;have main:∀cv,(∀u,eM E w c a u->da E w c.K u cv)->cs=cv::l->cs.length=(a::xs).length/\∀(vals:dv bk),f_ E w c vals (a::xs)->∀(q:aF) (x:CV),cs[q]? =ah x->∃u:bk,vals[q]? =ah u/\da E w c.K u x:=by
   rintro cv hcv rfl;refine⟨by simp[i1],λvals hv q x hq=> ?_⟩
   cases q with
   |zero=>cases hq;obtain⟨u,hu,ha⟩:=hv.2 0 a rfl;exact⟨u,hu,hcv u ha⟩
   |succ q=>
    have Ny:f_ E w c (vals.extract 1 vals.size) xs:=by
     refine⟨by simp;have:=hv.1;simp at this;omega,λj b hj=> ?_⟩
     obtain⟨u,hu,hb⟩:=hv.2 (j+1) b hj;refine⟨u, ?_,hb⟩
     have:=(dV.1 hu).1;rw[ed,bz (by omega),ja];exact hu
    obtain⟨u,r1,r2⟩:=i2 _ Ny q x hq;refine⟨u, ?_,r2⟩
    rw[ed]at r1;split at r1
    ·rw[ja];exact r1
    ·cases r1
  cases a with
  |i k n=>exact main (.i k n) (λu hu=>by rw[show u=_ from hu];exact .i _ _) (aJ h).symm
  |b x=>exact main (.b x) (λu hu=>by rw[show u=_ from hu];exact .b _) (aJ h).symm
  |s x=>exact main (.s x) (λu hu=>by rw[show u=_ from hu.1];exact .s _ hu.2) (aJ h).symm
  |sh e xs=>exact main (.l e xs) (λu hu=>hu) (aJ h).symm
  |_=>simp at h
def ahJ(E:fS)(σ:St)(w:bL)(c:e_)(D:aA (aF×Obj))(cs:aA CV)(v:bk):Prop:=
 ∃n,v= .pointer (ah (ad (c.P n).blk 0))/\(((n,Obj.oa cs)∈D)\/σ (c9 n)= .o (.oa cs))
theorem Xl(cg:Ok E σ w c)(dL:fF E σ a w c):∀{xs:aA dz} {l:aA (aA CV)} {ws:aA (aF×eU)},(Sl xs).val σ=ah (l,ws)->l.length=xs.length/\∃D,ws=km D/\
  (∀n x,(n,x)∈D->∃cs ys,x= .oa cs/\σ (c9 n)= .o (.box ys)/\∀(q:aF) (y:CV),cs[q]? =ah y->∃u:bk,w.cell? (ad (c.P n).blk q)=ah u/\da E w c.K u y)/\
  ∀(q:aF) (cs:aA CV),l[q]? =ah cs->∃x,xs[q]? =ah x/\ahJ E σ w c D cs (a.eval x):=by
 intro xs;induction xs with
 |nil=>intro l ws h;obtain⟨rfl,rfl⟩:=bW (aJ h);exact⟨rfl,[],rfl,λn x h=>(by cases h),λq cs h=>by simp at h⟩
 |cons x xs ih=>
  intro l ws h;obtain⟨v,h1,h⟩:=Rd.bind_some h;have hv:=(i_ dL h1).1;split at h
  ·rename_i n;obtain⟨ob,hg,h⟩:=Rd.bind_some h;have hg:=dA hg;have hv:a.eval x= .pointer (ah (ad (c.P n).blk 0)):=hv;cases ob with
   |box ys=>
    obtain⟨cs,h2,h⟩:=Rd.bind_some h;obtain⟨⟨l',Ef⟩,h3,h⟩:=Rd.bind_some h;obtain⟨rfl,rfl⟩:=bW (aJ h);obtain⟨i1,D,rfl,i2,i3⟩:=ih h3;obtain⟨_,c2⟩:=Xk (E:=E) (w:=w) (c:=c) h2;obtain⟨vals,hb,gi,hcv⟩:=cg.obj n _ hg;refine⟨by simp[i1],(n, .oa cs)::D,rfl,λm y hm=> ?_,λq cs' hq=> ?_⟩
    ·rcases cC.1 hm with hm|hm
     ·cases hm;refine⟨cs,ys,rfl,hg,λq y hq=> ?_⟩
      obtain⟨u,hu,hh⟩:=c2 vals ⟨gi,hcv⟩ q y hq;exact⟨u,(hb.cell q).trans hu,hh⟩
     ·exact i2 m y hm
    ·cases q with
     |zero=>cases hq;exact⟨x,rfl,n,hv, .inl (dr ..)⟩
     |succ q=>obtain⟨x',pI,m,e1,e2⟩:=i3 q cs' hq;exact⟨x',pI,m,e1,e2.imp (c8 _) id⟩
   |oa cs=>
    obtain⟨⟨l',Ef⟩,h3,h⟩:=Rd.bind_some h;obtain⟨rfl,rfl⟩:=bW (aJ h);obtain⟨i1,D,rfl,i2,i3⟩:=ih h3;refine⟨by simp[i1],D,rfl,i2,λq cs' hq=> ?_⟩
    cases q with
    |zero=>cases hq;exact⟨x,rfl,n,hv, .inr hg⟩
    |succ q=>exact i3 q cs' hq
   |_=>simp at h
  ·simp at h
theorem JB(cg:Ok E σ w c)(dL:fF E σ a w c)(hd:∀d,o.dst=ah d->d<a.tmps.size){fn:Fn}{first iX:dv dz}(ho:o.op= .makeFunc fn first iX)(h:(mg E nm o).val σ=ah e):gY P E σ a w c o e.ws:=by
 cases fn with
 |func f=>
  simp only[mg,ho]at h;obtain⟨h1,h⟩:=cS h;obtain⟨⟨l,ws⟩,h2,h⟩:=Rd.bind_some h;obtain rfl:=aJ h;obtain⟨hl,D,rfl,hD,Pn⟩:=Xl cg dL h2;have HZ:first= #[]:=by simpa using h1
  let K':aF->Prop:=λb=>c.K b\/∃n x,(n,x)∈D/\b=(c.P n).blk;let c':e_:=⟨c.P,c.G,K'⟩
  have kin:∀b,c.K b->K' b:=λb h=> .inl h;have own:∀n x,(n,x)∈D->j_ (uR D) σ c (c.P n).blk:=λn x hm=>by obtain⟨cs,ys,_,hg,_⟩:=hD n x hm;exact⟨n,_,⟨x,hm⟩,hg,rfl⟩
  have fb:∀n cs,(n,Obj.oa cs)∈D->FB E w K' (c.P n).blk cs:=λn cs hm=>by obtain⟨cs',ys,hx,hg,hc⟩:=hD n _ hm;cases hx;exact⟨.inr ⟨n,_,hm,rfl⟩,λq x hq=>by obtain⟨u,hu,hh⟩:=hc q x hq;exact⟨u,hu,hh.frame (λ_ _=>rfl) kin⟩⟩
  refine KX cg dL hd (c':=c') (w':=w) (v:= .func (.func f) #[] (iX.map a.eval)) (λm _=>⟨rfl,rfl⟩) ?_ ?_ ?_ ?_ kin ?_ ?_ (λb _ _=>rfl) (cG _) rfl rfl rfl ?_ ?_ ?_
  ·intro n x hm;obtain⟨cs,ys,rfl,hg,hc⟩:=hD n x hm;exact fb n cs hm
  ·intro n x b hm hf;obtain⟨cs,ys,rfl,_⟩:=hD n x hm;exact hf.elim
  ·intro n x n' x' b hm _ hf;obtain⟨cs,ys,rfl,_⟩:=hD n x hm;exact hf.elim
  ·intro n xs hm;obtain⟨cs,ys,hx,_⟩:=hD n _ hm;cases hx
  ·rintro b (h|⟨n,x,hm,rfl⟩)
   ·exact .inl h
   ·exact .inr (.inl (own n x hm))
  ·rintro b (h|⟨n,x,hm,rfl⟩)
   ·exact cg.lt b h
   ·exact wI.lt cg (own n x hm).own
  ·refine⟨iX.map a.eval,rfl,by simp[hl],λq cs hq=> ?_⟩
   obtain⟨x,hx,n,hv,hor⟩:=Pn q cs hq;rw[cZ]at hx;refine⟨(c.P n).blk,by rw[OG,hx,<-hv];rfl, ?_⟩
   rcases hor with hm|hg
   ·exact fb n cs hm
   ·exact FB.frame (cg.obj n _ hg) (λ_ _=>rfl) kin
  ·intro n hn;simp[cQ,bS]at hn
  ·unfold execOp;rw[ho,HZ];refine i9 (s:=Wc (.func f) ((#[]:dv dz).map a.eval) (iX.map a.eval)) ?_;simp[Wc]
 |_=>simp[mg,ho]at h
end
end Go.FG

namespace Go.FG
theorem nX:∀{l:aA (aF×eU)} {k:aF} {c:eU},fN l k=c->c≠ .j8->(k,c)∈l:=by
 intro l;induction l with
 |nil=>intro k c h hc;exact cK h.symm hc
 |cons d l ih=>
  obtain⟨k',c'⟩:=d;intro k c h hc;unfold fN at h;cases hb:bD k k' with
  |true=>rw[hb]at h;have:=aU hb;subst this;have:c'=c:=h;subst this;exact dr ..
  |false=>rw[hb]at h;exact c8 _ (ih h hc)
theorem sd:∀{l:aA (aF×eU)} {k:aF} {c:eU},(k,c)∈l->(∀d∈l,d.2≠ .j8)->fN l k≠ .j8:=by
 intro l;induction l with
 |nil=>intro k c h;cases h
 |cons d l ih=>
  obtain⟨k',c'⟩:=d;intro k c h hn;unfold fN;cases hb:bD k k' with
  |true=>exact hn _ (dr ..)
  |false=>
   rcases cC.1 h with h|h
   ·cases h;simp at hb
   ·exact ih h (λd hd=>hn d (c8 _ hd))
theorem PJ{nm:aF}{a:AA}{k:aF}{c:eU}:(k,c)∈E7 nm a↔∃e ex xs,a= .ow e ex xs/\k=c9 nm/\c= .o (.row e ex xs):=by
 cases a with
 |ow e ex xs=>simp only[E7,aZ,jg];exact⟨λ⟨h1,h2⟩=>⟨e,ex,xs,rfl,h1,h2⟩,λ⟨e',uA,Mc,h,h1,h2⟩=>by cases h;exact⟨h1,h2⟩⟩
 |_=>simp[E7]
theorem CC:∀{xs:aA AA} {nm:aF} {k:aF} {c:eU},(k,c)∈tG nm xs↔∃j e ex ys,xs[j]? =ah (.ow e ex ys)/\k=c9 (nm+j)/\c= .o (.row e ex ys):=by
 intro xs;induction xs with
 |nil=>intro nm k c;simp[tG]
 |cons a xs ih=>
  intro nm k c;simp only[tG,ba,PJ,ih];constructor
  ·rintro (⟨e,ex,ys,rfl,h1,h2⟩|⟨j,e,ex,ys,h0,h1,h2⟩)
   ·exact⟨0,e,ex,ys,rfl,h1,h2⟩
   ·exact⟨j+1,e,ex,ys,h0,by rw[h1];congr 1;omega,h2⟩
  ·rintro ⟨j,e,ex,ys,h0,h1,h2⟩;cases j with
   |zero=>cases h0;exact .inl ⟨e,ex,ys,rfl,h1,h2⟩
   |succ j=>exact .inr ⟨j,e,ex,ys,h0,by rw[h1];congr 1;omega,h2⟩
theorem iD{p:aF}{a:fy}{k:aF}{c:eU}:(k,c)∈vv p a↔(∃xs,a= .pt xs/\k=c9 (dU p 900)/\c= .o (.box (gA (dU p 0) xs)))\/∃xs j e ex ys,((∃g,a= .v g xs)\/a= .pt xs)/\xs[j]? =ah (.ow e ex ys)/\k=c9 (dU p j)/\c= .o (.row e ex ys):=by
 have hn:∀j,dU p 0+j=dU p j:=λj=>by unfold dU;omega
 cases a with
 |v g xs=>
  simp only[vv,CC,hn];constructor
  ·rintro ⟨j,e,ex,ys,h⟩;exact .inr ⟨xs,j,e,ex,ys, .inl ⟨g,rfl⟩,h⟩
  ·rintro (⟨Mc,h,_⟩|⟨Mc,j,e,ex,ys,h,h'⟩)
   ·cases h
   ·rcases h with ⟨g',h⟩|h<;>cases h;exact⟨j,e,ex,ys,h'⟩
 |pt xs=>
  simp only[vv,cC,CC,hn,jg];constructor
  ·rintro (⟨h1,h2⟩|⟨j,e,ex,ys,h⟩)
   ·exact .inl ⟨xs,rfl,h1,h2⟩
   ·exact .inr ⟨xs,j,e,ex,ys, .inr rfl,h⟩
  ·rintro (⟨Mc,h,h1,h2⟩|⟨Mc,j,e,ex,ys,h,h'⟩)
   ·cases h;exact .inl ⟨h1,h2⟩
   ·rcases h with ⟨g',h⟩|h<;>cases h;exact .inr ⟨j,e,ex,ys,h'⟩
 |fb xs=>
  simp only[vv,gG,false_iff];rintro (⟨Mc,h,_⟩|⟨Mc,j,e,ex,ys,h,h'⟩)
  ·cases h
  ·rcases h with ⟨g',h⟩|h<;>cases h
theorem lV:∀{l:aA fy} {q:aF} {k:aF} {c:eU},(k,c)∈Lf q l↔∃p a,l[p]? =ah a/\((k=qu (q+p)/\c= .v (tH (q+p) a))\/(k,c)∈vv (q+p) a):=by
 intro l;induction l with
 |nil=>intro q k c;simp[Lf]
 |cons a l ih=>
  intro q k c;simp only[Lf,cC,ba,ih,jg];constructor
  ·rintro ((⟨h1,h2⟩|h)|⟨p,b,h0,h⟩)
   ·exact⟨0,a,rfl, .inl ⟨h1,h2⟩⟩
   ·exact⟨0,a,rfl, .inr h⟩
   ·exact⟨p+1,b,h0,by rw[show q+(p+1)=q+1+p by omega];exact h⟩
  ·rintro ⟨p,b,h0,h⟩;cases p with
   |zero=>
    cases h0;rcases h with ⟨h1,h2⟩|h
    ·exact .inl (.inl ⟨h1,h2⟩)
    ·exact .inl (.inr h)
   |succ p=>exact .inr (⟨p,b,h0,by rw[show q+1+p=q+(p+1)by omega];exact h⟩)
theorem Jk{l:aA fy}{q:aF}:∀d∈Lf q l,d.2≠ .j8:=by
 rintro ⟨k,c⟩ h;obtain⟨p,a,_,h⟩:=lV.1 h;rcases h with ⟨_,h⟩|h
 ·rw[h];simp
 ·rcases iD.1 h with ⟨_,_,_,h⟩|⟨_,_,_,_,_,_,_,_,h⟩<;>rw[h]<;>simp
theorem Bt{args:aA fy}{m:aF}{ob:Obj}(h:inj args (c9 m)= .o ob):∃p a,args[p]? =ah a/\((∃xs,a= .pt xs/\m=dU p 900/\ob= .box (gA (dU p 0) xs))\/∃xs j e ex ys,((∃g,a= .v g xs)\/a= .pt xs)/\xs[j]? =ah (.ow e ex ys)/\m=dU p j/\ob= .row e ex ys):=by
 obtain⟨p,a,h0,h⟩:=lV.1 (nX h (by simp));rw[bV]at h;refine⟨p,a,h0, ?_⟩
 rcases h with ⟨h,_⟩|h
 ·exact cK h (mv _ _)
 ·rcases iD.1 h with ⟨xs,h1,h2,h3⟩|⟨xs,j,e,ex,ys,h1,h2,h3,h4⟩
  ·cases h3;exact .inl ⟨xs,h1,jZ h2,rfl⟩
  ·cases h4;exact .inr ⟨xs,j,e,ex,ys,h1,h2,jZ h3,rfl⟩
theorem Jm{args:aA fy}{n:aF}:(∃a,args[n]? =ah a/\slot (inj args) n=tH n a)\/slot (inj args) n= .un:=by
 unfold slot;cases h:inj args (qu n)with
 |v x=>
  obtain⟨p,a,h0,h⟩:=lV.1 (nX h (by simp));rw[bV]at h;rcases h with ⟨h1,h2⟩|h
  ·have:=HB h1;subst this;cases h2;exact .inl ⟨a,h0,rfl⟩
  ·rcases iD.1 h with ⟨_,_,h,_⟩|⟨_,_,_,_,_,_,_,h,_⟩<;>exact cK h (sa _ _)
 |o=>exact .inr rfl
 |j8=>exact .inr rfl
theorem qN{args:aA fy}{p:aF}{a:fy}(h:args[p]? =ah a):(∀xs,a= .pt xs->inj args (c9 (dU p 900))≠ .j8)/\∀xs j e ex ys,((∃g,a= .v g xs)\/a= .pt xs)->xs[j]? =ah (.ow e ex ys)->inj args (c9 (dU p j))≠ .j8:=by
 constructor
 ·intro xs hx;exact sd (lV.2 ⟨p,a,h, .inr (iD.2 (.inl ⟨xs,hx,by rw[bV],rfl⟩))⟩) Jk
 ·intro xs j e ex ys hx hj;exact sd (lV.2 ⟨p,a,h, .inr (iD.2 (.inr ⟨xs,j,e,ex,ys,hx,hj,by rw[bV],rfl⟩))⟩) Jk
theorem iF:∀{xs:aA AA} {nm j:aF},(gA nm xs)[j]? =(xs[j]?).map (lB (nm+j)):=by
 intro xs;induction xs with
 |nil=>intro nm j;simp[gA]
 |cons a xs ih=>
  intro nm j;cases j with
  |zero=>rfl
  |succ j=>simp only[gA,dP,ih];congr 2;omega
theorem iV:∀{xs:aA AA} {nm:aF},(gA nm xs).length=xs.length:=by
 intro xs;induction xs with
 |nil=>intro nm;rfl
 |cons a xs ih=>intro nm;simp[gA,ih]
theorem tK{nm:aF}{a:AA}{n:aF}(h:n∈bS (lB nm a)):n=nm/\∃e ex ys,a= .ow e ex ys:=by cases a<;>simp[lB,bS]at h;exact⟨h,_,_,_,rfl⟩
theorem Jl{args:aA fy}(n:aF):mR (inj args) (slot (inj args) n):=by
 rcases Jm (args:=args) (n:=n)with ⟨a,h0,h⟩|h
 ·rw[h];intro m hm;have cells:∀xs,((∃g,a= .v g xs)\/a= .pt xs)->m∈(gA (dU n 0) xs).flatMap bS->inj args (c9 m)≠ .j8:=by
   intro xs hx hm;obtain⟨v,hv,hm⟩:=bQ.1 hm;obtain⟨j,hj⟩:=bY hv;rw[iF]at hj;cases hy:xs[j]? with
   |none=>rw[hy]at hj;cases hj
   |some y=>
    rw[hy]at hj;cases hj;obtain⟨rfl,e,ex,ys,rfl⟩:=tK hm;have:=(qN h0).2 xs j e ex ys hx hy;have hn:dU n 0+j=dU n j:=by unfold dU;omega
    rw[hn];exact this
  cases a with
  |v g xs=>exact cells xs (.inl ⟨g,rfl⟩) hm
  |pt xs=>
   have:m=dU n 900:=by simpa [tH,cQ,bS]using hm
   rw[this];exact(qN h0).1 xs rfl
  |fb xs=>simp[tH,cQ,bS]at hm
 ·rw[h];intro m hm;simp[cQ]at hm
theorem Ha{args:aA fy}{nm:aF}{xs:aA AV}(h:inj args (c9 nm)= .o (.box xs)):∀a∈xs,jh (inj args) a:=by
 obtain⟨p,a,h0,hh⟩:=Bt h;rcases hh with ⟨ys,rfl,_,hb⟩|⟨_,_,_,_,_,_,_,_,hb⟩
 ·cases hb;intro v hv m hm;obtain⟨j,hj⟩:=bY hv;rw[iF]at hj;cases hy:ys[j]? with
  |none=>rw[hy]at hj;cases hj
  |some y=>
   rw[hy]at hj;cases hj;obtain⟨rfl,e,ex,zs,rfl⟩:=tK hm;have:=(qN h0).2 ys j e ex zs (.inr rfl) hy;have hn:dU p 0+j=dU p j:=by unfold dU;omega
   rw[hn];exact this
 ·cases hb
end Go.FG

namespace Go.FG
theorem uH{p j:aF}(h:j<1000):(dU p j-900000000)/1000=p/\(dU p j-900000000)%1000=j:=by unfold dU;omega
theorem CJ(p j:aF):900000000<=dU p j:=by unfold dU;omega
theorem uI{p j p' j':aF}(h:j<1000)(h':j'<1000)(e:dU p j=dU p' j'):p=p'/\j=j':=by unfold dU at e;omega
section
variable {P:c6} {E:fS} {σ:St} {a:Act} {w:bL} {c:e_} {o:fD} {nm:aF} {e:s5}
theorem r_(cg:Ok E σ w c){n el:aF}{ex:aX}{xs:aQ}(hg:σ (c9 n)= .o (.row el ex xs)){K:aF->Prop}(hK:∀b,c.K b->K b)(hF:∀b,fM c n (.row el ex xs) b->K b):da E w K (lT (c.P n)) (.l el xs):=by
 obtain⟨⟨t2,q1,q2,q3⟩,q4,q5⟩:=cg.obj n _ hg;refine p_ q1 q2 q3 (q4.frame (λ_=>rfl) (λi j y x u hy hx hr=> ?_)) (λhn=>hF _ (.inl ⟨hn,rfl⟩));split at hr
 ·rename_i pI;exact yB hr (λhl hn=>hF _ (.inr ⟨pI,i,j,⟨y,x,hy,hx,hl⟩,hn,rfl⟩))
 ·exact hr.frame (λ_ _=>rfl) hK
theorem Fx(cg:Ok E σ w c){n el:aF}{ex:aX}{xs:aQ}(hg:σ (c9 n)= .o (.row el ex xs)){K:aF->Prop}(hK:∀b,c.K b->K b)(hF:∀b,fM c n (.row el ex xs) b->K b){lo hi:aF}{v:bk}(hv:wV (c.P n) lo hi v):da E w K v (.l el (eA xs lo hi)):=by obtain⟨⟨t2,q1,q2,q3⟩,q4,q5⟩:=cg.obj n _ hg;exact Jf q1 (r_ cg hg hK hF) q4.n q2 hv
def K1r(σ:St)(c:e_)(nL:aA aF)(b:aF):Prop:=c.K b\/∃n∈nL,∃o,σ (c9 n)= .o o/\fM c n o b
def vP(T:Tab)(σ:St)(w:bL)(c:e_)(nL:aA aF)(k:Pk)(u:bk):Prop:=
 match k.src with
 | .own nm e ex=>∃xs,σ (c9 nm)= .o (.row e ex xs)/\k.a= .ow e ex xs/\u=lT (c.P nm)
 | .no=>(∀c1:e_,(∀b,K1r σ c nL b->c1.K b)->∀nm,eM T w c1 (lB nm k.a) u)/\∀e ex xs,k.a≠ .ow e ex xs
theorem vP.mono{T:Tab}{nL UT:aA aF}{k:Pk}{u:bk}(h:vP T σ w c nL k u)(hs:∀n∈nL,n∈UT):vP T σ w c UT k u:=by
 unfold vP at h⊢;split
 ·rename_i hk;rw[hk]at h;exact h
 ·rename_i hk;rw[hk]at h;exact⟨λc1 h1=>h.1 c1 (λb hb=>h1 b (hb.imp id (λ⟨n,hn,hh⟩=>⟨n,hs n hn,hh⟩))),h.2⟩
theorem CT(cg:Ok E σ w c){mt:aX}{x:AV}{k:Pk}{u:bk}(h:(Ao E mt x).val σ=ah k)(hx:eM E w c x u):vP E σ w c k.rd k u:=by
 have rd:∀{n el:aF} {ex:aX} {xs:aQ},σ (c9 n)= .o (.row el ex xs)->∀c1:e_,(∀b,K1r σ c [n] b->c1.K b)->(∀b,c.K b->c1.K b)/\∀b,fM c n (.row el ex xs) b->c1.K b:=λhg c1 h=>⟨λb hb=>h b (.inl hb),λb hb=>h b (.inr ⟨_,aZ.2 rfl,_,hg,hb⟩)⟩
 cases x with
 |i=>obtain rfl:=aJ h;exact⟨λc1 _ _=>hx,λ_ _ _ hh=>by cases hh⟩
 |b=>obtain rfl:=aJ h;exact⟨λc1 _ _=>hx,λ_ _ _ hh=>by cases hh⟩
 |s=>obtain rfl:=aJ h;exact⟨λc1 _ _=>hx,λ_ _ _ hh=>by cases hh⟩
 |nl=>obtain rfl:=aJ h;exact⟨λc1 _ _=>hx,λ_ _ _ hh=>by cases hh⟩
 |sh e xs=>obtain rfl:=aJ h;exact⟨λc1 h1 _=>da.frame hx (λ_ _=>rfl) (λb hb=>h1 b (.inl hb)),λ_ _ _ hh=>by cases hh⟩
 |fn f iX=>obtain rfl:=aJ h;exact⟨λc1 h1 _=>eM.frame (a:= .fn f iX) hx (λ_ _=>rfl) (λb hb=>h1 b (.inl hb)) (λn hn=>by simp[bS]at hn),λ_ _ _ hh=>by cases hh⟩
 |own n=>
  obtain⟨ob,hg,h⟩:=Rd.bind_some h;have hg:=dA hg;have hx:u=lT (c.P n):=hx;cases ob with
  |row el ex xs=>
   cases mt with
   |true=>obtain rfl:=aJ h;exact⟨xs,hg,rfl,hx⟩
   |false=>
    obtain rfl:=aJ h;refine⟨λc1 h1 _=> ?_,λ_ _ _ hh=>by cases hh⟩
    obtain⟨r1,r2⟩:=rd hg c1 h1;rw[hx];exact r_ cg hg r1 r2
  |fU el xs=>
   obtain rfl:=aJ h;refine⟨λc1 h1 _=> ?_,λ_ _ _ hh=>by cases hh⟩
   rw[hx];exact da.frame (cg.obj n _ hg).1 (λ_ _=>rfl) (λb hb=>h1 b (.inl hb))
  |_=>simp at h
 |vw n lo hi=>
  cases mt with
  |true=>simp[Ao]at h
  |false=>
  obtain⟨ob,hg,h⟩:=Rd.bind_some h;have hg:=dA hg;cases ob with
  |row el ex xs=>
   obtain rfl:=aJ h;refine⟨λc1 h1 _=> ?_,λ_ _ _ hh=>by cases hh⟩
   obtain⟨r1,r2⟩:=rd hg c1 h1;exact Fx cg hg r1 r2 hx
  |fU el xs=>
   obtain rfl:=aJ h;refine⟨λc1 h1 _=> ?_,λ_ _ _ hh=>by cases hh⟩
   exact da.frame (pz cg hg hx) (λ_ _=>rfl) (λb hb=>h1 b (.inl hb))
  |_=>simp at h
 |inn n i j=>
  obtain⟨ob,hg,h⟩:=Rd.bind_some h;have hg:=dA hg;cases ob with
  |row el ex xs=>
   cases ex with
   |false=>simp at h
   |true=>
   obtain⟨te,ht,h⟩:=Rd.bind_some h;have ht:=dX ht;split at h
   ·rename_i e2 Aj;obtain⟨t2,G9,h⟩:=Rd.bind_some h;obtain⟨_,h⟩:=cS h;obtain rfl:=aJ h;obtain⟨⟨hi,hx⟩,_⟩:=hx;obtain⟨zs,y,t3,q1,q2,q3,q4,q5,q6,q7,q8⟩:=Bu cg hg ht Aj hi;refine⟨λc1 h1 _=> ?_,λ_ _ _ hh=>by cases hh⟩
    show da E w c1.K u (.l e2 (jx (ar xs i j)));rw[fH q1 q2,hx];obtain⟨r1,r2⟩:=rd hg c1 h1;exact p_ q3 q5 q6 (q7.frame (λ_=>rfl) (λi' j' y' x' u' hy' pI hr=>kR (iv q4 (q6 y' (aR hy')) pI) hr)) (λhn=>r2 _ (.inr ⟨rfl,i,j,⟨y,_,q1,q2,rfl⟩,hn,rfl⟩))
   ·simp at h
  |_=>simp at h
 |_=>simp[Ao]at h
theorem Fo(cg:Ok E σ w c){mt:aX}:∀{xs:aA AV} {l:aA Pk},(CU E mt xs).val σ=ah l->l.length=xs.length/\∀(j:aF) (k:Pk),l[j]? =ah k->∃x,xs[j]? =ah x/\(Ao E mt x).val σ=ah k:=by
 intro xs;induction xs with
 |nil=>intro l h;obtain rfl:=aJ h;exact⟨rfl,λj k h=>by simp at h⟩
 |cons x xs ih=>
  intro l h;obtain⟨k,h1,h⟩:=Rd.bind_some h;obtain⟨l',h2,h⟩:=Rd.bind_some h;obtain rfl:=aJ h;obtain⟨i1,i2⟩:=ih h2;refine⟨by simp[i1],λj k' hj=> ?_⟩
  cases j with
  |zero=>cases hj;exact⟨x,rfl,h1⟩
  |succ j=>exact i2 j k' hj
structure AF (T:Tab) (σ:St) (w:bL) (c:e_) (nL:aA aF) (pa:Pa) (v:bk):Prop where
 len:pa.cs.length<=100
 val:pa.box=aj->∃agg,pa.arg= .v agg (pa.cs.map (·.a))/\((agg=ak/\∃k,pa.cs=[k]/\vP T σ w c nL k v)\/(agg=ai/\∃vals:dv bk,v= .agg vals/\vals.size=pa.cs.length/\∀(j:aF) (k:Pk),pa.cs[j]? =ah k->∃u:bk,vals[j]? =ah u/\vP T σ w c nL k u))
 box:∀n xs,pa.box=ah (n,xs)->pa.arg= .pt (pa.cs.map (·.a))/\v= .pointer (ah (ad (c.P n).blk 0))/\σ (c9 n)= .o (.box xs)/\pa.cs.length=xs.length/\
  (∃vals,nZ w (c.P n).blk vals/\vals.size=xs.length/\∀(j:aF) (k:Pk),pa.cs[j]? =ah k->∃u:bk,vals[j]? =ah u/\vP T σ w c nL k u)/\
  ∀(j:aF) (k:Pk) (nm e:aF) (ex:aX),pa.cs[j]? =ah k->k.src= .own nm e ex->xs[j]? =ah (.own nm)
theorem Hi{pa:Pa}{j:aF}{k:Pk}(h:pa.cs[j]? =ah k):∀n∈k.rd,n∈pa.nL:=λn hn=>bQ.2 ⟨k,aR h,hn⟩
theorem PW{mt:aX}{x:AV}{k:Pk}(h:(Ao E mt x).val σ=ah k){nm e:aF}{ex:aX}(hs:k.src= .own nm e ex):x= .own nm:=by
 cases x with
 |own n=>
  obtain⟨ob,hg,h⟩:=Rd.bind_some h;cases ob with
  |row el uA xs=>
   cases mt with
   |true=>obtain rfl:=aJ h;cases hs;rfl
   |false=>obtain rfl:=aJ h;cases hs
  |fU el xs=>obtain rfl:=aJ h;cases hs
  |_=>simp at h
 |vw n lo hi=>
  cases mt with
  |true=>simp[Ao]at h
  |false=>
  obtain⟨ob,hg,h⟩:=Rd.bind_some h;cases ob with
  |row=>obtain rfl:=aJ h;cases hs
  |fU=>obtain rfl:=aJ h;cases hs
  |_=>simp at h
 |inn n i j=>
  obtain⟨ob,hg,h⟩:=Rd.bind_some h;cases ob with
  |row el ex xs=>
   cases ex with
   |false=>simp at h
   |true=>
   obtain⟨te,ht,h⟩:=Rd.bind_some h;split at h
   ·obtain⟨t2,G9,h⟩:=Rd.bind_some h;obtain⟨_,h⟩:=cS h;obtain rfl:=aJ h;cases hs
   ·simp at h
  |_=>simp at h
 |i=>obtain rfl:=aJ h;cases hs
 |b=>obtain rfl:=aJ h;cases hs
 |s=>obtain rfl:=aJ h;cases hs
 |nl=>obtain rfl:=aJ h;cases hs
 |sh=>obtain rfl:=aJ h;cases hs
 |fn=>obtain rfl:=aJ h;cases hs
 |_=>simp[Ao]at h
theorem Xd(cg:Ok E σ w c){mt:aX}{x:SV}{pa:Pa}{v:bk}(h:(aeE E mt x).val σ=ah pa)(hl:pa.cs.length<=100)(hx:jk E w c x v):AF E σ w c pa.nL pa v:=by
 have gen:∀agg xs,x= .v agg xs->((CU E mt xs).bind λl=>Rd.ret (⟨.v agg (l.map (·.a)),aj,l⟩:Pa)).val σ=ah pa->AF E σ w c pa.nL pa v:=by
  rintro agg xs rfl h;obtain⟨l,h1,h⟩:=Rd.bind_some h;obtain rfl:=aJ h;obtain⟨i1,i2⟩:=Fo cg h1;refine⟨hl,λ_=>⟨agg,rfl, ?_⟩,λn ys hb=>by cases hb⟩
  replace hx:qn E w c agg xs v:=hx;unfold qn at hx;split at hx
  ·rename_i y;left;obtain⟨k,rfl⟩:=gZ.1 (i1.trans rfl);obtain⟨y',hy,hk⟩:=i2 0 k rfl;cases hy;exact⟨rfl,k,rfl,(CT cg hk hx).mono (Hi (j:=0) (pa:=⟨.v ak ([k].map (·.a)),aj,[k]⟩) rfl)⟩
  ·obtain⟨vals,rfl,hs,hv⟩:=hx;right;refine⟨rfl,vals,rfl,by rw[hs];exact i1.symm,λj k hj=> ?_⟩
   obtain⟨y,hy,hk⟩:=i2 j k hj;obtain⟨u,hu,ha⟩:=hv j y hy;exact⟨u,hu,(CT cg hk ha).mono (Hi (j:=j) (pa:=⟨.v ai (l.map (·.a)),aj,l⟩) hj)⟩
  ·exact hx.elim
 unfold aeE at h;split at h
 ·rename_i n;obtain⟨_,h⟩:=cS h;obtain⟨ob,hg,h⟩:=Rd.bind_some h;have hg:=dA hg;cases ob with
  |box xs=>
   obtain⟨l,h1,h⟩:=Rd.bind_some h;obtain rfl:=aJ h;obtain⟨i1,i2⟩:=Fo cg h1;obtain⟨vals,hb,hs,hv⟩:=cg.obj n _ hg;refine⟨hl,λhb=>(by cases hb),λm ys Qz=> ?_⟩
   cases Qz;refine⟨rfl,hx,hg,i1,⟨vals,hb,hs,λj k hj=> ?_⟩,λj k nm e ex hj D4=> ?_⟩
   ·obtain⟨y,hy,hk⟩:=i2 j k hj;obtain⟨u,hu,ha⟩:=hv j y hy;exact⟨u,hu,(CT cg hk ha).mono (Hi (j:=j) (pa:=⟨.pt (l.map (·.a)),ah (n,xs),l⟩) hj)⟩
   ·obtain⟨y,hy,hk⟩:=i2 j k hj;rw[hy,PW hk D4]
  |_=>simp at h
 ·rename_i agg xs _;exact gen _ _ rfl h
 ·simp at h
theorem NM{T:Tab}{k:Ck}{y:AV}{u:bk}(h:eM T w c y u):eM T w c (Zg k y) u:=by
 unfold Zg;split
 ·rename_i e;have:u= .slice aj 0 0:=h;subst this;exact .nl _ _ _
 ·exact h
theorem Jx:∀(ks:aA Ck) (xs:aA AV),(CI ks xs).length=xs.length
 |[],[]=>rfl
 |[],_::_=>rfl
 |_::_,[]=>rfl
 |k::ks,y::r=>by simp[CI,Jx ks r]
theorem NN{T:Tab}:∀(ks:aA Ck) (xs:aA AV) (j:aF) (y:AV),(CI ks xs)[j]? =ah y->∃z,xs[j]? =ah z/\∀u,eM T w c z u->eM T w c y u
 |[],xs,j,y,h=>⟨y,by simpa [CI]using h,λ_ h=>h⟩
 |_::_,[],j,y,h=>by simp[CI]at h
 |k::ks,x::r,0,y,h=>by
  simp only[CI,sF,jD]at h;subst h;exact⟨x,rfl,λu hu=>NM hu⟩
 |k::ks,x::r,j+1,y,h=>by simp only[CI,dP]at h;exact NN ks r j y h
theorem agb{T:Tab}{t:az aF}{s:SV}{v:bk}(h:jk T w c s v):jk T w c (nlz T t s) v:=by
 unfold nlz;split
 ·exact h
 ·split
  ·rename_i ti g xs _;have h:qn T w c g xs v:=h;show qn T w c g (CI ti.ks xs) v;unfold qn at h;split at h
   ·rename_i y;cases hk:ti.ks with
    |nil=>exact h
    |cons k ks=>
     have e:∀z,CI (k::ks) [z]=[Zg k z]:=λz=>by cases ks<;>rfl
     rw[e];exact NM h
   ·obtain⟨vals,h1,h2,h3⟩:=h;refine⟨vals,h1,by rw[Jx];exact h2,λj y hj=> ?_⟩
    obtain⟨z,hz,hy⟩:=NN (T:=T) (w:=w) (c:=c) ti.ks _ j y hj;obtain⟨u,hu,ha⟩:=h3 j z hz;exact⟨u,hu,hy u ha⟩
   ·cases h
  ·exact h
theorem Sf(cg:Ok E σ w c)(dL:fF E σ a w c){f:aF}{QH:az (aA aF)}:∀{xs:aA dz} {p:aF} {ps:aA Pa},(Sd E f QH p xs).val σ=ah ps->ps.length=xs.length/\∀(q:aF) (pa:Pa),ps[q]? =ah pa->∃x,xs[q]? =ah x/\AF E σ w c pa.nL pa (a.eval x):=by
 intro xs;induction xs with
 |nil=>intro p ps h;obtain rfl:=aJ h;exact⟨rfl,λq pa h=>by simp at h⟩
 |cons x xs ih=>
  intro p ps h;obtain⟨v,h1,h⟩:=Rd.bind_some h;obtain⟨pa,h2,h⟩:=Rd.bind_some h;obtain⟨hl,h⟩:=cS h;obtain⟨l,h3,h⟩:=Rd.bind_some h;obtain rfl:=aJ h;obtain⟨i1,i2⟩:=ih h3;refine⟨by simp[i1],λq pa' hq=> ?_⟩
  cases q with
  |zero=>
   cases hq;refine⟨x,rfl,Xd cg h2 (cO hl) ?_⟩
   cases E.mode f p with
   |true=>exact(mw dL h1).1
   |false=>exact agb (mw dL h1).1
  |succ q=>exact i2 q pa' hq
theorem AF.mono{T:Tab}{nL UT:aA aF}{pa:Pa}{v:bk}(h:AF T σ w c nL pa v)(hs:∀n∈nL,n∈UT):AF T σ w c UT pa v:=by
 refine⟨h.len,λhb=> ?_,λn xs hb=> ?_⟩
 ·obtain⟨agg,h1,h2⟩:=h.val hb;refine⟨agg,h1, ?_⟩
  rcases h2 with ⟨h3,k,h4,h5⟩|⟨h3,vals,h4,h5,h6⟩
  ·exact .inl ⟨h3,k,h4,h5.mono hs⟩
  ·exact .inr ⟨h3,vals,h4,h5,λj k hj=>by obtain⟨u,hu,hk⟩:=h6 j k hj;exact⟨u,hu,hk.mono hs⟩⟩
 ·obtain⟨h1,h2,h3,h4,⟨vals,h5,h6,h7⟩,h8⟩:=h.box n xs hb;exact⟨h1,h2,h3,h4,⟨vals,h5,h6,λj k hj=>by obtain⟨u,hu,hk⟩:=h7 j k hj;exact⟨u,hu,hk.mono hs⟩⟩,h8⟩
end
end Go.FG

namespace Go.FG
theorem lW{α:Type}{f:α->aA aF}:∀{l:aA α},(l.flatMap f).Nodup->(∀(i j:aF) (x y:α) (z:aF),l[i]? =ah x->l[j]? =ah y->z∈f x->z∈f y->i=j)/\∀x∈l,(f x).Nodup:=by
 intro l;induction l with
 |nil=>intro _;exact⟨λi j x y z h=>by simp at h,λx h=>by cases h⟩
 |cons a l ih=>
  intro h;rw[yR]at h;obtain⟨h1,h2,h3⟩:=eQ.1 h;obtain⟨i1,i2⟩:=ih h2;refine⟨λi j x y z hi hj hx hy=> ?_,λx hx=> ?_⟩
  ·cases i with
   |zero=>
    cases hi;cases j with
    |zero=>rfl
    |succ j=>exact cK rfl (h3 z hx z (bQ.2 ⟨y,aR hj,hy⟩))
   |succ i=>
    cases j with
    |zero=>cases hj;exact cK rfl (h3 z hy z (bQ.2 ⟨x,aR hi,hx⟩))
    |succ j=>rw[i1 i j x y z hi hj hx hy]
  ·rcases cC.1 hx with rfl|hx
   ·exact h1
   ·exact i2 x hx
def loc(ps:aA Pa)(m:aF):az aF:=
 match ps[(m-900000000)/1000]? with
 |none=>aj
 |some pa=>if(m-900000000)%1000=900 then pa.box.map (·.1)else(pa.cs[(m-900000000)%1000]?).bind λk=>match k.src with| .own nm _ _=>ah nm| .no=>aj
theorem Hg{ps:aA Pa}{p j:aF}{pa:Pa}{k:Pk}{nm e:aF}{ex:aX}(hp:ps[p]? =ah pa)(hj:pa.cs[j]? =ah k)(hs:k.src= .own nm e ex)(hl:j<900):loc ps (dU p j)=ah nm:=by obtain⟨h1,h2⟩:=uH (p:=p) (j:=j) (by omega);unfold loc;rw[h1,h2,hp];simp only;rw[bH (by omega),hj];simp only[Option.bind_some,hs]
theorem Bv{ps:aA Pa}{p n:aF}{pa:Pa}{xs:aA AV}(hp:ps[p]? =ah pa)(hb:pa.box=ah (n,xs)):loc ps (dU p 900)=ah n:=by obtain⟨h1,h2⟩:=uH (p:=p) (j:=900) (by omega);unfold loc;rw[h1,h2,hp];simp[hb]
def qL(σ:St)(c:e_)(ps:aA Pa):e_:=
 ⟨λm=>match loc ps m with|some n=>c.P n|none=>⟨ai,0,0,0,0,0⟩,λm=>match loc ps m with|some n=>c.G n|none=>λ_ _=>⟨ai,0,0,0,0,0⟩,K1r σ c (ps.flatMap (·.nL))⟩
theorem uw{σ:St}{c:e_}{ps:aA Pa}{m n:aF}(h:loc ps m=ah n):(qL σ c ps).P m=c.P n/\(qL σ c ps).G m=c.G n:=by unfold qL;simp only[h];exact⟨trivial,trivial⟩
section
variable {P:c6} {E:fS} {σ:St} {a:Act} {w:bL} {c:e_} {o:fD} {nm:aF} {e:s5}
structure Handed (T:Tab) (σ:St) (w:bL) (c:e_) (ps:aA Pa) (Bo:aA (aA CV)) (vs:dv bk):Prop where
 size:vs.size=ps.length+Bo.length
 at_:∀(q:aF) (pa:Pa),ps[q]? =ah pa->∃v,vs[q]? =ah v/\AF T σ w c (ps.flatMap (·.nL)) pa v
 fb:∀(q:aF) (cs:aA CV),Bo[q]? =ah cs->∃b,vs[ps.length+q]? =ah (.pointer (ah (ad b 0)))/\FB T w c.K b cs
 nd:(ps.flatMap (·.uG)).Nodup
 ap:∀n∈ps.flatMap (·.uG),n∉ps.flatMap (·.nL)
def jN(ps:aA Pa)(Bo:aA (aA CV)):aA fy:=ps.map (·.arg)++Bo.map fy.fb
theorem v7{ps:aA Pa}{Bo:aA (aA CV)}{p:aF}{x:fy}(h:(jN ps Bo)[p]? =ah x):(∃pa,ps[p]? =ah pa/\x=pa.arg)\/(ps.length<=p/\∃cs,Bo[p-ps.length]? =ah cs/\x= .fb cs):=by
 unfold jN at h;by_cases hp:p<ps.length
 ·rw[dI (by simpa using hp),bK]at h;cases hq:ps[p]? with
  |none=>rw[hq]at h;cases h
  |some pa=>rw[hq]at h;cases h;exact .inl ⟨pa,rfl,rfl⟩
 ·rw[db (by simp;omega),bK,bU]at h;cases hq:Bo[p-ps.length]? with
  |none=>rw[hq]at h;cases h
  |some cs=>rw[hq]at h;cases h;exact .inr ⟨by omega,cs,rfl,rfl⟩
theorem UH{T:Tab}{ps:aA Pa}{p j:aF}{pa:Pa}{k:Pk}{u:bk}(hp:ps[p]? =ah pa)(hj:pa.cs[j]? =ah k)(hl:j<900)(h:vP T σ w c (ps.flatMap (·.nL)) k u):eM T w (qL σ c ps) (lB (dU p j) k.a) u:=by
 unfold vP at h;split at h
 ·rename_i n e ex hs;obtain⟨xs,h1,h2,h3⟩:=h;rw[h2];show u=lT ((qL σ c ps).P (dU p j));rw[(uw (Hg hp hj hs hl)).1];exact h3
 ·exact h.1 _ (λb hb=>hb) _
theorem UF{T:Tab}{nL:aA aF}{pa:Pa}{v:bk}(h:AF T σ w c nL pa v){xs:aA AA}(hx:(∃g,pa.arg= .v g xs)\/pa.arg= .pt xs):xs=pa.cs.map (·.a)/\∀(j:aF) (k:Pk),pa.cs[j]? =ah k->∃u,vP T σ w c nL k u:=by
 cases hb:pa.box with
 |none=>
  obtain⟨agg,h1,h2⟩:=h.val hb;rw[h1]at hx;have:xs=pa.cs.map (·.a):=by rcases hx with ⟨g,hx⟩|hx<;>cases hx;rfl
  refine⟨this,λj k hj=> ?_⟩
  rcases h2 with ⟨_,k',hk,hp⟩|⟨_,vals,_,_,hp⟩
  ·rw[hk]at hj;cases j with
   |zero=>cases hj;exact⟨_,hp⟩
   |succ j=>simp at hj
  ·obtain⟨u,_,hu⟩:=hp j k hj;exact⟨u,hu⟩
 |some nx=>
  obtain⟨n,ys⟩:=nx;obtain⟨h1,_,_,_,⟨vals,_,_,hp⟩,_⟩:=h.box n ys hb;rw[h1]at hx;have:xs=pa.cs.map (·.a):=by rcases hx with ⟨g,hx⟩|hx<;>cases hx;rfl
  exact⟨this,λj k hj=>by obtain⟨u,_,hu⟩:=hp j k hj;exact⟨u,hu⟩⟩
theorem xJ(cg:Ok E σ w c){ps:aA Pa}{Bo:aA (aA CV)}{vs:dv bk}(hh:Handed E σ w c ps Bo vs){m:aF}{ob:Obj}(h:inj (jN ps Bo) (c9 m)= .o ob):
  ∃n o p pa,loc ps m=ah n/\ps[p]? =ah pa/\n∈pa.uG/\σ (c9 n)= .o o/\pS E w (qL σ c ps) m ob/\(∀b,fM (qL σ c ps) m ob b->fM c n o b)/\
   ((m=dU p 900/\∃xs,pa.box=ah (n,xs))\/∃j k e ex,m=dU p j/\j<900/\pa.cs[j]? =ah k/\k.src= .own n e ex):=by
 obtain⟨p,x,h0,h⟩:=Bt h;have auT:∀cs xs,x= .fb cs->¬((∃g,x= .v g xs)\/x= .pt xs):=by rintro cs xs rfl (⟨g,h⟩|h)<;>cases h
 rcases v7 h0 with ⟨pa,hp,rfl⟩|⟨_,cs,_,hx⟩
 ·obtain⟨v,hv,La⟩:=hh.at_ p pa hp;rcases h with ⟨xs,hx,rfl,rfl⟩|⟨xs,j,e,ex,ys,hx,hj,rfl,rfl⟩
  ·cases hb:pa.box with
   |none=>obtain⟨agg,h1,_⟩:=La.val hb;rw[h1]at hx;cases hx
   |some nx=>
    obtain⟨n,zs⟩:=nx;obtain⟨h1,h2,h3,h4,⟨vals,h5,h6,h7⟩,_⟩:=La.box n zs hb;rw[h1]at hx;cases hx;have SW:=Bv hp hb;obtain⟨e1,e2⟩:=uw (σ:=σ) (c:=c) SW;refine⟨n,_,p,pa,SW,hp,by simp[Pa.uG,hb],h3, ?_,λb hf=>by rw[show b=_ from hf,e1];rfl, .inl ⟨rfl,zs,hb⟩⟩
    refine⟨vals,by rw[e1];exact h5,by rw[iV,bU,h6];exact h4.symm,λj y hj=> ?_⟩
    rw[iF,bK]at hj;cases hk:pa.cs[j]? with
    |none=>rw[hk]at hj;cases hj
    |some k=>
     rw[hk]at hj;cases hj;obtain⟨u,hu,XS⟩:=h7 j k hk;have j7:j<900:=by have:=(aT.1 hk).1;have:=La.len;omega
     refine⟨u,hu, ?_⟩
     have hn:dU p 0+j=dU p j:=by unfold dU;omega
     rw[hn];exact UH hp hk j7 XS
  ·obtain⟨hxs,XS⟩:=UF La hx;rw[hxs,bK]at hj;cases hk:pa.cs[j]? with
   |none=>rw[hk]at hj;cases hj
   |some k=>
    rw[hk]at hj;have hka:k.a= .ow e ex ys:=by simpa using hj
    obtain⟨u,hu⟩:=XS j k hk;have j7:j<900:=by have:=(aT.1 hk).1;have:=La.len;omega
    unfold vP at hu;split at hu
    ·rename_i n e' uA hs;obtain⟨zs,q1,q2,q3⟩:=hu;rw[hka]at q2;cases q2;have SW:=Hg hp hk hs j7;obtain⟨e1,e2⟩:=uw (σ:=σ) (c:=c) SW;refine⟨n,_,p,pa,SW,hp, ?_,q1, ?_,λb hf=>by rw[mq (c:=⟨λ_=>c.P n,λ_=>c.G n,c.K⟩) (c':=qL σ c ps) ⟨e1,e2⟩]at hf;exact hf, .inr ⟨j,k,e,ex,rfl,j7,hk,hs⟩⟩
     ·refine bN _ (bQ.2 ⟨k,aR hk, ?_⟩);simp[Pk.uG,hs]
     ·have mY:=cg.obj n _ q1;obtain⟨⟨t2,r1,r2,r3⟩,r4,r5⟩:=mY;refine⟨⟨t2,r1,by rw[e1];exact r2,r3⟩, ?_,λhx=>by rw[e1,e2];exact r5 hx⟩
      rw[e1,e2];refine r4.frame (λ_=>rfl) (λi j y x u hy hx hr=> ?_);split at hr
      ·rename_i pI;rw[bz pI];exact hr
      ·rename_i pI;rw[bH pI];exact hr.frame (λ_ _=>rfl) (λb hb=> .inl hb)
    ·exact cK hka (hu.2 _ _ _)
 ·rcases h with ⟨xs,h,_⟩|⟨xs,j,e,ex,ys,h,_⟩
  ·rw[hx]at h;cases h
  ·exact cK h (auT cs xs hx)
theorem enter(cg:Ok E σ w c){ps:aA Pa}{Bo:aA (aA CV)}{vs:dv bk}(hh:Handed E σ w c ps Bo vs):
  Ok E (inj (jN ps Bo)) w (qL σ c ps)/\(∀(p:aF) (x:fy),(jN ps Bo)[p]? =ah x->∃v,vs[p]? =ah v/\jk E w (qL σ c ps) (tH p x) v)/\
  ∀b,wI (inj (jN ps Bo)) (qL σ c ps) b->∃n∈ps.flatMap (·.uG),∃o,σ (c9 n)= .o o/\fM c n o b:=by
 have Jw:∀{p:aF} {pa:Pa} {n:aF},ps[p]? =ah pa->n∈pa.uG->n∈ps.flatMap (·.uG):=λhp hn=>bQ.2 ⟨_,aR hp,hn⟩;obtain⟨nd1,nd2⟩:=lW hh.nd;refine⟨⟨λm ob h=> ?_,λm ob m' ob' b h h' hf vp=> ?_,λm ob b h hf hk=> ?_,λb hb=> ?_,λm xs h=>Ha h⟩,λp x hx=> ?_, ?_⟩
 ·obtain⟨n,o,p,pa,_,_,_,_,h,_⟩:=xJ cg hh h;exact h
 ·obtain⟨n,o,p,pa,_,hp,hn,ho,_,pW,lj⟩:=xJ cg hh h;obtain⟨n',o',p',pa',_,mJ,kK,vu,_,SS,abf⟩:=xJ cg hh h';have:=cg.sep n o n' o' b ho vu (pW b hf) (SS b vp);subst this;have:=nd1 p p' pa pa' n hp mJ hn kK;subst this;rw[hp]at mJ;cases mJ;have ndm:=nd2 pa (aR hp);unfold Pa.uG at ndm;obtain⟨_,m2,m3⟩:=eQ.1 ndm;have ajr:∀(j:aF) (k:Pk) (e:aF) (ex:aX),pa.cs[j]? =ah k->k.src= .own n e ex->n∈pa.cs.flatMap (·.uG):=λj k e ex hk hs=>bQ.2 ⟨k,aR hk,by simp[Pk.uG,hs]⟩;rcases lj with ⟨rfl,xs,hb⟩|⟨j,k,e,ex,rfl,hj,hk,hs⟩
  ·rcases abf with ⟨rfl,_⟩|⟨j',k',e',uA,rfl,J7,vt,hs'⟩
   ·rfl
   ·exact cK rfl (m3 n (by simp[hb]) n (ajr _ _ _ _ vt hs'))
  ·rcases abf with ⟨rfl,xs,hb⟩|⟨j',k',e',uA,rfl,J7,vt,hs'⟩
   ·exact cK rfl (m3 n (by simp[hb]) n (ajr _ _ _ _ hk hs))
   ·have:=(lW m2).1 j j' k k' n hk vt (by simp[Pk.uG,hs]) (by simp[Pk.uG,hs']);rw[this]
 ·obtain⟨n,o,p,pa,_,hp,hn,ho,_,pW,_⟩:=xJ cg hh h;rcases hk with hk|⟨n',kK,o',vu,vp⟩
  ·exact cg.kk n o b ho (pW b hf) hk
  ·have:=cg.sep n o n' o' b ho vu (pW b hf) vp;subst this;exact hh.ap n (Jw hp hn) kK
 ·rcases hb with hb|⟨n',kK,o',vu,vp⟩
  ·exact cg.lt b hb
  ·exact wI.lt cg ⟨n',o',vu,vp⟩
 ·rcases v7 hx with ⟨pa,hp,rfl⟩|⟨hle,cs,HY,rfl⟩
  ·obtain⟨v,hv,La⟩:=hh.at_ p pa hp;refine⟨v,hv, ?_⟩
   have small:∀{j:aF} {k:Pk},pa.cs[j]? =ah k->j<900:=λhj=>by have:=(aT.1 hj).1;have:=La.len;omega
   cases hb:pa.box with
   |none=>
    obtain⟨agg,h1,h2⟩:=La.val hb;rw[h1];rcases h2 with ⟨rfl,k,hk,XS⟩|⟨rfl,vals,rfl,hs,hc⟩
    ·rw[hk];have:=UH (j:=0) hp (by rw[hk];rfl) (by omega) XS;exact this
    ·refine⟨vals,rfl,by rw[iV,bU];exact hs,λj y hj=> ?_⟩
     rw[iF,bK]at hj;cases hk:pa.cs[j]? with
     |none=>rw[hk]at hj;cases hj
     |some k=>
      rw[hk]at hj;cases hj;obtain⟨u,hu,XS⟩:=hc j k hk;refine⟨u,hu, ?_⟩
      have hn:dU p 0+j=dU p j:=by unfold dU;omega
      rw[hn];exact UH hp hk (small hk) XS
   |some nx=>obtain⟨n,zs⟩:=nx;obtain⟨h1,h2,_⟩:=La.box n zs hb;rw[h1];show v= .pointer (ah (ad ((qL σ c ps).P (dU p 900)).blk 0));rw[(uw (Bv hp hb)).1];exact h2
  ·obtain⟨b,hv,hf⟩:=hh.fb (p-ps.length) cs HY;rw[show ps.length+(p-ps.length)=p by omega]at hv;exact⟨_,hv,b,rfl,hf.frame (λ_ _=>rfl) (λb hb=> .inl hb)⟩
 ·rintro b ⟨m,ob,h,hf⟩;obtain⟨n,o,p,pa,_,hp,hn,ho,_,pW,_⟩:=xJ cg hh h;exact⟨n,Jw hp hn,o,ho,pW b hf⟩
end
end Go.FG

namespace Go.FG
def tO(p j:aF)(a:AA):AV:=match a with| .kp _=> .own (dU p j)|a=>lB (dU p (100+j)) a
def oh(p:aF):aF->aA AA->aA AV
 |_,[]=>[]|j,a::r=>tO p j a::oh p (j+1) r
def JG(p j:aF)(a b:AA):aA (aF×eU):=
 match b with
 | .kp ys=>(match a with| .ow e ex _=>[(c9 (dU p j), .o (.row e ex ys))]|_=>[])
 | .ow e ex ys=>[(c9 (dU p (100+j)), .o (.row e ex ys))]
 |_=>[]
def tP(p:aF):aF->aA AA->aA AA->aA (aF×eU)
 |_,_,[]=>[]|j,as,b::r=>JG p j (as.headD .nl) b++tP p (j+1) as.tail r
def CQ(p:aF)(a:fy)(l:aA AA):aA (aF×eU):=
 match a with
 | .v _ xs=>tP p 0 xs l
 | .pt xs=>(c9 (dU p 900), .o (.box (oh p 0 l)))::tP p 0 xs l
 | .fb _=>[]
def LB:aF->aA fy->aA (aA AA)->aA (aF×eU)
 |_,[],_=>[]|p,a::r,l=>CQ p a (l.headD [])++LB (p+1) r l.tail
def LI:aF->aA fy->aA (aF×eU)
 |_,[]=>[]|q,a::r=>vv q a++LI (q+1) r
def oy(args:aA fy)(r:dB):St:=fN (LI 500 r.rs++LB 0 args r.outs)
def GK(q:aF)(a:fy):aX×aA AV:=match a with| .v g xs=>(g,gA (dU q 0) xs)| .pt _=>(ak,[.bp (dU q 900) 0])| .fb xs=>(ak,[.fp xs 0])
def lC:aF->aA fy->aA (aX×aA AV)
 |_,[]=>[]|q,a::r=>GK q a::lC (q+1) r
def ZC(rs:aA fy):SV:=sC (lC 500 rs)
def R5(T:Tab)(args:aA fy)(r:dB)(c1:e_)(w:bL)(v:bk)(w':bL):Prop:=
 ∃c3,Ok T (oy args r) w' c3/\oC (inj args) c1 w (oy args r) c3 w'/\(∀m,inj args (c9 m)≠ .j8->c3.P m=c1.P m/\c3.G m=c1.G m)/\jk T w' c3 (ZC r.rs) v
def ca(P:c6)(T:Tab)(g:aF)(spec:aA fy->az (aX×dB)):Prop:=
 ∀args r,spec args=ah (ai,r)->∀(w:bL) (c1:e_) (vs:dv bk),Ok T (inj args) w c1->vs.size=args.length->(∀(p:aF) (x:fy),args[p]? =ah x->∃v,vs[p]? =ah v/\jk T w c1 (tH p x) v)->
  (∃fn,P.funcs[g]? =ah fn/\fn.body.isSome=ai/\(fn.name== "runtime.NumGoroutine")=ak)/\Calls P g vs w (λ| .returned v,w'=>R5 T args r c1 w v w'|_,_=>False)
abbrev DA:=aF×az aF×Obj
def find(L:aA DA)(m:aF):az aF:=
 match L with
 |[]=>aj
 |(n,t,_)::r=>if m=n then t else find r m
theorem IX{L:aA DA}{m x:aF}(h:find L m=ah x):∃ob,(m,ah x,ob)∈L:=by
 induction L with
 |nil=>cases h
 |cons d L ih=>
  obtain⟨n,t,ob⟩:=d;unfold find at h;split at h
  ·rename_i hm;subst hm;rw[h];exact⟨ob,dr ..⟩
  ·obtain⟨ob,h⟩:=ih h;exact⟨ob,c8 _ h⟩
theorem XA{L:aA DA}{m:aF}{t:az aF}{ob:Obj}(h:(m,t,ob)∈L)(hn:(L.map (·.1)).Nodup):find L m=t:=by
 induction L with
 |nil=>cases h
 |cons d L ih=>
  obtain⟨n,t',ob'⟩:=d;rw[fE,la]at hn;unfold find;rcases cC.1 h with h'|h'
  ·cases h';rw[bz rfl]
  ·have iA:m≠n:=λe=>hn.1 (cX.2 ⟨_,h',e⟩);rw[bH iA];exact ih h' hn.2
def l8(ok:aX)(L:aA DA)(v v3:AV):Prop:=
 (v=v3/\match v with| .i _ _=>True| .b _=>True| .s _=>True| .nl=>True| .sh _ _=>ok=ai|_=>False)\/∃n x ob,v= .own n/\v3= .own x/\(n,ah x,ob)∈L
def aaf(L:aA DA)(v v3:AV):Prop:=∃n x ob,v= .bp n 0/\v3= .bp x 0/\(n,ah x,ob)∈L
def nP(ok:aX)(L:aA DA)(vs vs3:aA AV):Prop:=vs.length=vs3.length/\∀(j:aF) (v v3:AV),vs[j]? =ah v->vs3[j]? =ah v3->l8 ok L v v3
def ArgRel(ok:aX)(L:aA DA)(s s3:aX×aA AV):Prop:=s.1=s3.1/\s.2.length=s3.2.length/\∀(j:aF) (v v3:AV),s.2[j]? =ah v->s3.2[j]? =ah v3->l8 ok L v v3\/aaf L v v3
def FE(ok:aX)(L:aA DA)(s s3:aA (aX×aA AV)):Prop:=s.length=s3.length/\∀(j:aF) (x x3:aX×aA AV),s[j]? =ah x->s3[j]? =ah x3->ArgRel ok L x x3
structure aan (σ σ3:St) (c c3:e_) (ok:aX) (uG:aA aF) (L:aA DA) (n:aF) (t:az aF) (ob:Obj):Prop where
 old:σ (c9 n)≠ .j8->n∈uG
 new:σ (c9 n)= .j8->n<900000000
 dead:t=aj->ob= .dead
 some_:∀x,t=ah x->(σ (c9 n)≠ .j8->c3.P x=c.P n/\c3.G x=c.G n)/\
  ((∃e ex ys,ob= .row e ex ys/\σ3 (c9 x)= .o (.row e ex ys)/\(ex=ai\/ok=ai))\/∃vs vs3,ob= .box vs/\σ3 (c9 x)= .o (.box vs3)/\nP ok L vs vs3)
section
variable {P:c6} {E:fS} {σ:St} {a:Act} {w:bL} {c:e_} {o:fD} {nm:aF} {e:s5}
theorem leave(cg:Ok E σ w c)(dL:fF E σ a w c)(hd:∀d,o.dst=ah d->d<a.tmps.size){ps:aA Pa}{Bo:aA (aA CV)}{vs:dv bk}(hh:Handed E σ w c ps Bo vs)
  {r:dB} {v:bk} {w':bL} {c3:e_} (G7:Ok E (oy (jN ps Bo) r) w' c3) (yG:oC (inj (jN ps Bo)) (qL σ c ps) w (oy (jN ps Bo) r) c3 w') (yH:jk E w' c3 (ZC r.rs) v)
  {ok:aX} {L:aA DA} {Fz:aA (aF×Obj)} (hL:∀n t ob,(n,t,ob)∈L->aan σ (oy (jN ps Bo) r) c c3 ok (ps.flatMap (·.uG)) L n t ob) (Je:(L.map (·.1)).Nodup)
  (arY:∀n n' x ob ob',(n,ah x,ob)∈L->(n',ah x,ob')∈L->n=n') (nW:∀n∈ps.flatMap (·.uG),∃t ob,(n,t,ob)∈L)
  (hFz:∀n x,(n,x)∈Fz->ok=ai/\n∈ps.flatMap (·.nL)/\∃el ex xs,σ (c9 n)= .o (.row el ex xs)/\x= .fU el xs) (hFa:ok=ai->∀n∈ps.flatMap (·.nL),∃x,(n,x)∈Fz)
  {ss:aA (aX×aA AV)} (hss:FE ok L ss (lC 500 r.rs)):
  ∃c',Ok E (wr σ (km (Fz++L.map λt=>(t.1,t.2.2))++dw o (sC ss))) w' c'/\fF E (wr σ (km (Fz++L.map λt=>(t.1,t.2.2))++dw o (sC ss))) (a.put o.dst v) w' c'/\oC σ c w (wr σ (km (Fz++L.map λt=>(t.1,t.2.2))++dw o (sC ss))) c' w'/\jF σ c c':=by
 obtain⟨SY,_,ajh⟩:=enter cg hh;let D:aA (aF×Obj):=Fz++L.map λt=>(t.1,t.2.2)
 have TU:∀n x,(n,x)∈D->(n,x)∈Fz\/∃t,(n,t,x)∈L:=by
  intro n x hm;rcases ba.1 hm with h|h
  ·exact .inl h
  ·obtain⟨⟨n',t,ob⟩,h1,h2⟩:=cX.1 h;cases h2;exact .inr ⟨t,h1⟩
 have inD:∀n t ob,(n,t,ob)∈L->(n,ob)∈D:=λn t ob h=>bN _ (cX.2 ⟨_,h,rfl⟩);have auR:∀n,n∈ps.flatMap (·.uG)->uR D n:=λn hn=>by obtain⟨t,ob,h⟩:=nW n hn;exact⟨ob,inD n t ob h⟩
 have LF:∀b,wI (inj (jN ps Bo)) (qL σ c ps) b->j_ (uR D) σ c b:=λb hb=>by obtain⟨n,hn,ob,h1,h2⟩:=ajh b hb;exact⟨n,ob,auR n hn,h1,h2⟩
 let K':aF->Prop:=λb=>if ok=ai then c3.K b else c.K b
 let c':e_:=⟨λm=>match find L m with|some x=>c3.P x|none=>c.P m,λm=>match find L m with|some x=>c3.G x|none=>c.G m,K'⟩
 have at_:∀n x ob,(n,ah x,ob)∈L->c'.P n=c3.P x/\c'.G n=c3.G x:=λn x ob h=>by have:=XA h Je;simp only[c',this];exact⟨trivial,trivial⟩
 have ajZ:∀n,find L n=aj->c'.P n=c.P n/\c'.G n=c.G n:=λn h=>by simp only[c',h];exact⟨trivial,trivial⟩
 have hA:jF σ c c':=by
  intro m hm;cases hf:find L m with
  |none=>exact ajZ m hf
  |some x=>
   obtain⟨ob,hx⟩:=IX hf;obtain⟨e1,e2⟩:=at_ m x ob hx;have he:=hL m _ ob hx;rw[e1,e2];by_cases hn:σ (c9 m)= .j8
   ·have:=he.new hn;rcases hm with h|h
    ·exact cK hn h
    ·omega
   ·exact(he.some_ x rfl).1 hn
 have Kok:ok=ai->∀b,K' b↔c3.K b:=λh b=>by simp only[K',h,if_true]
 have Kno:ok=ak->∀b,K' b↔c.K b:=λh b=>by simp only[K',h];simp
 have K13:∀b,(qL σ c ps).K b->c3.K b:=yG.K;have cK1:∀b,c.K b->(qL σ c ps).K b:=λb hb=> .inl hb;have hK:∀b,c.K b->K' b:=λb hb=>by
  cases h:ok with
  |true=>exact(Kok h b).2 (K13 b (cK1 b hb))
  |false=>exact(Kno h b).2 hb
 have Wq:∀b,K' b->c.K b\/j_ (uR D) σ c b\/w.heap.size<=b:=λb hb=>by
  cases h:ok with
  |true=>
   rcases yG.kn b ((Kok h b).1 hb)with h1|h1|h1
   ·rcases h1 with h1|⟨n,hn,ob,h2,h3⟩
    ·exact .inl h1
    ·obtain⟨x,hx⟩:=hFa h n hn;exact .inr (.inl ⟨n,ob,⟨x,bM _ hx⟩,h2,h3⟩)
   ·exact .inr (.inl (LF b h1))
   ·exact .inr (.inr h1)
  |false=>exact .inl ((Kno h b).1 hb)
 have G4:∀b,K' b->b<w'.heap.size:=λb hb=>by
  cases h:ok with
  |true=>exact G7.lt b ((Kok h b).1 hb)
  |false=>exact jw (cg.lt b ((Kno h b).1 hb)) yG.size
 have SK:∀n x ob b,(n,ah x,ob)∈L->fM c' n ob b->∃o3,oy (jN ps Bo) r (c9 x)= .o o3/\fM c3 x o3 b:=by
  intro n x ob b hm hf;obtain⟨e1,e2⟩:=at_ n x ob hm;rcases((hL n _ ob hm).some_ x rfl).2 with ⟨e,ex,ys,rfl,h3,_⟩|⟨us,us3,rfl,h3,_⟩
  ·refine⟨_,h3, ?_⟩
   simp only[fM,e1,e2]at hf⊢;exact hf
  ·refine⟨_,h3, ?_⟩
   simp only[fM,e1]at hf⊢;exact hf
 have Sn:∀{v v3:AV} {u:bk},l8 ok L v v3->eM E w' c3 v3 u->eM E w' c' v u/\∀n∈bS v,uR D n:=by
  rintro v v3 u (⟨rfl,h⟩|⟨n,x,ob,rfl,rfl,hm⟩) hu
  ·cases v with
   |sh e xs=>exact⟨da.frame hu (λ_ _=>rfl) (λb hb=>(Kok h b).2 hb),λn hn=>by simp[bS]at hn⟩
   |i=>exact⟨hu,λn hn=>by simp[bS]at hn⟩
   |b=>exact⟨hu,λn hn=>by simp[bS]at hn⟩
   |s=>exact⟨hu,λn hn=>by simp[bS]at hn⟩
   |nl=>exact⟨hu,λn hn=>by simp[bS]at hn⟩
   |_=>exact h.elim
  ·refine⟨?_,λm xH=> ?_⟩
   ·show u=lT (c'.P n);rw[(at_ n x ob hm).1];exact hu
   ·have:m=n:=by simpa [bS]using xH
    subst this;exact⟨ob,inD _ _ _ hm⟩
 have ark:∀{v v3:AV} {u:bk},aaf L v v3->eM E w' c3 v3 u->eM E w' c' v u/\∀n∈bS v,uR D n:=by
  rintro v v3 u ⟨n,x,ob,rfl,rfl,hm⟩ hu;refine⟨?_,λm xH=> ?_⟩
  ·show u= .pointer (ah (ad (c'.P n).blk 0));rw[(at_ n x ob hm).1];exact hu
  ·have:m=n:=by simpa [bS]using xH
   subst this;exact⟨ob,inD _ _ _ hm⟩
 have aaW:∀{s s3:aX×aA AV} {u:bk},ArgRel ok L s s3->qn E w' c3 s3.1 s3.2 u->qn E w' c' s.1 s.2 u/\∀n∈s.2.flatMap bS,uR D n:=by
  rintro ⟨g,xs⟩ ⟨g3,xs3⟩ u ⟨h1,h2,h3⟩ hu;have h1:g=g3:=h1;subst h1;have one:∀(j:aF) (y:AV) (uu:bk),xs[j]? =ah y->(∀y3,xs3[j]? =ah y3->eM E w' c3 y3 uu)->eM E w' c' y uu/\∀n∈bS y,uR D n:=by
   intro j y uu hj hu3;have j7:j<xs3.length:=by rw[<-h2];exact(aT.1 hj).1
   have Ns:=h3 j y xs3[j] hj (by simp[j7]);have sA:=hu3 xs3[j] (by simp[j7]);rcases Ns with h|h
   ·exact Sn h sA
   ·exact ark h sA
  replace hu:qn E w' c3 g xs3 u:=hu;unfold qn at hu;split at hu
  ·rename_i y3;obtain⟨y,rfl⟩:=gZ.1 (show xs.length=1 from h2);obtain⟨k1,k2⟩:=one 0 y u rfl (λy3' h=>by cases h;exact hu);exact⟨k1,λn hn=>k2 n (by simpa using hn)⟩
  ·obtain⟨vals,rfl,hs,hv⟩:=hu;have cell:∀(j:aF) (y:AV),xs[j]? =ah y->∃uu:bk,vals[j]? =ah uu/\eM E w' c' y uu/\∀n∈bS y,uR D n:=by
    intro j y hj;have j7:j<xs3.length:=by rw[<-h2];exact(aT.1 hj).1
    obtain⟨uu,hu,ha⟩:=hv j xs3[j] (by simp[j7]);obtain⟨k1,k2⟩:=one j y uu hj (λy3' h=>by simp[j7]at h;rw[<-h];exact ha);exact⟨uu,hu,k1,k2⟩
   refine⟨⟨vals,rfl,by rw[hs];exact h2.symm,λj y hj=> ?_⟩,λn hn=> ?_⟩
   ·obtain⟨uu,k1,k2,_⟩:=cell j y hj;exact⟨uu,k1,k2⟩
   ·obtain⟨y,hy,hn⟩:=bQ.1 hn;obtain⟨j,hj⟩:=bY hy;obtain⟨uu,_,_,k3⟩:=cell j y hj;exact k3 n hn
  ·exact hu.elim
 have amk:jk E w' c' (sC ss) v/\∀n∈cQ (sC ss),uR D n:=by
  obtain⟨hl,hr⟩:=hss;have kj:∀(l l3:aA (aX×aA AV)),l=ss->l3=lC 500 r.rs->jk E w' c3 (.kj l3) v->jk E w' c' (.kj l) v/\∀n∈cQ (.kj l),uR D n:=by
   rintro l l3 rfl rfl ⟨us,rfl,hs,hv⟩;have cell:∀(j:aF) (x:aX×aA AV),l[j]? =ah x->∃u:bk,us[j]? =ah u/\qn E w' c' x.1 x.2 u/\∀n∈x.2.flatMap bS,uR D n:=by
    intro j x hj;have j7:j<(lC 500 r.rs).length:=by rw[<-hl];exact(aT.1 hj).1
    have h3:(lC 500 r.rs)[j]? =ah ((lC 500 r.rs)[j].1,(lC 500 r.rs)[j].2):=by simp[j7]
    obtain⟨u,hu,ha⟩:=hv j _ _ h3;obtain⟨k1,k2⟩:=aaW (hr j x _ hj h3) ha;exact⟨u,hu,k1,k2⟩
   refine⟨⟨us,rfl,by rw[hs];exact hl.symm,λj g xs hj=> ?_⟩,λn hn=> ?_⟩
   ·obtain⟨u,k1,k2,_⟩:=cell j (g,xs) hj;exact⟨u,k1,k2⟩
   ·obtain⟨x,hx,hn⟩:=bQ.1 hn;obtain⟨j,hj⟩:=bY hx;obtain⟨u,_,_,k3⟩:=cell j x hj;exact k3 n hn
  unfold ZC at yH;cases h3:lC 500 r.rs with
  |nil=>rw[h3]at yH hl;have:ss=[]:=gf hl;subst this;exact kj [] [] rfl h3.symm yH
  |cons x l=>
   cases l with
   |nil=>obtain⟨g,xs⟩:=x;rw[h3]at yH hl;obtain⟨⟨g',Mc⟩,rfl⟩:=gZ.1 (show ss.length=1 from hl);exact aaW (s3:=(g,xs)) (hr 0 _ _ rfl (by rw[h3];rfl)) yH
   |cons y l=>
    rw[h3]at yH hl;match ss,hl with
    |s1::s2::st,_=>exact kj _ (x::y::l) rfl h3.symm yH
    |[_],hl=>simp at hl
    |[],hl=>simp at hl
 refine⟨c', ?_⟩
 have:=Iz cg dL hd (D:=D) (s:=sC ss) (v:=v) (w':=w') (c':=c') hA ?_ ?_ ?_ ?_ hK Wq G4 ?_ yG.size yG.os yG.tape yG.output amk.1 (λn hn=> .inr (amk.2 n hn))
 ·exact⟨this.1,this.2.1,this.2.2,hA⟩
 ·intro n x hm;rcases TU n x hm with hm|⟨t,hm⟩
  ·obtain⟨SZ,hn,el,ex,xs,hg,rfl⟩:=hFz n x hm;have aje:find L n=none:=by
    cases hf:find L n with
    |none=>rfl
    |some x=>obtain⟨ob,hx⟩:=IX hf;have:=(hL n _ ob hx).old (by rw[hg];simp);exact cK hn (hh.ap n this)
   obtain⟨e1,_⟩:=ajZ n aje;obtain⟨h1,h2,ti,h3,h4⟩:=lu cg hg;show da E w' K' (lT (c'.P n)) _/\(c'.P n).n=_/\_;rw[e1];refine⟨?_,h1,ti,h3,h4.1⟩
   have:=r_ cg hg (K:=(qL σ c ps).K) cK1 (λb hb=> .inr ⟨n,hn,_,hg,hb⟩);exact this.frame (yG.aaq SY) (λb hb=>(Kok SZ b).2 (K13 b hb))
  ·have he:=hL n t x hm;cases t with
   |none=>rw[he.dead rfl];trivial
   |some y=>
    obtain⟨e1,e2⟩:=at_ n y x hm;rcases(he.some_ y rfl).2 with ⟨el,ex,ys,rfl,h3,hor⟩|⟨us,us3,rfl,h3,hl,hc⟩
    ·obtain⟨⟨t2,r1,r2,r3⟩,r4,r5⟩:=G7.obj y _ h3;refine⟨⟨t2,r1,by rw[e1];exact r2,r3⟩, ?_,λhx=>by rw[e1,e2];exact r5 hx⟩
     rw[e1,e2];refine r4.frame (λ_=>rfl) (λi j yy xx u hy hx hr=> ?_);split at hr
     ·rename_i pI;rw[bz pI];exact hr
     ·rename_i pI;rw[bH pI];have SZ:=hor.resolve_left pI;exact hr.frame (λ_ _=>rfl) (λb hb=>(Kok SZ b).2 hb)
    ·obtain⟨vals,hb,hs,hv⟩:=G7.obj y _ h3;refine⟨vals,by rw[e1];exact hb,by rw[hs];exact hl.symm,λj yy hj=> ?_⟩
     have j7:j<us3.length:=by rw[<-hl];exact(aT.1 hj).1
     obtain⟨u,hu,ha⟩:=hv j us3[j] (by simp[j7]);exact⟨u,hu,(Sn (hc j yy us3[j] hj (by simp[j7])) ha).1⟩
 ·intro n x b hm hf;rcases TU n x hm with hm|⟨t,hm⟩
  ·obtain⟨_,_,el,ex,xs,_,rfl⟩:=hFz n x hm;exact hf.elim
  ·cases t with
   |none=>rw[(hL n _ x hm).dead rfl]at hf;exact hf.elim
   |some y=>
    obtain⟨o3,h3,hf3⟩:=SK n y x b hm hf;have wc:j_ (uR D) σ c b\/w.heap.size<=b:=(yG.own b ⟨y,o3,h3,hf3⟩).imp (LF b) id;refine⟨wc,λhk=> ?_⟩
    cases h:ok with
    |true=>exact G7.kk y o3 b h3 hf3 ((Kok h b).1 hk)
    |false=>
     have hk:=(Kno h b).1 hk;rcases wc with wc|wc
     ·exact cg.Jz wc.own hk
     ·have:=cg.lt b hk;omega
 ·intro n x n' x' b hm xH hf vp;rcases TU n x hm with hm|⟨t,hm⟩
  ·obtain⟨_,_,el,ex,xs,_,rfl⟩:=hFz n x hm;exact hf.elim
  ·rcases TU n' x' xH with xH|⟨t',xH⟩
   ·obtain⟨_,_,el,ex,xs,_,rfl⟩:=hFz n' x' xH;exact vp.elim
   ·cases t with
    |none=>rw[(hL n _ x hm).dead rfl]at hf;exact hf.elim
    |some y=>
     cases t' with
     |none=>rw[(hL n' _ x' xH).dead rfl]at vp;exact vp.elim
     |some y'=>obtain⟨o3,h3,hf3⟩:=SK n y x b hm hf;obtain⟨o3',Ns,arM⟩:=SK n' y' x' b xH vp;have:=G7.sep y o3 y' o3' b h3 Ns hf3 arM;subst this;exact arY n n' y x x' hm xH
 ·intro n xs hm y hy m hmm;rcases TU n _ hm with hm|⟨t,hm⟩
  ·obtain⟨_,_,el,ex,zs,_,h⟩:=hFz n _ hm;cases h
  ·have he:=hL n t _ hm;cases t with
   |none=>have:=he.dead rfl;cases this
   |some z=>
    rcases(he.some_ z rfl).2 with ⟨el,ex,ys,h,_⟩|⟨us,us3,h,h3,hl,hc⟩
    ·cases h
    ·cases h;obtain⟨j,hj⟩:=bY hy;have j7:j<us3.length:=by rw[<-hl];exact(aT.1 hj).1
     rcases hc j y us3[j] hj (by simp[j7])with ⟨h1,h2⟩|⟨n',x',ob',h1,_,h2⟩
     ·exfalso;subst h1;cases h:us3[j]<;>rw[h]at hmm h2<;>first|(simp[bS]at hmm;done)|exact h2
     ·rw[h1]at hmm;have:m=n':=by simpa [bS]using hmm
      subst this;exact .inr ⟨ob',inD _ _ _ h2⟩
 ·intro b hb XO;exact yG.same b hb (λho=>XO (LF b ho))
end
end Go.FG

namespace Go.FG
def Mk(a:fy)(xs:aA AA):Prop:=(∃g,a= .v g xs)\/a= .pt xs
inductive BJ (args:aA fy) (r:dB):aF->eU->Prop
 |rb (q xs):r.rs[q]? =ah (.pt xs)->BJ args r (dU (500+q) 900) (.o (.box (gA (dU (500+q) 0) xs)))
 |rr (q a xs j e ex ys):r.rs[q]? =ah a->Mk a xs->xs[j]? =ah (.ow e ex ys)->BJ args r (dU (500+q) j) (.o (.row e ex ys))
 |ob (p xs):args[p]? =ah (.pt xs)->BJ args r (dU p 900) (.o (.box (oh p 0 (r.outs.getD p []))))
 |kp (p a xs j e ex z ys):args[p]? =ah a->Mk a xs->xs[j]? =ah (.ow e ex z)->(r.outs.getD p [])[j]? =ah (.kp ys)->BJ args r (dU p j) (.o (.row e ex ys))
 |nw (p a xs j e ex ys):args[p]? =ah a->Mk a xs->(r.outs.getD p [])[j]? =ah (.ow e ex ys)->BJ args r (dU p (100+j)) (.o (.row e ex ys))
theorem Ju:∀{l:aA fy} {q:aF} {k:aF} {c:eU},(k,c)∈LI q l↔∃i a,l[i]? =ah a/\(k,c)∈vv (q+i) a:=by
 intro l;induction l with
 |nil=>intro q k c;simp[LI]
 |cons a l ih=>
  intro q k c;simp only[LI,ba,ih];constructor
  ·rintro (h|⟨i,b,h0,h⟩)
   ·exact⟨0,a,rfl,h⟩
   ·exact⟨i+1,b,h0,by rw[show q+(i+1)=q+1+i by omega];exact h⟩
  ·rintro ⟨i,b,h0,h⟩;cases i with
   |zero=>cases h0;exact .inl h
   |succ i=>exact .inr ⟨i,b,h0,by rw[show q+1+i=q+(i+1)by omega];exact h⟩
theorem Jt:∀{l:aA fy} {p:aF} {os:aA (aA AA)} {k:aF} {c:eU},(k,c)∈LB p l os↔∃i a,l[i]? =ah a/\(k,c)∈CQ (p+i) a (os.getD i []):=by
 intro l;induction l with
 |nil=>intro p os k c;simp[LB]
 |cons a l ih=>
  intro p os k c;have h0:os.headD []=os.getD 0 []:=by cases os<;>rfl
  have h1:∀i,os.tail.getD i []=os.getD (i+1) []:=λi=>by cases os<;>simp
  simp only[LB,ba,ih,h0,h1];constructor
  ·rintro (h|⟨i,b,hb,h⟩)
   ·exact⟨0,a,rfl,h⟩
   ·exact⟨i+1,b,hb,by rw[show p+(i+1)=p+1+i by omega];exact h⟩
  ·rintro ⟨i,b,hb,h⟩;cases i with
   |zero=>cases hb;exact .inl h
   |succ i=>exact .inr ⟨i,b,hb,by rw[show p+1+i=p+(i+1)by omega];exact h⟩
theorem zI{p j:aF}{a b:AA}{k:aF}{c:eU}:(k,c)∈JG p j a b↔(∃e ex z ys,a= .ow e ex z/\b= .kp ys/\k=c9 (dU p j)/\c= .o (.row e ex ys))\/∃e ex ys,b= .ow e ex ys/\k=c9 (dU p (100+j))/\c= .o (.row e ex ys):=by
 cases b with
 |kp ys=>
  cases a with
  |ow e ex z=>
   constructor
   ·intro h;have h:=aZ.1 h;cases h;exact .inl ⟨e,ex,z,ys,rfl,rfl,rfl,rfl⟩
   ·rintro (⟨e',uA,z',Dy,h1,h2,h3,h4⟩|⟨_,_,_,h,_⟩)
    ·cases h1;cases h2;rw[h3,h4];exact aZ.2 rfl
    ·cases h
  |_=>simp[JG]
 |ow e ex ys=>
  constructor
  ·intro h;have h:=aZ.1 h;cases h;exact .inr ⟨e,ex,ys,rfl,rfl,rfl⟩
  ·rintro (⟨_,_,_,_,_,h,_⟩|⟨e',uA,Dy,h2,h3,h4⟩)
   ·cases h
   ·cases h2;rw[h3,h4];exact aZ.2 rfl
 |_=>simp[JG]
theorem Ln{p:aF}:∀{l:aA AA} {j:aF} {as:aA AA} {k:aF} {c:eU},(k,c)∈tP p j as l↔∃i b,l[i]? =ah b/\(k,c)∈JG p (j+i) (as.getD i .nl) b:=by
 intro l;induction l with
 |nil=>intro j as k c;simp[tP]
 |cons b l ih=>
  intro j as k c;have h0:as.headD .nl=as.getD 0 .nl:=by cases as<;>rfl
  have h1:∀i,as.tail.getD i .nl=as.getD (i+1) .nl:=λi=>by cases as<;>simp
  simp only[tP,ba,ih,h0,h1];constructor
  ·rintro (h|⟨i,b',hb,h⟩)
   ·exact⟨0,b,rfl,h⟩
   ·exact⟨i+1,b',hb,by rw[show j+(i+1)=j+1+i by omega];exact h⟩
  ·rintro ⟨i,b',hb,h⟩;cases i with
   |zero=>cases hb;exact .inl h
   |succ i=>exact .inr ⟨i,b',hb,by rw[show j+1+i=j+(i+1)by omega];exact h⟩
theorem G2{xs:aA AA}{i e:aF}{ex:aX}{z:aQ}:xs.getD i .nl= .ow e ex z↔xs[i]? =ah (.ow e ex z):=by
 rw[cT];cases h:xs[i]? with
 |none=>simp
 |some x=>simp
theorem qO{p:aF}{a:fy}{l:aA AA}{k:aF}{c:eU}:(k,c)∈CQ p a l↔(∃xs,a= .pt xs/\k=c9 (dU p 900)/\c= .o (.box (oh p 0 l)))\/∃xs,Mk a xs/\((∃j e ex z ys,xs[j]? =ah (.ow e ex z)/\l[j]? =ah (.kp ys)/\k=c9 (dU p j)/\c= .o (.row e ex ys))\/∃j e ex ys,l[j]? =ah (.ow e ex ys)/\k=c9 (dU p (100+j))/\c= .o (.row e ex ys)):=by
 have cells:∀xs,(k,c)∈tP p 0 xs l↔((∃j e ex z ys,xs[j]? =ah (.ow e ex z)/\l[j]? =ah (.kp ys)/\k=c9 (dU p j)/\c= .o (.row e ex ys))\/∃j e ex ys,l[j]? =ah (.ow e ex ys)/\k=c9 (dU p (100+j))/\c= .o (.row e ex ys)):=by
  intro xs;rw[Ln];constructor
  ·rintro ⟨i,b,hb,h⟩;rw[bV]at h;rcases zI.1 h with ⟨e,ex,z,ys,h1,rfl,h2,h3⟩|⟨e,ex,ys,rfl,h2,h3⟩
   ·exact .inl ⟨i,e,ex,z,ys,G2.1 h1,hb,h2,h3⟩
   ·exact .inr ⟨i,e,ex,ys,hb,h2,h3⟩
  ·rintro (⟨i,e,ex,z,ys,h1,hb,h2,h3⟩|⟨i,e,ex,ys,hb,h2,h3⟩)
   ·exact⟨i,_,hb,zI.2 (.inl ⟨e,ex,z,ys,G2.2 h1,rfl,by rw[bV];exact h2,h3⟩)⟩
   ·exact⟨i,_,hb,zI.2 (.inr ⟨e,ex,ys,rfl,by rw[bV];exact h2,h3⟩)⟩
 cases a with
 |v g xs=>
  simp only[CQ,cells];constructor
  ·intro h;exact .inr ⟨xs, .inl ⟨g,rfl⟩,h⟩
  ·rintro (⟨ys,h,_⟩|⟨ys,h|h,h'⟩)
   ·cases h
   ·obtain⟨g',h⟩:=h;cases h;exact h'
   ·cases h
 |pt xs=>
  simp only[CQ,cC,cells,jg];constructor
  ·rintro (⟨h1,h2⟩|h)
   ·exact .inl ⟨xs,rfl,h1,h2⟩
   ·exact .inr ⟨xs, .inr rfl,h⟩
  ·rintro (⟨ys,h,h1,h2⟩|⟨ys,h|h,h'⟩)
   ·exact .inl ⟨h1,h2⟩
   ·obtain⟨g',h⟩:=h;cases h
   ·cases h;exact .inr h'
 |fb xs=>
  simp only[CQ,gG,false_iff];rintro (⟨ys,h,_⟩|⟨ys,h|h,_⟩)
  ·cases h
  ·obtain⟨g',h⟩:=h;cases h
  ·cases h
theorem w_{args:aA fy}{r:dB}{m:aF}{c:eU}:(c9 m,c)∈LI 500 r.rs++LB 0 args r.outs↔BJ args r m c:=by
 rw[ba,Ju,Jt];constructor
 ·rintro (⟨q,a,h0,h⟩|⟨p,a,h0,h⟩)
  ·rcases iD.1 h with ⟨xs,rfl,h1,rfl⟩|⟨xs,j,e,ex,ys,hx,hj,h1,rfl⟩
   ·rw[jZ h1];exact .rb q xs h0
   ·rw[jZ h1];exact .rr q a xs j e ex ys h0 hx hj
  ·rw[bV]at h;rcases qO.1 h with ⟨xs,rfl,h1,rfl⟩|⟨xs,hx,⟨j,e,ex,z,ys,h2,h3,h1,rfl⟩|⟨j,e,ex,ys,h3,h1,rfl⟩⟩
   ·rw[jZ h1];exact .ob p xs h0
   ·rw[jZ h1];exact .kp p a xs j e ex z ys h0 hx h2 h3
   ·rw[jZ h1];exact .nw p a xs j e ex ys h0 hx h3
 ·intro h;cases h with
  |rb q xs h0=>exact .inl ⟨q,_,h0,iD.2 (.inl ⟨xs,rfl,rfl,rfl⟩)⟩
  |rr q a xs j e ex ys h0 hx hj=>exact .inl ⟨q,a,h0,iD.2 (.inr ⟨xs,j,e,ex,ys,hx,hj,rfl,rfl⟩)⟩
  |ob p xs h0=>exact .inr ⟨p,_,h0,qO.2 (.inl ⟨xs,rfl,by rw[bV],by rw[bV]⟩)⟩
  |kp p a xs j e ex z ys h0 hx h2 h3=>exact .inr ⟨p,a,h0,qO.2 (.inr ⟨xs,hx, .inl ⟨j,e,ex,z,ys,h2,h3,by rw[bV],rfl⟩⟩)⟩
  |nw p a xs j e ex ys h0 hx h3=>exact .inr ⟨p,a,h0,qO.2 (.inr ⟨xs,hx, .inr ⟨j,e,ex,ys,h3,by rw[bV],rfl⟩⟩)⟩
def ZE:az AA->az eU
 |some (.ow e ex ys)=>ah (.o (.row e ex ys))|_=>aj
def kpC(a b:az AA):az eU:=
 match a,b with|some (.ow e ex _),ah (.kp ys)=>ah (.o (.row e ex ys))|_,_=>aj
def Sa:fy->aA AA| .v _ xs=>xs| .pt xs=>xs| .fb _=>[]
theorem Mk.eq{a:fy}{xs:aA AA}(h:Mk a xs):Sa a=xs:=by rcases h with ⟨g,rfl⟩|rfl<;>rfl
def EU(args:aA fy)(r:dB)(P J:aF):az eU:=
 if 500<=P then(match r.rs[P-500]? with
  |some a=>if J=900 then ah (.o (.box (gA (dU P 0) (Sa a))))else ZE (Sa a)[J]?
  |none=>aj)
 else(match args[P]? with
  |some a=>if J=900 then ah (.o (.box (oh P 0 (r.outs.getD P []))))else if J<100 then kpC (Sa a)[J]? (r.outs.getD P [])[J]? else ZE (r.outs.getD P [])[J-100]?
  |none=>aj)
structure Small (args:aA fy) (r:dB):Prop where
 a:∀(p:aF) (a:fy) (xs:aA AA),args[p]? =ah a->Mk a xs->p<500
 rl:∀(q:aF) (a:fy) (xs:aA AA),r.rs[q]? =ah a->Mk a xs->xs.length<=100
 o:∀p:aF,(r.outs.getD p []).length<=100
theorem IM{args:aA fy}{r:dB}(hs:Small args r){m:aF}{c:eU}(h:BJ args r m c):∃P J,m=dU P J/\J<1000/\EU args r P J=ah c:=by
 cases h with
 |rb q xs h0=>exact⟨500+q,900,rfl,by omega,by simp[EU,h0,Sa]⟩
 |rr q a xs j e ex ys h0 hx hj=>
  have:=hs.rl q a xs h0 hx;have j7:=(aT.1 hj).1;refine⟨500+q,j,rfl,by omega, ?_⟩
  have:j≠900:=by omega
  simp[EU,h0,hx.eq,hj,this,ZE]
 |ob p xs h0=>
  have:=hs.a p _ xs h0 (.inr rfl);have:¬500<=p:=by omega
  exact⟨p,900,rfl,by omega,by simp[EU,h0,this]⟩
 |kp p a xs j e ex z ys h0 hx h2 h3=>
  have:=hs.a p _ xs h0 hx;have h5:¬500<=p:=by omega
  have j7:=(aT.1 h3).1;have:=hs.o p;have Pq:j≠900:=by omega
  have Cw:j<100:=by omega
  refine⟨p,j,rfl,by omega, ?_⟩
  simp only[EU,h0,hx.eq,h2,h3,Pq,Cw,h5,if_false,if_true,kpC]
 |nw p a xs j e ex ys h0 hx h3=>
  have:=hs.a p _ xs h0 hx;have h5:¬500<=p:=by omega
  have j7:=(aT.1 h3).1;have:=hs.o p;have Pq:¬100+j=900:=by omega
  have Cw:¬100+j<100:=by omega
  refine⟨p,100+j,rfl,by omega, ?_⟩
  have hj3:100+j-100=j:=by omega
  simp only[EU,h0,h3,Pq,Cw,hj3,h5,if_false,ZE]
theorem zS:∀{l:aA (aF×eU)} {k:aF} {c:eU},(k,c)∈l->(∀c',(k,c')∈l->c'=c)->fN l k=c:=by
 intro l;induction l with
 |nil=>intro k c h;cases h
 |cons d l ih=>
  obtain⟨k',c'⟩:=d;intro k c h hu;unfold fN;cases hb:bD k k' with
  |true=>have:=aU hb;subst this;exact hu c' (dr ..)
  |false=>
   rcases cC.1 h with h|h
   ·cases h;simp at hb
   ·exact ih h (λc'' h''=>hu c'' (c8 _ h''))
theorem w9{args:aA fy}{r:dB}(hs:Small args r){m:aF}{c:eU}(h:BJ args r m c):oy args r (c9 m)=c:=by refine zS (w_.2 h) (λc' h'=> ?_);obtain⟨P,J,h1,h2,h3⟩:=IM hs h;obtain⟨P',J',KY,Ph,Ns⟩:=IM hs (w_.1 h');obtain⟨rfl,rfl⟩:=uI h2 Ph (h1.symm.trans KY);rw[h3]at Ns;cases Ns;rfl
theorem qM{args:aA fy}{r:dB}{m:aF}{o:Obj}(h:oy args r (c9 m)= .o o):BJ args r m (.o o):=w_.1 (nX h (by simp))
theorem wj{p:aF}:∀{xs:aA AA} {j i:aF},(oh p j xs)[i]? =(xs[i]?).map (tO p (j+i)):=by
 intro xs;induction xs with
 |nil=>intro j i;simp[oh]
 |cons a xs ih=>
  intro j i;cases i with
  |zero=>rfl
  |succ i=>simp only[oh,dP,ih];congr 2;omega
theorem vx{p:aF}:∀{xs:aA AA} {j:aF},(oh p j xs).length=xs.length:=by
 intro xs;induction xs with
 |nil=>intro j;rfl
 |cons a xs ih=>intro j;simp[oh,ih]
theorem Fq:∀{l:aA fy} {q i:aF},(lC q l)[i]? =(l[i]?).map (GK (q+i)):=by
 intro l;induction l with
 |nil=>intro q i;simp[lC]
 |cons a l ih=>
  intro q i;cases i with
  |zero=>rfl
  |succ i=>simp only[lC,dP,ih];congr 2;omega
theorem xM:∀{l:aA fy} {q:aF},(lC q l).length=l.length:=by
 intro l;induction l with
 |nil=>intro q;rfl
 |cons a l ih=>intro q;simp[lC,ih]
end Go.FG

namespace Go.FG
def mB(L:aA DA):aA (aF×eU):=km (L.map λt=>(t.1,t.2.2))
theorem iQ(L R:aA DA):mB (L++R)=mB L++mB R:=by simp[mB,km]
def QS(ok:aX)(σ:St)(n:aF)(a:AA):Prop:=
 match a with
 | .ow _ ex _=>(ex=ai\/ok=ai)/\σ (c9 n)= .j8/\n<900000000
 | .sh _ _=>ok=ai| .kp _=>False| .fn _ _=>False|_=>True
def PM(n x:aF)(a:AA):aA DA:=match a with| .ow e ex ys=>[(n,ah x, .row e ex ys)]|_=>[]
theorem Js{n x:aF}{a:AA}{m:aF}{t:az aF}{ob:Obj}:(m,t,ob)∈PM n x a↔∃e ex ys,a= .ow e ex ys/\m=n/\t=ah x/\ob= .row e ex ys:=by
 cases a with
 |ow e ex ys=>
  constructor
  ·intro h;have h:=aZ.1 h;cases h;exact⟨e,ex,ys,rfl,rfl,rfl,rfl⟩
  ·rintro ⟨e',uA,Dy,h,rfl,rfl,rfl⟩;cases h;exact aZ.2 rfl
 |_=>simp[PM]
theorem l8.mono{ok:aX}{L L':aA DA}{v v3:AV}(h:l8 ok L v v3)(hs:∀e∈L,e∈L'):l8 ok L' v v3:=h.imp id (λ⟨n,x,ob,h1,h2,h3⟩=>⟨n,x,ob,h1,h2,hs _ h3⟩)
theorem nP.mono{ok:aX}{L L':aA DA}{v v3:aA AV}(h:nP ok L v v3)(hs:∀e∈L,e∈L'):nP ok L' v v3:=⟨h.1,λj x y hx hy=>(h.2 j x y hx hy).mono hs⟩
section
variable {P:c6} {E:fS} {σ:St} {a:Act} {w:bL} {c:e_} {o:fD} {nm:aF} {e:s5}
theorem EL{ok:aX}{n:aF}{a:AA}{v:AV}{ws:aA (aF×eU)}(h:(rM ok n a).val σ=ah (v,ws)):QS ok σ n a/\v=lB n a/\∀x,ws=mB (PM n x a)/\l8 ok (PM n x a) v (lB x a):=by
 cases a with
 |i=>obtain⟨rfl,rfl⟩:=bW (aJ h);exact⟨trivial,rfl,λx=>⟨rfl, .inl ⟨rfl,trivial⟩⟩⟩
 |b=>obtain⟨rfl,rfl⟩:=bW (aJ h);exact⟨trivial,rfl,λx=>⟨rfl, .inl ⟨rfl,trivial⟩⟩⟩
 |s=>obtain⟨rfl,rfl⟩:=bW (aJ h);exact⟨trivial,rfl,λx=>⟨rfl, .inl ⟨rfl,trivial⟩⟩⟩
 |nl=>obtain⟨rfl,rfl⟩:=bW (aJ h);exact⟨trivial,rfl,λx=>⟨rfl, .inl ⟨rfl,trivial⟩⟩⟩
 |sh e xs=>obtain⟨h1,h⟩:=cS h;obtain⟨rfl,rfl⟩:=bW (aJ h);exact⟨h1,rfl,λx=>⟨rfl, .inl ⟨rfl,h1⟩⟩⟩
 |ow e ex xs=>obtain⟨h1,h⟩:=cS h;obtain⟨u,h2,h⟩:=Rd.bind_some h;obtain⟨rfl,rfl⟩:=bW (aJ h);obtain⟨f1,f2⟩:=kJ h2;exact⟨⟨by simpa using h1,f1,f2⟩,rfl,λx=>⟨rfl, .inr ⟨n,x,_,rfl,rfl,aZ.2 rfl⟩⟩⟩
 |kp=>simp[rM]at h
 |fn=>simp[rM]at h
theorem B5{ok:aX}{P:aF}:∀{xs:aA AA} {n j:aF} {vs:aA AV} {ws:aA (aF×eU)},(Bi ok n xs).val σ=ah (vs,ws)->vs=gA n xs/\(∀(i:aF) (a:AA),xs[i]? =ah a->QS ok σ (n+i) a)/\
  ∃L,ws=mB L/\(∀m t ob,(m,t,ob)∈L↔∃i e ex ys,xs[i]? =ah (.ow e ex ys)/\m=n+i/\t=ah (dU P (j+i))/\ob= .row e ex ys)/\∀(i:aF) (v:AV) (a:AA),vs[i]? =ah v->xs[i]? =ah a->l8 ok L v (lB (dU P (j+i)) a):=by
 intro xs;induction xs with
 |nil=>intro n j vs ws h;obtain⟨rfl,rfl⟩:=bW (aJ h);exact⟨rfl,λi a h=>by simp at h,[],rfl,λm t ob=>by simp,λi v a h=>by simp at h⟩
 |cons a xs ih=>
  intro n j vs ws h;obtain⟨⟨v,w1⟩,h1,h⟩:=Rd.bind_some h;obtain⟨⟨vr,w2⟩,h2,h⟩:=Rd.bind_some h;obtain⟨rfl,rfl⟩:=bW (aJ h);obtain⟨b1,rfl,b2⟩:=EL h1;obtain⟨rfl,b3⟩:=b2 (dU P j);obtain⟨i1,i2,L,rfl,i3,i4⟩:=ih (j:=j+1) h2;refine⟨by rw[i1];rfl,λi a' hi=> ?_,PM n (dU P j) a++L,by rw[iQ],λm t ob=> ?_,λi v' a' hv ha=> ?_⟩
  ·cases i with
   |zero=>cases hi;exact b1
   |succ i=>have:=i2 i a' hi;rwa[show n+1+i=n+(i+1)by omega]at this
  ·rw[ba,Js,i3];constructor
   ·rintro (⟨e,ex,ys,rfl,rfl,rfl,rfl⟩|⟨i,e,ex,ys,h1,rfl,rfl,rfl⟩)
    ·exact⟨0,e,ex,ys,rfl,rfl,rfl,rfl⟩
    ·exact⟨i+1,e,ex,ys,h1,by omega,by rw[show j+1+i=j+(i+1)by omega],rfl⟩
   ·rintro ⟨i,e,ex,ys,h1,rfl,rfl,rfl⟩;cases i with
    |zero=>cases h1;exact .inl ⟨e,ex,ys,rfl,rfl,rfl,rfl⟩
    |succ i=>exact .inr ⟨i,e,ex,ys,h1,by omega,by rw[show j+1+i=j+(i+1)by omega],rfl⟩
  ·cases i with
   |zero=>cases hv;cases ha;exact b3.mono (λe he=>bM _ he)
   |succ i=>have:=(i4 i v' a' hv ha).mono (L':=PM n (dU P j) a++L) (λe he=>bN _ he);rwa[show j+1+i=j+(i+1)by omega]at this
def H_(σ:St)(ok:aX)(b P:aF)(x:fy)(L:aA DA)(n:aF)(t:az aF)(ob:Obj):Prop:=
 (∃xs j e ex ys,Mk x xs/\xs[j]? =ah (.ow e ex ys)/\n=b+j/\t=ah (dU P j)/\ob= .row e ex ys/\(ex=ai\/ok=ai)/\σ (c9 n)= .j8/\n<900000000)\/
 ∃xs,x= .pt xs/\n=b+30/\t=ah (dU P 900)/\ob= .box (gA b xs)/\σ (c9 n)= .j8/\n<900000000/\nP ok L (gA b xs) (gA (dU P 0) xs)
theorem KA{ok:aX}{b P:aF}{x:fy}{s:aX×aA AV}{ws:aA (aF×eU)}(h:(GM ok b x).val σ=ah (s,ws)):∃L,ws=mB L/\(∀n t ob,(n,t,ob)∈L->H_ σ ok b P x L n t ob)/\ArgRel ok L s (GK P x):=by
 have tL:∀j,dU P (0+j)=dU P 0+j:=λj=>by unfold dU;omega
 cases x with
 |v g xs=>
  obtain⟨⟨vs,w1⟩,h1,h⟩:=Rd.bind_some h;obtain⟨rfl,rfl⟩:=bW (aJ h);obtain⟨rfl,i2,L,rfl,i3,i4⟩:=B5 (P:=P) (j:=0) h1;refine⟨L,rfl,λn t ob hm=> ?_,rfl,by simp[GK,iV],λj v v3 hv D5=> .inl ?_⟩
  ·obtain⟨i,e,ex,ys,h1,rfl,rfl,rfl⟩:=(i3 n t ob).1 hm;have:=i2 i _ h1;exact .inl ⟨xs,i,e,ex,ys, .inl ⟨g,rfl⟩,h1,rfl,by rw[bV],rfl,this⟩
  ·have D5:(gA (dU P 0) xs)[j]? =ah v3:=D5;rw[iF]at D5;cases hx:xs[j]? with
   |none=>rw[hx]at D5;cases D5
   |some a=>rw[hx]at D5;cases D5;have:=i4 j v a hv hx;rwa[tL]at this
 |pt xs=>
  obtain⟨⟨vs,w1⟩,h1,h⟩:=Rd.bind_some h;obtain⟨u,h2,h⟩:=Rd.bind_some h;obtain⟨rfl,rfl⟩:=bW (aJ h);obtain⟨f1,f2⟩:=kJ h2;obtain⟨rfl,i2,L,rfl,i3,i4⟩:=B5 (P:=P) (j:=0) h1;have cr:nP ok L (gA b xs) (gA (dU P 0) xs):=by
   refine⟨by rw[iV,iV],λj v v3 hv D5=> ?_⟩
   rw[iF]at D5;cases hx:xs[j]? with
   |none=>rw[hx]at D5;cases D5
   |some a=>rw[hx]at D5;cases D5;have:=i4 j v a hv hx;rwa[tL]at this
  refine⟨L++[(b+30,ah (dU P 900), .box (gA b xs))],by rw[iQ];rfl,λn t ob hm=> ?_,rfl,rfl,λj v v3 hv D5=> .inr ?_⟩
  ·rcases ba.1 hm with hm|hm
   ·obtain⟨i,e,ex,ys,h1,rfl,rfl,rfl⟩:=(i3 n t ob).1 hm;have:=i2 i _ h1;exact .inl ⟨xs,i,e,ex,ys, .inr rfl,h1,rfl,by rw[bV],rfl,this⟩
   ·rw[aZ]at hm;cases hm;exact .inr ⟨xs,rfl,rfl,rfl,rfl,f1,f2,cr.mono (λe he=>bM _ he)⟩
  ·cases j with
   |zero=>cases hv;cases D5;exact⟨_,_,_,rfl,rfl,bN _ (aZ.2 rfl)⟩
   |succ j=>simp at hv
 |fb xs=>simp[GM]at h
theorem ArgRel.mono{ok:aX}{L L':aA DA}{s s3:aX×aA AV}(h:ArgRel ok L s s3)(hs:∀e∈L,e∈L'):ArgRel ok L' s s3:=⟨h.1,h.2.1,λj x y hx hy=>(h.2.2 j x y hx hy).imp (λh=>h.mono hs) (λ⟨n,x,ob,h1,h2,h3⟩=>⟨n,x,ob,h1,h2,hs _ h3⟩)⟩
theorem H_.mono{ok:aX}{b P:aF}{x:fy}{L L':aA DA}{n:aF}{t:az aF}{ob:Obj}(h:H_ σ ok b P x L n t ob)(hs:∀e∈L,e∈L'):H_ σ ok b P x L' n t ob:=h.imp id (λ⟨xs,h1,h2,h3,h4,h5,h6,h7⟩=>⟨xs,h1,h2,h3,h4,h5,h6,h7.mono hs⟩)
theorem Io{ok:aX}:∀{l:aA fy} {b P:aF} {ss:aA (aX×aA AV)} {ws:aA (aF×eU)},(B6 ok b l).val σ=ah (ss,ws)->∃L,ws=mB L/\(∀n t ob,(n,t,ob)∈L->∃q x,l[q]? =ah x/\H_ σ ok (b+40*q) (P+q) x L n t ob)/\FE ok L ss (lC P l):=by
 intro l;induction l with
 |nil=>intro b P ss ws h;obtain⟨rfl,rfl⟩:=bW (aJ h);exact⟨[],rfl,λn t ob h=>(by cases h),rfl,λj x x3 h=>by simp at h⟩
 |cons x l ih=>
  intro b P ss ws h;obtain⟨⟨v,w1⟩,h1,h⟩:=Rd.bind_some h;obtain⟨⟨vr,w2⟩,h2,h⟩:=Rd.bind_some h;obtain⟨rfl,rfl⟩:=bW (aJ h);obtain⟨L1,rfl,a1,a2⟩:=KA (P:=P) h1;obtain⟨L2,rfl,b1,b2,b3⟩:=ih (P:=P+1) h2;refine⟨L1++L2,by rw[iQ],λn t ob hm=> ?_,by simp[lC,b2],λj s s3 hs hs3=> ?_⟩
  ·rcases ba.1 hm with hm|hm
   ·exact⟨0,x,rfl,(a1 n t ob hm).mono (λe he=>bM _ he)⟩
   ·obtain⟨q,y,hq,hr⟩:=b1 n t ob hm;refine⟨q+1,y,hq, ?_⟩
    rw[show b+40*(q+1)=b+40+40*q by omega,show P+(q+1)=P+1+q by omega];exact hr.mono (λe he=>bN _ he)
  ·cases j with
   |zero=>cases hs;cases hs3;exact a2.mono (λe he=>bM _ he)
   |succ j=>exact(b3 j s s3 hs hs3).mono (λe he=>bN _ he)
end
end Go.FG

namespace Go.FG
section
variable {P:c6} {E:fS} {σ:St} {a:Act} {w:bL} {c:e_} {o:fD} {nm:aF} {e:s5}
def rh(σ:St)(ok bx:aX)(b p j:aF)(k:Pk)(a:AA)(n:aF)(t:az aF)(ob:Obj):Prop:=
 (∃e ex,k.src= .own n e ex/\t=aj/\ob= .dead)\/
 (∃e ex ys,k.src= .own n e ex/\a= .kp ys/\t=ah (dU p j)/\ob= .row e ex ys/\(ex=ai\/ok=ai))\/
 ∃e ex ys,bx=ai/\a= .ow e ex ys/\n=b+j/\t=ah (dU p (100+j))/\ob= .row e ex ys/\(ex=ai\/ok=ai)/\σ (c9 n)= .j8/\n<900000000
theorem UD{ok:aX}{b p j:aF}{k:Pk}{a:AA}{ws:aA (aF×eU)}(h:(Fm ok k a).val σ=ah ws):∃L,ws=mB L/\(∀n t ob,(n,t,ob)∈L->rh σ ok ak b p j k a n t ob)/\∀n e ex,k.src= .own n e ex->∃t ob,(n,t,ob)∈L:=by
 cases hs:k.src with
 |no=>
  have h:(Rd.ret []:Rd (aA (aF×eU))).val σ=ah ws:=by unfold Fm at h;rw[hs]at h;exact h
  obtain rfl:=aJ h;exact⟨[],rfl,λn t ob h=>(by cases h),λn e ex h=>by cases h⟩
 |own n e ex=>
  cases a with
  |kp ys=>
   have h:(bif ex||ok then Rd.ret [(c9 n,eU.o (.row e ex ys))]else .fail).val σ=ah ws:=by unfold Fm at h;rw[hs]at h;exact h
   obtain⟨h1,h⟩:=cS h;obtain rfl:=aJ h;refine⟨[(n,ah (dU p j), .row e ex ys)],rfl,λm t ob hm=> ?_,λm e' uA h=> ?_⟩
   ·rw[aZ]at hm;cases hm;exact .inr (.inl ⟨e,ex,ys,hs,rfl,rfl,rfl,by simpa using h1⟩)
   ·cases h;exact⟨_,_,aZ.2 rfl⟩
  |nl=>
   have h:(Rd.ret [(c9 n,eU.o .dead)]:Rd (aA (aF×eU))).val σ=ah ws:=by unfold Fm at h;rw[hs]at h;exact h
   obtain rfl:=aJ h;refine⟨[(n,aj, .dead)],rfl,λm t ob hm=> ?_,λm e' uA h=> ?_⟩
   ·rw[aZ]at hm;cases hm;exact .inl ⟨e,ex,hs,rfl,rfl⟩
   ·cases h;exact⟨_,_,aZ.2 rfl⟩
  |_=>unfold Fm at h;rw[hs]at h;simp at h
theorem PU{ok:aX}{b p:aF}:∀{r:aA Pk} {l:aA AA} {j:aF} {ws:aA (aF×eU)},(LD ok r l).val σ=ah ws->∃L,ws=mB L/\(∀n t ob,(n,t,ob)∈L->∃i k,r[i]? =ah k/\rh σ ok ak b p (j+i) k (l.getD i .nl) n t ob)/\
  ∀(i:aF) (k:Pk) (n e:aF) (ex:aX),r[i]? =ah k->k.src= .own n e ex->∃t ob,(n,t,ob)∈L:=by
 intro r;induction r with
 |nil=>intro l j ws h;obtain rfl:=aJ h;exact⟨[],rfl,λn t ob h=>(by cases h),λi k n e ex h=>by simp at h⟩
 |cons k r ih=>
  intro l j ws h;obtain⟨w1,h1,h⟩:=Rd.bind_some h;obtain⟨w2,h2,h⟩:=Rd.bind_some h;obtain rfl:=aJ h;obtain⟨L1,rfl,a1,a2⟩:=UD (b:=b) (p:=p) (j:=j) h1;obtain⟨L2,rfl,b1,b2⟩:=ih (j:=j+1) h2;have e0:l.headD .nl=l.getD 0 .nl:=by cases l<;>rfl
  have e1:∀i,l.tail.getD i .nl=l.getD (i+1) .nl:=λi=>by cases l<;>simp
  refine⟨L1++L2,by rw[iQ],λn t ob hm=> ?_,λi k' n e ex hk hs=> ?_⟩
  ·rcases ba.1 hm with hm|hm
   ·exact⟨0,k,rfl,by rw[<-e0];exact a1 n t ob hm⟩
   ·obtain⟨i,k',hk,hc⟩:=b1 n t ob hm;rw[e1]at hc;exact⟨i+1,k',hk,by rw[show j+(i+1)=j+1+i by omega];exact hc⟩
  ·cases i with
   |zero=>cases hk;obtain⟨t,ob,h⟩:=a2 n e ex hs;exact⟨t,ob,bM _ h⟩
   |succ i=>obtain⟨t,ob,h⟩:=b2 i k' n e ex hk hs;exact⟨t,ob,bN _ h⟩
theorem PR{ok:aX}{b p j:aF}{k:Pk}{v v':AV}{a:AA}{ws:aA (aF×eU)}(hv:∀n e ex,k.src= .own n e ex->v= .own n)(h:(CP ok (b+j) k v a).val σ=ah (v',ws)):
  ∃L,ws=mB L/\(∀n t ob,(n,t,ob)∈L->rh σ ok ai b p j k a n t ob)/\(∀n e ex,k.src= .own n e ex->∃t ob,(n,t,ob)∈L)/\l8 ok L v' (tO p j a):=by
 have new:∀{v':AV} {ws:aA (aF×eU)},(rM ok (b+j) a).val σ=ah (v',ws)->∃L,ws=mB L/\(∀n t ob,(n,t,ob)∈L->rh σ ok ai b p j k a n t ob)/\l8 ok L v' (tO p j a):=by
  intro v' ws h;obtain⟨b1,rfl,b2⟩:=EL h;obtain⟨rfl,b3⟩:=b2 (dU p (100+j));refine⟨_,rfl,λn t ob hm=> ?_, ?_⟩
  ·obtain⟨e,ex,ys,rfl,rfl,rfl,rfl⟩:=Js.1 hm;exact .inr (.inr ⟨e,ex,ys,rfl,rfl,rfl,rfl,rfl,b1⟩)
  ·have:tO p j a=lB (dU p (100+j)) a:=by cases a<;>first|rfl|exact b1.elim
   rw[this];exact b3
 cases hs:k.src with
 |no=>
  have h:(rM ok (b+j) a).val σ=ah (v',ws):=by unfold CP at h;rw[hs]at h;exact h
  obtain⟨L,rfl,a1,a2⟩:=new h;exact⟨L,rfl,a1,λm e' uA h=>(by cases h),a2⟩
 |own n e ex=>
  have other:((rM ok (b+j) a).bind λ(x:AV×aA (aF×eU))=>Rd.ret (x.1,(c9 n,eU.o .dead)::x.2)).val σ=ah (v',ws)->∃L,ws=mB L/\(∀n t ob,(n,t,ob)∈L->rh σ ok ai b p j k a n t ob)/\(∀n' e' uA,Src.own n e ex= .own n' e' uA->∃t ob,(n',t,ob)∈L)/\l8 ok L v' (tO p j a):=by
   intro h;obtain⟨⟨v1,w1⟩,h1,h⟩:=Rd.bind_some h;obtain⟨rfl,rfl⟩:=bW (aJ h);obtain⟨L,rfl,a1,a2⟩:=new h1;refine⟨(n,aj, .dead)::L,rfl,λm t ob hm=> ?_,λm e' uA h=> ?_,a2.mono (λe he=>c8 _ he)⟩
   ·rcases cC.1 hm with hm|hm
    ·cases hm;exact .inl ⟨e,ex,hs,rfl,rfl⟩
    ·exact a1 m t ob hm
   ·cases h;exact⟨_,_,dr ..⟩
  cases a with
  |kp ys=>
   have h:(bif ex||ok then Rd.ret (v,[(c9 n,eU.o (.row e ex ys))])else .fail).val σ=ah (v',ws):=by unfold CP at h;rw[hs]at h;exact h
   obtain⟨h1,h⟩:=cS h;obtain⟨rfl,rfl⟩:=bW (aJ h);refine⟨[(n,ah (dU p j), .row e ex ys)],rfl,λm t ob hm=> ?_,λm e' uA h=> ?_, .inr ⟨n,dU p j,_,hv n e ex hs,rfl,aZ.2 rfl⟩⟩
   ·rw[aZ]at hm;cases hm;exact .inr (.inl ⟨e,ex,ys,hs,rfl,rfl,rfl,by simpa using h1⟩)
   ·cases h;exact⟨_,_,aZ.2 rfl⟩
  |_=>exact other (by unfold CP at h;rw[hs]at h;exact h)
theorem LA{ok:aX}{b p:aF}:∀{r:aA Pk} {vs:aA AV} {l:aA AA} {j:aF} {Ka:aA AV} {ws:aA (aF×eU)},(∀(i:aF) (k:Pk) (n e:aF) (ex:aX),r[i]? =ah k->k.src= .own n e ex->vs[i]? =ah (.own n))->(rX ok (b+j) r vs l).val σ=ah (Ka,ws)->
  l.length=r.length/\∃L,ws=mB L/\(∀n t ob,(n,t,ob)∈L->∃i k,r[i]? =ah k/\rh σ ok ai b p (j+i) k (l.getD i .nl) n t ob)/\
  (∀(i:aF) (k:Pk) (n e:aF) (ex:aX),r[i]? =ah k->k.src= .own n e ex->∃t ob,(n,t,ob)∈L)/\Ka.length=l.length/\∀(i:aF) (v:AV) (a:AA),Ka[i]? =ah v->l[i]? =ah a->l8 ok L v (tO p (j+i) a):=by
 intro r;induction r with
 |nil=>
  intro vs l j Ka ws hv h;cases vs with
  |cons=>cases l<;>simp[rX]at h
  |nil=>
   cases l with
   |cons=>simp[rX]at h
   |nil=>obtain⟨rfl,rfl⟩:=bW (aJ h);exact⟨rfl,[],rfl,λn t ob h=>(by cases h),λi k n e ex h=>by simp at h,rfl,λi v a h=>by simp at h⟩
 |cons k r ih=>
  intro vs l j Ka ws hv h;cases vs with
  |nil=>cases l<;>simp[rX]at h
  |cons v vs=>
   cases l with
   |nil=>simp[rX]at h
   |cons a l=>
    obtain⟨⟨v1,w1⟩,h1,h⟩:=Rd.bind_some h;obtain⟨⟨vr,w2⟩,h2,h⟩:=Rd.bind_some h;obtain⟨rfl,rfl⟩:=bW (aJ h);obtain⟨L1,rfl,a1,a2,a3⟩:=PR (p:=p) (λn e ex hs=>by have:=hv 0 k n e ex rfl hs;simpa using this) h1;obtain⟨i0,L2,rfl,b1,b2,b3,b4⟩:=ih (j:=j+1) (λi k' n e ex hk hs=>hv (i+1) k' n e ex hk hs) h2;refine⟨by simp[i0],L1++L2,by rw[iQ],λn t ob hm=> ?_,λi k' n e ex hk hs=> ?_,by simp[b3],λi v' a' hv' ha'=> ?_⟩
    ·rcases ba.1 hm with hm|hm
     ·exact⟨0,k,rfl,a1 n t ob hm⟩
     ·obtain⟨i,k',hk,hc⟩:=b1 n t ob hm;exact⟨i+1,k',hk,by rw[show j+(i+1)=j+1+i by omega];exact hc⟩
    ·cases i with
     |zero=>cases hk;obtain⟨t,ob,h⟩:=a2 n e ex hs;exact⟨t,ob,bM _ h⟩
     |succ i=>obtain⟨t,ob,h⟩:=b2 i k' n e ex hk hs;exact⟨t,ob,bN _ h⟩
    ·cases i with
     |zero=>cases hv';cases ha';exact a3.mono (λe he=>bM _ he)
     |succ i=>have:=(b4 i v' a' hv' ha').mono (L':=L1++L2) (λe he=>bN _ he);rwa[show j+1+i=j+(i+1)by omega]at this
def H8(σ:St)(ok:aX)(b p:aF)(pa:Pa)(l:aA AA)(L:aA DA)(n:aF)(t:az aF)(ob:Obj):Prop:=
 (∃i k,pa.cs[i]? =ah k/\rh σ ok pa.box.isSome b p i k (l.getD i .nl) n t ob)\/∃xs Ka,pa.box=ah (n,xs)/\t=ah (dU p 900)/\ob= .box Ka/\nP ok L Ka (oh p 0 l)
theorem UC{T:Tab}{nL:aA aF}{v:bk}{ok:aX}{b p:aF}{pa:Pa}(La:AF T σ w c nL pa v){l:aA AA}{ws:aA (aF×eU)}(h:(UB ok b pa l).val σ=ah ws):
  ∃L,ws=mB L/\(∀n t ob,(n,t,ob)∈L->H8 σ ok b p pa l L n t ob)/\∀n∈pa.uG,∃t ob,(n,t,ob)∈L:=by
 have cs:∀n,n∈pa.cs.flatMap (·.uG)->∃(i:aF) (k:Pk) (e:aF) (ex:aX),pa.cs[i]? =ah k/\k.src= .own n e ex:=by
  intro n hn;obtain⟨k,hk,hn⟩:=bQ.1 hn;obtain⟨i,hi⟩:=bY hk;unfold Pk.uG at hn;split at hn
  ·rename_i m e ex hs;have:=aZ.1 hn;subst this;exact⟨i,k,e,ex,hi,hs⟩
  ·cases hn
 unfold UB at h;split at h
 ·rename_i n xs hb;obtain⟨⟨Ka,w1⟩,h1,h⟩:=Rd.bind_some h;obtain rfl:=aJ h;obtain⟨_,_,_,hl,_,wc⟩:=La.box n xs hb;obtain⟨i0,L,rfl,a1,a2,a3,a4⟩:=LA (b:=b) (p:=p) (j:=0) wc (by rw[yT];exact h1);have cr:nP ok L Ka (oh p 0 l):=by
   refine⟨by rw[vx,a3],λi v v3 hv D5=> ?_⟩
   rw[wj]at D5;cases hx:l[i]? with
   |none=>rw[hx]at D5;cases D5
   |some y=>rw[hx]at D5;cases D5;exact a4 i v y hv hx
  refine⟨L++[(n,ah (dU p 900), .box Ka)],by rw[iQ];rfl,λm t ob hm=> ?_,λm hm=> ?_⟩
  ·rcases ba.1 hm with hm|hm
   ·obtain⟨i,k,hk,hc⟩:=a1 m t ob hm;rw[bV]at hc;exact .inl ⟨i,k,hk,by rw[hb];exact hc⟩
   ·rw[aZ]at hm;cases hm;exact .inr ⟨xs,Ka,hb,rfl,rfl,cr.mono (λe he=>bM _ he)⟩
  ·unfold Pa.uG at hm;rw[hb]at hm;rcases ba.1 hm with hm|hm
   ·have:=aZ.1 hm;subst this;exact⟨_,_,bN _ (aZ.2 rfl)⟩
   ·obtain⟨i,k,e,ex,hk,hs⟩:=cs m hm;obtain⟨t,ob,h⟩:=a2 i k m e ex hk hs;exact⟨t,ob,bM _ h⟩
 ·rename_i hb;obtain⟨L,rfl,a1,a2⟩:=PU (b:=b) (p:=p) (j:=0) h;refine⟨L,rfl,λm t ob hm=> ?_,λm hm=> ?_⟩
  ·obtain⟨i,k,hk,hc⟩:=a1 m t ob hm;rw[bV]at hc;exact .inl ⟨i,k,hk,by rw[hb];exact hc⟩
  ·unfold Pa.uG at hm;rw[hb,gD]at hm;obtain⟨i,k,e,ex,hk,hs⟩:=cs m hm;exact a2 i k m e ex hk hs
theorem H8.mono{ok:aX}{b p:aF}{pa:Pa}{l:aA AA}{L L':aA DA}{n:aF}{t:az aF}{ob:Obj}(h:H8 σ ok b p pa l L n t ob)(hs:∀e∈L,e∈L'):H8 σ ok b p pa l L' n t ob:=
 h.imp id (λ⟨xs,Ka,h1,h2,h3,h4⟩=>⟨xs,Ka,h1,h2,h3,h4.mono hs⟩)
theorem PS{T:Tab}{nL:aA aF}{ok:aX}:∀{ps:aA Pa} {b p:aF} {os:aA (aA AA)} {ws:aA (aF×eU)},(∀(q:aF) (pa:Pa),ps[q]? =ah pa->∃v,AF T σ w c nL pa v)->(LC ok b ps os).val σ=ah ws->
  ∃L,ws=mB L/\(∀n t ob,(n,t,ob)∈L->∃q pa,ps[q]? =ah pa/\H8 σ ok (b+40*q) (p+q) pa (os.getD q []) L n t ob)/\∀n∈ps.flatMap (·.uG),∃t ob,(n,t,ob)∈L:=by
 intro ps;induction ps with
 |nil=>intro b p os ws _ h;obtain rfl:=aJ h;exact⟨[],rfl,λn t ob h=>(by cases h),λn h=>(by cases h)⟩
 |cons pa ps ih=>
  intro b p os ws G8 h;obtain⟨w1,h1,h⟩:=Rd.bind_some h;obtain⟨w2,h2,h⟩:=Rd.bind_some h;obtain rfl:=aJ h;obtain⟨v,La⟩:=G8 0 pa rfl;obtain⟨L1,rfl,a1,a2⟩:=UC (p:=p) La h1;obtain⟨L2,rfl,b1,b2⟩:=ih (p:=p+1) (λq pa' hq=>G8 (q+1) pa' hq) h2;have e0:os.headD []=os.getD 0 []:=by cases os<;>rfl
  have e1:∀i,os.tail.getD i []=os.getD (i+1) []:=λi=>by cases os<;>simp
  refine⟨L1++L2,by rw[iQ],λn t ob hm=> ?_,λn hn=> ?_⟩
  ·rcases ba.1 hm with hm|hm
   ·exact⟨0,pa,rfl,by rw[<-e0];exact(a1 n t ob hm).mono (λe he=>bM _ he)⟩
   ·obtain⟨q,pa',hq,hc⟩:=b1 n t ob hm;rw[e1]at hc;refine⟨q+1,pa',hq, ?_⟩
    rw[show b+40*(q+1)=b+40+40*q by omega,show p+(q+1)=p+1+q by omega];exact hc.mono (λe he=>bN _ he)
  ·rw[yR]at hn;rcases ba.1 hn with hn|hn
   ·obtain⟨t,ob,h⟩:=a2 n hn;exact⟨t,ob,bM _ h⟩
   ·obtain⟨t,ob,h⟩:=b2 n hn;exact⟨t,ob,bN _ h⟩
theorem SN:∀{l:aA aF} {ws:aA (aF×eU)},(SM l).val σ=ah ws->∃Fz:aA (aF×Obj),ws=km Fz/\(∀n x,(n,x)∈Fz->n∈l/\∃el ex xs,σ (c9 n)= .o (.row el ex xs)/\x= .fU el xs)/\∀n∈l,∃x,(n,x)∈Fz:=by
 intro l;induction l with
 |nil=>intro ws h;obtain rfl:=aJ h;exact⟨[],rfl,λn x h=>(by cases h),λn h=>(by cases h)⟩
 |cons m l ih=>
  intro ws h;obtain⟨ob,hg,h⟩:=Rd.bind_some h;have hg:=dA hg;cases ob with
  |row el ex xs=>
   obtain⟨w1,h1,h⟩:=Rd.bind_some h;obtain rfl:=aJ h;obtain⟨Fz,rfl,a1,a2⟩:=ih h1;refine⟨(m, .fU el xs)::Fz,rfl,λn x hm=> ?_,λn hn=> ?_⟩
   ·rcases cC.1 hm with hm|hm
    ·cases hm;exact⟨dr ..,el,ex,xs,hg,rfl⟩
    ·obtain⟨h1,h2⟩:=a1 n x hm;exact⟨c8 _ h1,h2⟩
   ·rcases cC.1 hn with rfl|hn
    ·exact⟨_,dr ..⟩
    ·obtain⟨x,h⟩:=a2 n hn;exact⟨x,c8 _ h⟩
  |_=>simp at h
end
end Go.FG

namespace Go.FG
section
variable {P:c6} {E:fS} {σ:St} {a:Act} {w:bL} {c:e_} {o:fD} {nm:aF} {e:s5}
theorem alC{T:Tab}{nL:aA aF}{pa:Pa}{v:bk}(h:AF T σ w c nL pa v):∃xs,Mk pa.arg xs/\xs=pa.cs.map (·.a)/\∀(j:aF) (k:Pk),pa.cs[j]? =ah k->∃u,vP T σ w c nL k u:=by
 have h1:Mk pa.arg (pa.cs.map (·.a)):=by
  cases hb:pa.box with
  |none=>obtain⟨g,h1,_⟩:=h.val hb;exact .inl ⟨g,h1⟩
  |some nx=>obtain⟨n,xs⟩:=nx;exact .inr (h.box n xs hb).1
 exact⟨_,h1,rfl,(UF h h1).2⟩
theorem XE{l:aA AA}{i:aF}{ys:aQ}(h:l.getD i .nl= .kp ys):l[i]? =ah (.kp ys):=by
 rw[cT]at h;cases hx:l[i]? with
 |none=>rw[hx]at h;cases h
 |some x=>rw[hx]at h;rw[<-h];rfl
theorem Ft{f:aF}{fn:Func}{vs psv:dv bk}{cl:Call}{fx:dz}(ho:o.op= .call cl)(hc:cl.callee= .value fx)(hf:P.funcs[f]? =ah fn)(hb:fn.body.isSome=ai)(hn:(fn.name== "runtime.NumGoroutine")=ak)(he:a.eval fx= .func (.func f) #[] psv):
  (execOp a.eval o).run P w= .ok (.enter f (cl.args.map a.eval++psv)) w:=by
 have Qz:fn.body.isNone=false:=by cases h:fn.body<;>simp_all
 unfold execOp;rw[ho];simp only[resolve,hc,he,Deferred.ofValue,cm,cU,bG,invoke,callFunc,program,nv,hf,hn,Qz,dy,if_false,Array.empty_append]
def nameOf(nm:aF)(ps:aA Pa)(P J:aF):az aF:=
 if 500<=P then ah (if J=900 then nm+1+40*(P-500)+30 else nm+1+40*(P-500)+J)
 else if J<100\/J=900 then loc ps (dU P J)else ah (nm+400+40*P+(J-100))
theorem oU:∀{l r:aA aF},rK l r=ai->∀n∈l,n∉r
 |[],_,_,n,h=>by cases h
 |m::l,r,h,n,hn=>by
  simp only[rK,aL,dt]at h;rcases cC.1 hn with rfl|hn
  ·exact qt h.1
  ·exact oU h.2 n hn
theorem JA(hE:eH P E)(hF:∀g,ca P E g (E.call g))(cg:Ok E σ w c)(dL:fF E σ a w c)(hd:∀d,o.dst=ah d->d<a.tmps.size){cl:Call}{fx:dz}(ho:o.op= .call cl)(hb:cl.callee= .value fx){f:aF}{iX:aA (aA CV)}(ef:eM E w c (.fn f iX) (a.eval fx)){QH:az (aA aF)}(h:(GP E nm o f cl.args.toList QH iX).val σ=ah e)(hc:e.cond=ai):gY P E σ a w c o e.ws:=by
  obtain⟨psv,he,G8,aiS⟩:=ef;unfold GP at h;obtain⟨ps,h2,h⟩:=Rd.bind_some h;obtain⟨h3,h⟩:=cS h;simp only[aL]at h3;obtain⟨hlen,La⟩:=Sf cg dL h2;split at h
  ·rename_i cnd r I8;obtain⟨h4,h⟩:=cS h;simp only[aL]at h4;obtain⟨w0,h5,h⟩:=Rd.bind_some h;obtain⟨w1,h6,h⟩:=Rd.bind_some h;obtain⟨⟨ss,w2⟩,h7,h⟩:=Rd.bind_some h;obtain⟨h8,h⟩:=cS h;obtain rfl:=aJ h;have hc:cnd=true:=hc;subst hc;have ayJ:=cO h4.1.1;have asn:∀{q:aF} {pa:Pa},ps[q]? =ah pa->∀n∈pa.nL,n∈ps.flatMap (·.nL):=λhq n hn=>bQ.2 ⟨_,aR hq,hn⟩;have hh:Handed E σ w c ps iX (cl.args.map a.eval++psv):=by
    refine⟨by simp[G8,hlen],λq pa hq=> ?_,λq cs hq=> ?_,qP h3.1,oU h3.2⟩
    ·obtain⟨x,hx,hp⟩:=La q pa hq;rw[cZ]at hx;have XU:=(dV.1 hx).1;exact⟨a.eval x,by rw[Ei (by simpa using XU),OG,hx];rfl,hp.mono (asn hq)⟩
    ·obtain⟨b,Qz,hf⟩:=aiS q cs hq;refine⟨b, ?_,hf⟩
     rw[Array.getElem?_append_right (by simp[hlen]),<-Qz];congr 1;simp[hlen]
   have afo:∀(q:aF) (pa:Pa),ps[q]? =ah pa->∃v,AF E σ w c (ps.flatMap (·.nL)) pa v:=λq pa hq=>by obtain⟨v,_,h⟩:=hh.at_ q pa hq;exact⟨v,h⟩
   obtain⟨SY,aso,_⟩:=enter cg hh;have gi:(cl.args.map a.eval++psv).size=(jN ps iX).length:=by simp[jN,G8,hlen]
   have ae_:E.call f (jN ps iX)=ah (ai,r):=I8;obtain⟨⟨fn,g1,g2,g3⟩,K5⟩:=hF f _ r ae_ w (qL σ c ps) _ SY gi aso;obtain⟨Fz,rfl,z1,z2⟩:=SN h5;obtain⟨Lo,rfl,l1,l2⟩:=PS (p:=0) afo h6;obtain⟨Lr,rfl,m1,m2⟩:=Io (P:=500) h7;generalize ajf:(E.tk nm||(ps.flatMap (·.nL)).isEmpty)=ok at l1 m1 m2;have hsm:Small (jN ps iX) r:=by
    refine⟨λp x xs hp hx=> ?_,λq x xs hq hx=> ?_,λp=> ?_⟩
    ·rcases v7 hp with ⟨pa,hq,_⟩|⟨_,cs,_,rfl⟩
     ·have:=(aT.1 hq).1;omega
     ·rcases hx with ⟨g,hx⟩|hx<;>cases hx
    ·have:=bu.1 h4.1.2 x (aR hq);have:=cO this;rcases hx with ⟨g,rfl⟩|rfl<;>(simp only[nB]at this;omega)
    ·rw[cT];cases hx:r.outs[p]? with
     |none=>simp
     |some l=>have:=bu.1 h4.2 l (aR hx);exact cO this
   have Im:∀{q:aF} {pa:Pa},ps[q]? =ah pa->(jN ps iX)[q]? =ah pa.arg:=λ{q} {pa} hq=>by have:=(aT.1 hq).1;unfold jN;rw[dI (by simpa using this),bK,hq];rfl
   have Jw:∀{q:aF} {pa:Pa} {n:aF},ps[q]? =ah pa->n∈pa.uG->n∈ps.flatMap (·.uG):=λhp hn=>bQ.2 ⟨_,aR hp,hn⟩;have aiG:∀{q i n e:aF} {ex:aX} {pa:Pa} {k:Pk},ps[q]? =ah pa->pa.cs[i]? =ah k->k.src= .own n e ex->n∈ps.flatMap (·.uG):=λhq hk hs=>Jw hq (bN _ (bQ.2 ⟨_,aR hk,by simp[Pk.uG,hs]⟩));have small:∀{q i:aF} {pa:Pa} {k:Pk},ps[q]? =ah pa->pa.cs[i]? =ah k->i<100:=λhq hk=>by obtain⟨v,hv⟩:=afo _ _ hq;have:=(aT.1 hk).1;have:=hv.len;omega
   unfold gY;intro K Q hK;unfold OJ;rw[Ft (vs:=cl.args.map a.eval++psv) ho hb g1 g2 g3 he,We];refine Calls.mono K5 (λen w'' hR=> ?_);cases en with
   |panicked=>exact hR.elim
   |outgrown=>exact hR.elim
   |returned v=>
    obtain⟨c3,G7,yG,uC,yH⟩:=hR;have gg:∀m,inj (jN ps iX) (c9 m)≠ .j8->c3.P m=(qL σ c ps).P m/\c3.G m=(qL σ c ps).G m:=uC;have hL:∀n t ob,(n,t,ob)∈Lo++Lr->aan σ (oy (jN ps iX) r) c c3 ok (ps.flatMap (·.uG)) (Lo++Lr) n t ob/\∀x,t=ah x->∃PP J,x=dU PP J/\J<1000/\nameOf nm ps PP J=ah n:=by
     intro n t ob hm;rcases ba.1 hm with hm|hm
     ·obtain⟨q,pa,hq,vu⟩:=l1 n t ob hm;obtain⟨v0,QC⟩:=afo q pa hq;obtain⟨xs,hx1,QD,hx3⟩:=alC QC;have XU:=(aT.1 hq).1;rw[bV]at vu;rcases vu with ⟨i,k,hk,hco⟩|⟨ys,Ka,hbx,rfl,rfl,hcr⟩
      ·have hi:=small hq hk;rcases hco with ⟨e',ex,hs,rfl,rfl⟩|⟨e',ex,ys,hs,ha,rfl,rfl,hex⟩|⟨e',ex,ys,hbx,ha,rfl,rfl,rfl,hex,hf,jB⟩
       ·refine⟨⟨λ_=>aiG hq hk hs,λhn=> ?_,λ_=>rfl,λx hx=>(by cases hx)⟩,λx hx=>(by cases hx)⟩
        obtain⟨u,hu⟩:=hx3 i k hk;unfold vP at hu;rw[hs]at hu;obtain⟨zs,hg,_⟩:=hu;rw[hg]at hn;cases hn
       ·obtain⟨u,hu⟩:=hx3 i k hk;unfold vP at hu;rw[hs]at hu;obtain⟨zs,hg,hka,_⟩:=hu;refine⟨⟨λ_=>aiG hq hk hs,λhn=>(by rw[hg]at hn;cases hn),λhx=>(by cases hx),λx hx=> ?_⟩,λx hx=> ?_⟩
        ·cases hx;refine⟨λ_=> ?_, .inl ⟨e',ex,ys,rfl, ?_,hex⟩⟩
         ·obtain⟨q1,q2⟩:=gg (dU q i) ((qN (Im hq)).2 xs i e' ex zs hx1 (by rw[QD,bK,hk];simp[hka]));obtain⟨q3,q4⟩:=uw (σ:=σ) (c:=c) (Hg hq hk hs (by omega));exact⟨q1.trans q3,q2.trans q4⟩
         ·exact w9 hsm (.kp q pa.arg xs i e' ex zs ys (Im hq) hx1 (by rw[QD,bK,hk];simp[hka]) (XE ha))
        ·cases hx;refine⟨q,i,rfl,by omega, ?_⟩
         unfold nameOf;rw[bH (by omega),bz (.inl hi)];exact Hg hq hk hs (by omega)
       ·have hla:=G2.1 ha;refine⟨⟨λhn=>cK hf hn,λ_=>jB,λhx=>(by cases hx),λx hx=> ?_⟩,λx hx=> ?_⟩
        ·cases hx;exact⟨λhn=>cK hf hn, .inl ⟨e',ex,ys,rfl,w9 hsm (.nw q pa.arg xs i e' ex ys (Im hq) hx1 hla),hex⟩⟩
        ·cases hx;refine⟨q,100+i,rfl,by omega, ?_⟩
         unfold nameOf;rw[bH (by omega),bH (by omega)];congr 1;omega
      ·obtain⟨p1,p2,p3,_⟩:=QC.box n ys hbx;refine⟨⟨λ_=>Jw hq (by simp[Pa.uG,hbx]),λhn=>(by rw[p3]at hn;cases hn),λhx=>(by cases hx),λx hx=> ?_⟩,λx hx=> ?_⟩
       ·cases hx;refine⟨λ_=> ?_, .inr ⟨Ka,_,rfl,w9 hsm (.ob q _ (by rw[Im hq,p1])),hcr.mono (λe he=>bM _ he)⟩⟩
        obtain⟨q1,q2⟩:=gg (dU q 900) ((qN (Im hq)).1 _ p1);obtain⟨q3,q4⟩:=uw (σ:=σ) (c:=c) (Bv hq hbx);exact⟨q1.trans q3,q2.trans q4⟩
       ·cases hx;refine⟨q,900,rfl,by omega, ?_⟩
        unfold nameOf;rw[bH (by omega),bz (.inr rfl)];exact Bv hq hbx
     ·obtain⟨q,x0,hq,hra⟩:=m1 n t ob hm;rcases hra with ⟨xs,j,e',ex,ys,hx,hj,rfl,rfl,rfl,hex,hf,jB⟩|⟨xs,rfl,rfl,rfl,rfl,hf,jB,hcr⟩
      ·have j7:=(aT.1 hj).1;have:=hsm.rl q x0 xs hq hx;refine⟨⟨λhn=>cK hf hn,λ_=>jB,λhx=>(by cases hx),λx pI=> ?_⟩,λx pI=> ?_⟩
       ·cases pI;exact⟨λhn=>cK hf hn, .inl ⟨e',ex,ys,rfl,w9 hsm (.rr q x0 xs j e' ex ys hq hx hj),hex⟩⟩
       ·cases pI;refine⟨500+q,j,rfl,by omega, ?_⟩
        unfold nameOf;rw[bz (by omega),bH (by omega),show 500+q-500=q by omega]
      ·refine⟨⟨λhn=>cK hf hn,λ_=>jB,λhx=>(by cases hx),λx pI=> ?_⟩,λx pI=> ?_⟩
       ·cases pI;exact⟨λhn=>cK hf hn, .inr ⟨_,_,rfl,w9 hsm (.rb q xs hq),hcr.mono (λe he=>bN _ he)⟩⟩
       ·cases pI;refine⟨500+q,900,rfl,by omega, ?_⟩
        unfold nameOf;rw[bz (by omega),bz rfl,show 500+q-500=q by omega]
    have Je:((Lo++Lr).map (·.1)).Nodup:=by
     have:=qP h8;rw[<-iQ]at this;unfold mB km at this;rw[mn,mn]at this;have e1:(Lo++Lr).map (((λx:aF×eU=>x.1)∘λd:aF×Obj=>(c9 d.1,eU.o d.2))∘λt:DA=>(t.1,t.2.2))=((Lo++Lr).map (·.1)).map c9:=by rw[mn];rfl
     rw[e1]at this;exact rU this
    have SZ:ok=ai->∀n∈ps.flatMap (·.nL),∃x,(n,x)∈Fz:=by
     intro hk n hn;rw[<-ajf]at hk;cases G_:E.tk nm with
     |true=>rw[G_]at z2;exact z2 n hn
     |false=>
      rw[G_]at hk;have:ps.flatMap (·.nL)=[]:=by simpa using hk
      rw[this]at hn;cases hn
    have hFz:∀n x,(n,x)∈Fz->ok=ai/\n∈ps.flatMap (·.nL)/\∃el ex xs,σ (c9 n)= .o (.row el ex xs)/\x= .fU el xs:=by
     intro n x hn;obtain⟨y1,y2⟩:=z1 n x hn;cases G_:E.tk nm with
     |true=>rw[G_]at y1;exact⟨by rw[<-ajf,G_];rfl,y1,y2⟩
     |false=>rw[G_]at y1;cases y1
    have hws:km Fz++(mB Lo++mB Lr)++dw o (sC ss)=km (Fz++(Lo++Lr).map λt=>(t.1,t.2.2))++dw o (sC ss):=by rw[<-iQ];simp only[mB,km,dj]
    obtain⟨c',k1,k2,k3,k4⟩:=leave cg dL hd hh G7 yG yH (L:=Lo++Lr) (Fz:=Fz) (λn t ob hm=>(hL n t ob hm).1) Je
     (λn n' x ob ob' h1 h2=>by obtain⟨P1,J1,e1,e2,e3⟩:=(hL n _ ob h1).2 x rfl;obtain⟨P2,J2,f1,f2,f3⟩:=(hL n' _ ob' h2).2 x rfl;obtain⟨rfl,rfl⟩:=uI e2 f2 (e1.symm.trans f1);rw[e3]at f3;exact aJ f3)
     (λn hn=>by obtain⟨t,ob,h⟩:=l2 n hn;exact⟨t,ob,bM _ h⟩) hFz SZ
     (show FE ok (Lo++Lr) ss (lC 500 r.rs)from⟨m2.1,λj x x3 hx hx3=>(m2.2 j x x3 hx hx3).mono (λe he=>bN _ he)⟩)
    show K (a.put o.dst v) w'';rw[<-hws]at k1 k2 k3;exact hK v w'' c' k1 k2 k3 k4.w
  ·simp at h
theorem Hs(cg:Ok E σ w c)(dL:fF E σ a w c){o:fD}(hd:∀d,o.dst=ah d->d<a.tmps.size){nm:aF}{ob ob':Obj}{s:SV}{v:bk}{w':bL}
  (hn:σ (c9 nm)= .o ob) (mY:pS E w' c nm ob') (pW:∀b,fM c nm ob' b->fM c nm ob b)
  (Jc:∀xs,ob'= .box xs->∀a∈xs,jh σ a)
  (yH:jk E w' c s v) (A1:mR σ s)
  (hW:∀b,b<w.heap.size->¬fM c nm ob b->w'.heap[b]? =w.heap[b]?) (gi:w.heap.size<=w'.heap.size) (Pw:w'.os=w.os) (XX:w'.tape=w.tape) (XR:w'.output=w.output):
  Ok E (wr σ ([(c9 nm, .o ob')]++dw o s)) w' c/\fF E (wr σ ([(c9 nm, .o ob')]++dw o s)) (a.put o.dst v) w' c/\oC σ c w (wr σ ([(c9 nm, .o ob')]++dw o s)) c w':=by
 let σ1:=pP σ (c9 nm) (.o ob');obtain⟨s1,s2,s3⟩:=sb σ1 o s;have key:∀m,wr σ1 (dw o s) (c9 m)=if m=nm then .o ob' else σ (c9 m):=λm=>by rw[s3];exact qb _ _ _ _
 have iA:∀m,σ (c9 m)≠ .j8->wr σ1 (dw o s) (c9 m)≠ .j8:=λm hm=>by rw[key];split<;>simp_all
 have gh:∀b,fM c nm ob b->j_ (λm=>m=nm) σ c b:=λb hb=>⟨nm,ob,rfl,hn,hb⟩
 have hh:=cg.change (σ':=wr σ1 (dw o s)) (w':=w') (c':=c) (λm=>m=nm) (λm hm=>by rw[key,bH hm]) iA (jF.refl _ _)
  (λb hb XO=>hW b hb (λhf=>XO (gh b hf))) gi (λ_ h=>h) (λ_ h=> .inl h) (λb hb=>jw (cg.lt b hb) gi)
  (λm x hm ho=>by subst hm;rw[key,bz rfl]at ho;cases ho;exact mY)
  (λm x b hm ho hf=>by subst hm;rw[key,bz rfl]at ho;cases ho;exact⟨.inl (gh b (pW b hf)),cg.kk _ _ b hn (pW b hf)⟩)
  (λm x m' x' b hm xH _ _ _ _=>by rw[hm,xH])
  (λm xs hm ho y hy n kK=>by subst hm;rw[key,bz rfl]at ho;cases ho;exact iA n (Jc xs rfl y hy n kK)) Pw XX XR
 refine⟨hh.1, ?_,hh.2⟩
 refine dL.change cg hh.2 (jF.refl _ _) iA o v (λn kK=>by rw[s1 n kK];exact jr _ _ _ _) (λd ho=>⟨hd d ho, ?_, ?_⟩)
 ·rw[s2 d ho];exact yH
 ·rw[s2 d ho];intro n kK;rw[key];split
  ·simp
  ·exact A1 n kK
theorem Lw(hE:eH P E)(hF:∀g,ca P E g (E.call g))(cg:Ok E σ w c)(dL:fF E σ a w c)(hd:∀d,o.dst=ah d->d<a.tmps.size){cl:Call}{fx x y:dz}(ho:o.op= .call cl)(hb:cl.callee= .value fx)(sq:cl.args.toList=[x,y])
  {f n i j:aF} (ef:eM E w c (.fn f []) (a.eval fx)) (hx:eM E w c (.inn n i j) (a.eval x)) (h:(CA E o f n i j y).val σ=ah e) (hc:e.cond=ai):gY P E σ a w c o e.ws:=by
 unfold CA at h;obtain⟨⟨k,m⟩,h1,h⟩:=Rd.bind_some h;have ey:=pZ dL h1;obtain⟨ob,h2,h⟩:=Rd.bind_some h;have hg:=dA h2;split at h
 ·rename_i el xs;obtain⟨te,h3,h⟩:=Rd.bind_some h;have h6:=dX h3;split at h
  ·rename_i e2 Aj;split at h
   ·rename_i cnd r I8;split at h
    ·rename_i k2 m2 Dy hrs Jh;obtain rfl:=aJ h;have hc:cnd=true:=hc;subst hc;obtain⟨⟨hi,hxv⟩,_⟩:=hx;obtain⟨zs,yy,t2,r1,r2,r3,r4,r5,r6,r7,r8⟩:=Bu cg hg h6 Aj hi;rw[fH r1 r2]at I8;simp only[jx]at I8;obtain⟨⟨t1,q1,gi,mN⟩,gg,gh⟩:=cg.obj n _ hg;obtain rfl:te=t1:=aJ (h6.symm.trans q1);have mc:i<xs.length:=(aT.1 r1).1;obtain⟨jC,pv,hpb⟩:=gg.pos hi;have DZ:gk xs i j:=⟨yy,_,r1,r2,rfl⟩
     generalize hq:c.G n i j=p at r5 r7 r8 hxv;let c1:e_:=⟨λ_=>p,λ_ _ _=>⟨ai,0,0,0,0,0⟩,c.K⟩
     let args:aA fy:=[.v ak [.ow e2 ai zs], .v ak [.i k m]]
     have hO:∀q o',inj args (c9 q)= .o o'->q=dU 0 0/\o'= .row e2 ai zs:=by
      intro q o' hq';have hm:=nX hq' (by simp);simp only[args,Lf,tH,vv,tG,E7,cC,dp,gD,BT,gG,or_false,jg]at hm;rcases hm with ⟨hm,_⟩|⟨hm,h⟩|⟨hm,_⟩
      ·exact cK hm (mv _ _)
      ·exact⟨jZ hm,eU.o.inj h⟩
      ·exact cK hm (mv _ _)
     have hX:inj args (c9 (dU 0 0))= .o (.row e2 ai zs):=rfl;have CK:∀i j,¬gk zs i j:=by rintro i j ⟨y,x,h1,h2,h3⟩;rw[iv r4 (r6 y (aR h1)) h2]at h3;cases h3
     have I9:∀b,fM c1 (dU 0 0) (.row e2 ai zs) b->p.nil=ak/\b=p.blk:=by
      rintro b (⟨h1,h2⟩|⟨_,i,j,h,_⟩)
      ·exact⟨h1,h2⟩
      ·exact cK h (CK i j)
     have hpf:p.nil=ak->fM c n (.row el ai xs) p.blk:=λhn=> .inr ⟨rfl,i,j,DZ,by rw[hq];exact hn,by rw[hq]⟩;have SY:Ok E (inj args) w c1:=by
      refine⟨?_, ?_, ?_, ?_, ?_⟩
      ·intro q o' h;obtain⟨rfl,rfl⟩:=hO q o' h;exact⟨⟨t2,r3,r5,r6⟩,r7.frame (λ_=>rfl) (λi j y x u h1 h2 hr=>by rw[bz rfl];exact uM (iv r4 (r6 y (aR h1)) h2) hr),λ_=>⟨λi j h=>cK h (CK i j),λi j i' j' h=>cK h (CK i j)⟩⟩
      ·intro q o' q' o'' b h h' _ _;rw[(hO q o' h).1,(hO q' o'' h').1]
      ·intro q o' b h hf hk;obtain⟨rfl,rfl⟩:=hO q o' h;obtain⟨hn,rfl⟩:=I9 b hf;exact cg.kk _ _ _ hg (hpf hn) hk
      ·exact cg.lt
      ·intro q bs h;obtain⟨_,h⟩:=hO q _ h;cases h
     have S6:(cl.args.map a.eval).size=args.length:=by
      have:cl.args.size=2:=by rw[<-dS,sq];rfl
      simp[args,this]
     have Wr:cl.args.map a.eval= #[a.eval x,a.eval y]:=by apply sE;rw[Aw,sq];rfl
     obtain⟨psv,he,G8,_⟩:=ef;have ase:psv= #[]:=Av (by simpa using G8);subst ase;obtain⟨⟨fn,g1,g2,g3⟩,K5⟩:=hF f args r I8 w c1 #[a.eval x,a.eval y] SY rfl (by
      intro q arg hqa;match q with
      |0=>cases hqa;exact⟨_,rfl,hxv⟩
      |1=>cases hqa;exact⟨_,rfl,ey⟩
      |q+2=>cases hqa)
     unfold gY;intro K Q hK;unfold OJ;rw[Ft (vs:= #[a.eval x,a.eval y]) ho hb g1 g2 g3 he,Wr,Array.append_empty,We];refine Calls.mono K5 (λen w' hR=> ?_);cases en with
     |panicked=>exact hR.elim
     |outgrown=>exact hR.elim
     |returned v=>
      obtain⟨c3,G7,yG,uC,yH⟩:=hR;obtain⟨rs,outs⟩:=r;simp only at hrs Jh;subst hrs;subst Jh;have hv:v= .int k2 m2:=yH;have hp3:c3.P (dU 0 0)=p:=(uC (dU 0 0) (by rw[hX];simp)).1;have hX3:oy args ⟨[.v ak [.i k2 m2]],[[.kp Dy]]⟩ (c9 (dU 0 0))= .o (.row e2 ai Dy):=rfl;obtain⟨⟨t3,u1,u2,u3⟩,u4,_⟩:=G7.obj _ _ hX3;obtain rfl:t2=t3:=aJ (r3.symm.trans u1);rw[hp3]at u2 u4;have arD:jj w' p Dy (λ_ _ u x=>Sc u x):=u4.frame (λ_=>rfl) (λi j y x u h1 h2 hr=>by rw[bz rfl]at hr;exact uO hr (iv r4 (u3 y (aR h1)) h2));have rO:∀b,b<w.heap.size->¬(p.nil=ak/\b=p.blk)->w'.heap[b]? =w.heap[b]? :=λb hb K_=>yG.same b hb (by rintro ⟨q,o',h1,h2⟩;obtain⟨rfl,rfl⟩:=hO q o' h1;exact K_ (I9 b h2));have hjk:j<te.ks.length:=(aT.1 Aj).1;have aff:[CV.l e2 Dy].map CV.kd=(te.ks.drop j).take [CV.l e2 Dy].length:=by rw[bA,List.take_one,List.head?_drop,Aj];rfl
      have sK:=yq (i:=i) (j:=j) (cs:=[CV.l e2 Dy]) mN aff (by simp;omega) mc;have Jb:=lk mN;have Cv:=lk sK;have same:∀i' j',gk (eJ xs i j [CV.l e2 Dy]) i' j'->gk xs i' j':=λi' j' hx=>(Jb i' j').2 (by have:=(Cv i' j').1 hx;rwa[jW]at this);have jB:∀b,fM c n (.row el ai xs) b->b<w.heap.size:=λb hb=>wI.lt cg ⟨n,_,hg,hb⟩;have afn:p.nil=ak->(c.P n).blk≠p.blk:=λhn e=>(gh rfl).out i j DZ (by rw[hq];exact hn) jC (by rw[hq];exact e.symm);have oQ:jj w' (c.P n) (eJ xs i j [CV.l e2 Dy]) (λi1 j1 u1 x1=>if ai=ai then XC E w' (c.G n) i1 j1 u1 x1 else da E w' c.K u1 x1):=by
       obtain⟨vs,k1,k2,k3,k4,k5⟩:=gg.mem jC;refine⟨by rw[jW];exact gg.n,λhn=>(by rw[jC]at hn;cases hn),λ_=>⟨vs,k1.frame (rO _ (jB _ (.inl ⟨jC,rfl⟩)) (λh=>afn h.1 h.2)),k2,k3,k4,λi1 y1 j1 x1 g1 g2=> ?_⟩⟩
       rw[yo r1]at g1;simp only[if_true]at k5⊢;by_cases Ja:i1=i
       ·subst Ja;rw[bz rfl]at g1;cases g1;have Jj:yy.length=te.ks.length:=by rw[<-mN yy (aR r1)];simp
        rw[pD (by simp;omega)]at g2;by_cases hqq:j<=j1/\j1<j+[CV.l e2 Dy].length
        ·rw[bz hqq]at g2;have:j1=j:=by simp at hqq;omega
         subst this;simp at g2;subst g2;obtain⟨u,hu,hr⟩:=k5 _ _ _ _ r1 r2;refine⟨u,hu,hr.1,t2,r3,r4,by rw[hq];exact r5,u3,by rw[hq];exact arD⟩
        ·rw[bH hqq]at g2;obtain⟨u,hu,hr⟩:=k5 _ _ _ _ r1 g2;refine⟨u,hu,hr.frame (λhl hn=>rO _ (jB _ (.inr ⟨rfl,_,_,⟨yy,x1,r1,g2,hl⟩,hn,rfl⟩)) (λe=> ?_))⟩
         have:=((gh rfl).one _ _ _ _ ⟨yy,x1,r1,g2,hl⟩ DZ hn (by rw[hq];exact e.1) (by rw[hq];exact e.2)).2;simp at hqq;omega
       ·rw[bH Ja]at g1;obtain⟨u,hu,hr⟩:=k5 _ _ _ _ g1 g2;exact⟨u,hu,hr.frame (λhl hn=>rO _ (jB _ (.inr ⟨rfl,_,_,⟨y1,x1,g1,g2,hl⟩,hn,rfl⟩)) (λe=>Ja ((gh rfl).one _ _ _ _ ⟨y1,x1,g1,g2,hl⟩ DZ hn (by rw[hq];exact e.1) (by rw[hq];exact e.2)).1))⟩
      obtain⟨z1,z2,z3⟩:=Hs cg dL hd hg (ob':= .row el ai (eJ xs i j [CV.l e2 Dy])) (w':=w') (s:= .v ak [.i k2 m2]) (v:=v)
       ⟨⟨te,q1,gi,sK⟩,oQ,λhx=>⟨λi1 j1 hh=>(gh hx).out i1 j1 (same i1 j1 hh),λi1 j1 i2 j2 h1 h2=>(gh hx).one i1 j1 i2 j2 (same i1 j1 h1) (same i2 j2 h2)⟩⟩
       (by
        rintro b (hb|⟨hx,i1,j1,hh,hn⟩)
        ·exact .inl hb
        ·exact .inr ⟨hx,i1,j1,same i1 j1 hh,hn⟩)
       (λzs hz=>by cases hz) hv (λn hn=>by simp[cQ,bS]at hn)
       (λb hb QA=>rO b hb (λe=>QA (by rw[e.2];exact hpf e.1))) yG.size yG.os yG.tape yG.output
      exact hK v w' c z1 z2 z3 (jF.refl _ _).w
    ·simp at h
   ·simp at h
  ·simp at h
 ·simp at h
theorem HK{α:Type}{x y:Rd α}{σ:St}{e:α}(h:(x.or y).val σ=ah e):x.val σ=ah e\/y.val σ=ah e:=by
 induction x with
 |ret a=>exact .inl h
 |fail=>exact .inr h
 |get k f ih=>
  have h':((f (σ k)).or y).val σ=ah e:=by rw[<-h];unfold Rd.val;simp only[Rd.or,Rd.run];rw[lx,lx]
  rcases ih (σ k) h' with h|h
  ·refine .inl ?_;rw[<-h];unfold Rd.val;simp only[Rd.run];rw[lx,lx]
  ·exact .inr h
theorem CL(hE:eH P E)(hF:∀g,ca P E g (E.call g))(cg:Ok E σ w c)(dL:fF E σ a w c)(hd:∀d,o.dst=ah d->d<a.tmps.size){cl:Call}{fx:dz}(ho:o.op= .call cl)(hb:cl.callee= .value fx){f:aF}{iX:aA (aA CV)}(ef:eM E w c (.fn f iX) (a.eval fx)){QH:aA aF}(h:(M5 E nm o f cl.args.toList QH iX).val σ=ah e)(hc:e.cond=ai):gY P E σ a w c o e.ws:=by
 rcases HK h with h|h
 ·exact JA hE hF cg dL hd ho hb ef h hc
 ·exact JA hE hF cg dL hd ho hb ef h hc
theorem Zn(hE:eH P E)(hF:∀g,ca P E g (E.call g))(cg:Ok E σ w c)(dL:fF E σ a w c)(hd:∀d,o.dst=ah d->d<a.tmps.size){cl:Call}{fx:dz}(ho:o.op= .call cl)(hb:cl.callee= .value fx)(h:(mg E nm o).val σ=ah e)(hc:e.cond=ai):gY P E σ a w c o e.ws:=by
 simp only[mg,ho,hb]at h;obtain⟨fv,h1,h⟩:=Rd.bind_some h;have ef:=(i_ dL h1).1;cases fv with
 |fn f iX=>
  simp only at h;split at h
  ·rename_i x y sq;obtain⟨sx,h2,h⟩:=Rd.bind_some h;split at h
   ·rename_i n i j;cases hm:E.mode f 0 with
    |true=>rw[hm,au]at h;exact Lw hE hF cg dL hd ho hb sq ef (mw dL h2).1 h hc
    |false=>rw[hm,ax]at h;exact CL hE hF cg dL hd ho hb ef h hc
   ·exact CL hE hF cg dL hd ho hb ef h hc
  ·exact CL hE hF cg dL hd ho hb ef h hc
 |_=>simp at h
end
end Go.FG

namespace Go.FG
section
variable {P:c6} {E:fS} {σ:St} {a:Act} {w:bL} {c:e_} {o:fD} {nm:aF} {e:s5}
theorem alB(hE:eH P E)(hF:∀g,ca P E g (E.call g))(cg:Ok E σ w c)(dL:fF E σ a w c)(hd:∀d,o.dst=ah d->d<a.tmps.size)(h:(mg E nm o).val σ=ah e)(hc:e.cond=ai):gY P E σ a w c o e.ws:=by
 cases ho:o.op with
 |move x=>exact NV cg dL hd (.inl ho) h
 |assign x=>exact NV cg dL hd (.inr ho) h
 |nilCheck x=>exact JC cg dL hd ho h
 |pick x y z=>exact Zp cg dL hd ho h hc
 |alloc t=>exact Us hE cg dL hd ho h
 |box t x=>exact agm cg dL hd ho h
 |build t ps=>exact Uu hE cg dL hd ho h
 |buildSlice t n ps=>exact D9 hE cg dL hd ho h hc
 |load t p=>exact Zo hE cg dL hd ho h
 |store t p x=>exact Uz hE cg dL hd ho h
 |fieldAddr t p f=>exact Hl hE cg dL hd ho h
 |field t x f=>exact Uw hE cg dL hd ho h
 |indexAddr t x i=>exact Hm hE cg dL hd ho h hc
 |index t x i=>exact Ux hE cg dL hd ho h hc
 |binOp op t x y ty=>exact Ut hE cg dL hd ho h hc
 |unOp op t x=>exact Zq cg dL hd ho h
 |convert s d x=>exact Lx hE cg dL hd ho h hc
 |makeSlice t l m=>exact Hn hE cg dL hd ho h hc
 |slice t x lo hi mx=>exact Uy hE cg dL hd ho h hc
 |extract x i=>exact Ly cg dL hd ho h
 |makeFunc f first iX=>exact JB cg dL hd ho h
 |call cl=>
  cases hb:cl.callee with
  |value f=>exact Zn hE hF cg dL hd ho hb h hc
  |builtin b=>
   cases b with
   |len=>exact ago hE cg dL hd ho hb h
   |cap=>exact agn hE cg dL hd ho hb h
   |min=>exact Fk ak cg dL hd ho hb h
   |max=>exact Fk ai cg dL hd ho hb h
   |clear=>exact Uv hE cg dL hd ho hb h
   |append=>exact PO hE cg dL hd ho hb h hc
   |_=>simp[mg,ho,hb]at h
  |_=>simp[mg,ho,hb]at h
 |_=>simp[mg,ho]at h
end
end Go.FG

namespace Go.FG
theorem Dh{σ:St}{k:aF}{c:eU}(h:σ k=c):pP σ k c=σ:=by
 funext n;by_cases hn:n=k
 ·subst hn;rw[ub,h]
 ·rw[zU σ c hn]
def Wa(c c':e_):Prop:=∀m,900000000<=m->c'.P m=c.P m/\c'.G m=c.G m
theorem Wa.refl(c:e_):Wa c c:=λ_ _=>⟨rfl,rfl⟩
theorem Wa.trans{c c1 c2:e_}(h:Wa c c1)(k:Wa c1 c2):Wa c c2:=λm hm=>⟨(k m hm).1.trans (h m hm).1,(k m hm).2.trans (h m hm).2⟩
theorem X9{m:aF}(h:900000000<=m):zD m=false:=by
 unfold zD;cases hb:qB m 900000000 with
 |true=>have:m<900000000:=by simpa [AE]using hb
        omega
 |false=>simp
theorem q_.aga{σ:St}{c c':e_}(h:q_ σ c c'):Wa c c':=λm hm=>⟨(h m (.inr hm)).1,(h m (.inr hm)).2 (X9 hm)⟩
def mz(all:dv fD)(o:fD)(σ:St):az aX:=
 match o.guard with
 |none=>ah ai
 |some (g,want)=>match (all.getD g default).dst with
  |none=>aj
  |some d=>match σ (qu d)with| .v (.v ak [.b x])=>ah (x==want)| .v (.kj [])=>ah ak|_=>aj
def pV(all:dv fD)(o:fD):aA aF:=
 match o.guard with
 |none=>[]
 |some (g,_)=>match (all.getD g default).dst with|none=>[]|some d=>[qu d]
def vn(E:fS)(all:dv fD)(nm:aF)(o:fD)(σ:St)(ws:aA (aF×eU))(lg:Lg):Prop:=
 (mz all o σ=ah ai/\∃e l,(mg E nm o).run σ []=ah (e,l)/\e.cond=ai/\ws=e.ws/\lg=⟨pV all o++l,e.ws.map (·.1)⟩)\/
 (mz all o σ=ah ak/\ws=dw o (.kj [])/\lg=⟨pV all o,(dw o (.kj [])).map (·.1)⟩)
def Lt(oi i:aF):aF:=(oi+1)*1000000+i*1000
abbrev Tr:=aA (aA (aF×eU)×Lg)
def wC(E:fS)(all:dv fD)(oi:aF):aF->aA fD->St->Tr->St->Prop
 |_,[],σ,tr,σ'=>tr=[]/\σ'=σ
 |i,o::os,σ,tr,σ'=>∃ws lg tr',tr=(ws,lg)::tr'/\vn E all (Lt oi i) o σ ws lg/\wC E all oi (i+1) os (wr σ ws) tr' σ'
theorem PQ{R:Type}(E:fS)(all:dv fD)(oi:aF):∀(os:aA fD) (i:aF) (σ:St) (lg:aA Lg) (K:St->aA Lg->az R) (r:R),ops E all oi i os σ lg K=ah r->
  ∃tr σ',wC E all oi i os σ tr σ'/\K σ' ((tr.map (·.2)).reverse++lg)=ah r:=by
 intro os;induction os with
 |nil=>intro i σ lg K r h;exact⟨[],σ,⟨rfl,rfl⟩,by simpa [ops]using h⟩
 |cons o os ih=>
  intro i σ lg K r h;have next:∀ws l,vn E all (Lt oi i) o σ ws l->ops E all oi (i+1) os (wr σ ws) (l::lg) K=ah r->∃tr σ',wC E all oi i (o::os) σ tr σ'/\K σ' ((tr.map (·.2)).reverse++lg)=ah r:=by intro ws l hs h;obtain⟨tr,σ',h1,h2⟩:=ih _ _ _ _ _ h;exact⟨(ws,l)::tr,σ',⟨ws,l,tr,rfl,hs,h1⟩,by simpa using h2⟩
  have alD:∀rs,rs=pV all o->mz all o σ=ah ai->(match (mg E (Lt oi i) o).run σ []with
    |some (e,l)=>bif e.cond then ops E all oi (i+1) os (wr σ e.ws) (⟨rs++l,e.ws.map (·.1)⟩::lg) K else aj
    |none=>aj)=ah r->∃tr σ',wC E all oi i (o::os) σ tr σ'/\K σ' ((tr.map (·.2)).reverse++lg)=ah r:=by
   intro rs hrs hw h
   cases hr:(mg E (Lt oi i) o).run σ []with
   |none=>rw[hr]at h;cases h
   |some el=>
    obtain⟨e,l⟩:=el;rw[hr]at h;cases hc:e.cond with
    |false=>simp[hc]at h
    |true=>simp only[hc,au]at h;exact next e.ws _ (.inl ⟨hw,e,l,hr,hc,rfl,by rw[hrs]⟩) h
  unfold ops at h;simp(config:={zeta:=false}) only[EZ]at h;cases hg:o.guard with
  |none=>rw[hg]at h;exact alD [] (by simp[pV,hg]) (by simp[mz,hg]) h
  |some gw=>
   obtain⟨g,want⟩:=gw;rw[hg]at h;dsimp only at h;cases hd:(all.getD g default).dst with
   |none=>rw[hd]at h;cases h
   |some d=>
    rw[hd]at h;dsimp only at h;have yG:pV all o=[qu d]:=by unfold pV;rw[hg];dsimp only;rw[hd]
    cases hs:σ (qu d)with
    |v sv=>
     rw[hs]at h;cases sv with
     |v agg xs=>
      cases agg with
      |true=>cases h
      |false=>
       match xs with
       |[]=>cases h
       |_::_::_=>simp at h
       |[av]=>
        cases av with
        |b x=>
         have hwa:mz all o σ=ah (x==want):=by unfold mz;rw[hg];dsimp only;rw[hd];dsimp only;rw[hs]
         have hup:pP σ (qu d) (.v (.v ak [.b x]))=σ:=Dh hs;have skip:mz all o σ=ah ak->ops E all oi (i+1) os (wr (pP σ (qu d) (.v (.v ak [.b x]))) (dw o (.kj []))) (⟨[qu d],(dw o (.kj [])).map (·.1)⟩::lg) K=ah r->∃tr σ',wC E all oi i (o::os) σ tr σ'/\K σ' ((tr.map (·.2)).reverse++lg)=ah r:=by intro hw h;rw[hup]at h;exact next (dw o (.kj [])) _ (.inr ⟨hw,rfl,by rw[yG]⟩) h
         have acH:mz all o σ=ah ai->(match (mg E (Lt oi i) o).run (pP σ (qu d) (.v (.v ak [.b x]))) []with
           |some (e,l)=>bif e.cond then ops E all oi (i+1) os (wr (pP σ (qu d) (.v (.v ak [.b x]))) e.ws) (⟨qu d::l,e.ws.map (·.1)⟩::lg) K else aj
           |none=>aj)=ah r->∃tr σ',wC E all oi i (o::os) σ tr σ'/\K σ' ((tr.map (·.2)).reverse++lg)=ah r:=by
          intro hw h
          rw[hup]at h
          exact alD [qu d] yG.symm hw h
         cases x with
         |true=>
          cases want with
          |true=>exact acH (by rw[hwa];rfl) h
          |false=>exact skip (by rw[hwa];rfl) h
         |false=>
          cases want with
          |true=>exact skip (by rw[hwa];rfl) h
          |false=>exact acH (by rw[hwa];rfl) h
        |_=>simp at h
     |kj l=>cases l with
      |nil=>
       have hwa:mz all o σ=ah false:=by unfold mz;rw[hg];dsimp only;rw[hd];dsimp only;rw[hs]
       exact next (dw o (.kj [])) _ (.inr ⟨hwa,rfl,by rw[yG]⟩) h
      |cons=>simp at h
     |un=>simp at h
    |o x=>rw[hs]at h;cases h
    |j8=>rw[hs]at h;cases h
section
variable {P:c6} {E:fS} {σ:St} {a:Act} {w:bL} {c:e_} {o:fD} {nm:aF} {e:s5}
theorem Fy(dL:fF E σ a w c){all:dv fD}{x:aX}(h:mz all o σ=ah x):vk o (yielded all a.tmps)=x:=by
 unfold mz at h;unfold vk;cases hg:o.guard with
 |none=>rw[hg]at h;simp at h;simp[<-h]
 |some gw=>
  obtain⟨g,want⟩:=gw;rw[hg]at h;simp only at h⊢;cases hd:(all.getD g default).dst with
  |none=>rw[hd]at h;cases h
  |some d=>
   rw[hd]at h;have hgo:(all[g]?).bind (·.dst)=ah d:=by
    rw[eP]at hd;cases hq:all[g]? with
    |none=>rw[hq]at hd;cases hd
    |some og=>rw[hq]at hd;exact hd
   simp only at h;split at h
   ·rename_i y hy;have h1:=dL.ok d;have:slot σ d= .v ak [.b y]:=by unfold slot;rw[hy]
    rw[this]at h1;have h1:a.eval (.tmp d)= .bool y:=h1;have ht:a.tmps[d]? =ah (.bool y):=by
     have h2:a.tmps.getD d undef= .bool y:=h1;rw[eP]at h2;cases hq:a.tmps[d]? with
     |none=>rw[hq]at h2;cases h2
     |some v=>rw[hq]at h2;rw[show v=_ from h2]
    have Jj:yielded all a.tmps g=ah y:=by unfold yielded;rw[hgo];simp[ht]
    rw[Jj];simp at h;rw[<-h];cases y<;>cases want<;>rfl
   ·rename_i hy;have h1:=dL.ok d;have:slot σ d= .kj []:=by unfold slot;rw[hy]
    rw[this]at h1;obtain⟨vs,h1,h3,_⟩:=h1;have h4:vs= #[]:=by simpa using h3
    subst h4;have ht:a.tmps.getD d undef= .tuple #[]:=h1;have Jj:yielded all a.tmps g=none:=by
     unfold yielded;rw[hgo];rw[eP]at ht;cases hq:a.tmps[d]? with
     |none=>simp[hq]
     |some v=>rw[hq]at ht;simp at ht;simp[hq,ht]
    rw[Jj];have h5:ak=x:=by simpa using h
    rw[<-h5];cases want<;>rfl
   ·cases h
theorem Act.U6(a:Act)(d:az Tmp)(v:bk):(a.put d v).tmps.size=a.tmps.size:=by cases d<;>simp[Wb]
theorem BC(hE:eH P E)(hF:∀g,ca P E g (E.call g))(cg:Ok E σ w c)(dL:fF E σ a w c)(hd:∀d,o.dst=ah d->d<a.tmps.size){all:dv fD}{i:aF}(hi:all[i]? =ah o){ws:aA (aF×eU)}{lg:Lg}(h:vn E all nm o σ ws lg)
  {K:Act->bL->Prop} {Q:Exit->Act->bL->Prop} (hK:∀v w' c',Ok E (wr σ ws) w' c'->fF E (wr σ ws) (a.put o.dst v) w' c'->oC σ c w (wr σ ws) c' w'->q_ σ c c'->K (a.put o.dst v) w'):wpOp P all Q i K a w:=by
 unfold wpOp;rw[hi];simp only;rcases h with ⟨hw,e,l,hr,hc,rfl,_⟩|⟨hw,rfl,_⟩
 ·rw[bz (Fy dL hw)];exact .inl (alB hE hF cg dL hd (Rd.L9 hr) hc K Q hK)
 ·rw[bH (by rw[Fy dL hw];simp)];obtain⟨s1,s2,s3⟩:=sb σ o (.kj []);obtain⟨h1,h2⟩:=cg.slot s3;refine hK undef w c h1 ?_ h2 (jF.refl _ _).w;refine dL.change cg h2 (jF.refl _ _) (λnm hn=>by rw[s3];exact hn) o undef s1 (λd ho=>⟨hd d ho, ?_, ?_⟩)
  ·rw[s2 d ho];exact⟨#[],rfl,rfl,λj agg xs hj=>by simp at hj⟩
  ·rw[s2 d ho];intro n hn;simp[cQ]at hn
structure At (P:c6) (E:fS) (N:aF) (σ0:St) (c0:e_) (w0:bL) (σ:St) (a:Act) (w:bL) (c:e_):Prop where
 ok:Ok E σ w c
 sl:fF E σ a w c
 sz:a.tmps.size=N
 gr:oC σ0 c0 w0 σ c w
 ag:Wa c0 c
theorem At.step{N:aF}{σ0:St}{c0:e_}{w0:bL}(h:At P E N σ0 c0 w0 σ a w c){d:az Tmp}{v:bk}{w':bL}{c':e_}{σ':St}(h1:Ok E σ' w' c')(h2:fF E σ' (a.put d v) w' c')(h3:oC σ c w σ' c' w')(h4:q_ σ c c'):At P E N σ0 c0 w0 σ' (a.put d v) w' c':=
 ⟨h1,h2,by rw[Act.U6];exact h.sz,h.gr.trans h3,h.ag.trans h4.aga⟩
theorem KG(hE:eH P E)(hF:∀g,ca P E g (E.call g)){N:aF}{σ0:St}{c0:e_}{w0:bL}{all:dv fD}{oi:aF}{Q:Exit->Act->bL->Prop}:∀(os:aA fD) (i:aF) (σ:St) (tr:Tr) (σ':St),wC E all oi i os σ tr σ'->(∀j o,os[j]? =ah o->all[i+j]? =ah o)->(∀o∈os,∀d,o.dst=ah d->d<N)->
  (∀a w c,At P E N σ0 c0 w0 σ' a w c->Q .normal a w)->∀a w c,At P E N σ0 c0 w0 σ a w c->wpOps P all Q (mo i os.length) a w:=by
 intro os;induction os with
 |nil=>intro i σ tr σ' h _ _ hQ a w c gg;obtain⟨_,rfl⟩:=h;exact hQ a w c gg
 |cons o os ih=>intro i σ tr σ' h nW Cu hQ a w c gg;obtain⟨ws,lg,tr',rfl,hs,Ws⟩:=h;have hi:all[i]? =ah o:=nW 0 o rfl;rw[dc,List.range'_succ,wpOps_cons];refine BC hE hF gg.ok gg.sl (λd hd=>by rw[gg.sz];exact Cu o (dr ..) d hd) hi hs (λv w' c' h1 h2 h3 h4=> ?_);exact ih (i+1) _ _ _ Ws (λj o' hj=>by have:=nW (j+1) o' hj;rwa[show i+(j+1)=i+1+j by omega]at this) (λo' vu=>Cu o' (c8 _ vu)) hQ _ _ _ (gg.step h1 h2 h3 h4)
end
end Go.FG

namespace Go.FG
theorem Rd.ZF{α:Type}(m:Rd α):∀{σ:St} {l l':aA aF} {a:α},m.run σ l=ah (a,l')->∀k∈l,k∈l':=by
 induction m with
 |ret a=>intro σ l l' b h k hk;cases h;exact hk
 |fail=>intro σ l l' b h;cases h
 |get k f ih=>intro σ l l' b h k' vt;exact ih _ h k' (c8 _ vt)
theorem Rd.Qa{α:Type}(m:Rd α):∀{σ σ':St} {l l':aA aF} {a:α},m.run σ l=ah (a,l')->(∀k∈l',σ' k=σ k)->m.run σ' l=ah (a,l'):=by
 induction m with
 |ret a=>intro σ σ' l l' b h _;exact h
 |fail=>intro σ σ' l l' b h;cases h
 |get k f ih=>intro σ σ' l l' b h hk;have h:(f (σ k)).run σ (k::l)=ah (b,l'):=h;have vt:σ' k=σ k:=hk k (Rd.ZF _ h k (dr ..));show(f (σ' k)).run σ' (k::l)=ah (b,l');rw[vt];exact ih _ h hk
theorem yz{all:dv fD}{o:fD}{σ σ':St}(h:∀k∈pV all o,σ' k=σ k):mz all o σ'=mz all o σ:=by
 unfold mz pV at*
 cases hg:o.guard with
 |none=>rfl
 |some gw=>
  obtain⟨g,want⟩:=gw;rw[hg]at h;dsimp only at h⊢;cases hd:(all.getD g default).dst with
  |none=>rfl
  |some d=>rw[hd]at h;dsimp only at h⊢;rw[h (qu d) (aZ.2 rfl)]
theorem vn.congr{E:fS}{all:dv fD}{nm:aF}{o:fD}{σ σ':St}{ws:aA (aF×eU)}{lg:Lg}(h:vn E all nm o σ ws lg)(hk:∀k∈lg.rs,σ' k=σ k):vn E all nm o σ' ws lg:=by
 rcases h with ⟨h1,e,l,h2,h3,rfl,rfl⟩|⟨h1,rfl,rfl⟩
 ·refine .inl ⟨by rw[yz (λk vt=>hk k (bM _ vt))];exact h1,e,l,Rd.Qa _ h2 (λk vt=>hk k (bN _ vt)),h3,rfl,rfl⟩
 ·exact .inr ⟨by rw[yz (λk vt=>hk k vt)];exact h1,rfl,rfl⟩
theorem vn.keys{E:fS}{all:dv fD}{nm:aF}{o:fD}{σ:St}{ws:aA (aF×eU)}{lg:Lg}(h:vn E all nm o σ ws lg):lg.ws=ws.map (·.1):=by rcases h with ⟨h1,e,l,h2,h3,rfl,rfl⟩|⟨h1,rfl,rfl⟩<;>rfl
theorem pF:∀{ws:aA (aF×eU)} {σ:St} {k:aF},k∉ws.map (·.1)->wr σ ws k=σ k:=by
 intro ws;induction ws with
 |nil=>intro σ k _;rfl
 |cons d ws ih=>obtain⟨k',c⟩:=d;intro σ k h;rw[fE,cC,not_or]at h;show wr (pP σ k' c) ws k=σ k;rw[ih h.2,zU σ c h.1]
theorem V2:∀{ws:aA (aF×eU)} {σ σ':St} {k:aF},k∈ws.map (·.1)->wr σ ws k=wr σ' ws k:=by
 intro ws;induction ws with
 |nil=>intro σ σ' k h;cases h
 |cons d ws ih=>
  obtain⟨k',c⟩:=d;intro σ σ' k h;show wr (pP σ k' c) ws k=wr (pP σ' k' c) ws k;by_cases hk:k∈ws.map (·.1)
  ·exact ih hk
  ·have:k=k':=by
    rcases cC.1 h with h|h
    ·exact h
    ·exact cK h hk
   subst this;rw[pF hk,pF hk,ub,ub]
theorem V1{ws:aA (aF×eU)}{σ σ':St}{k:aF}(h:σ k=σ' k):wr σ ws k=wr σ' ws k:=by
 by_cases hk:k∈ws.map (·.1)
 ·exact V2 hk
 ·rw[pF hk,pF hk];exact h
def Dv:Tr->aF->(aF->aX)->St->St
 |[],_,_,σ=>σ
 |(ws,_)::tr,i,S,σ=>Dv tr (i+1) S (bif S i then wr σ ws else σ)
theorem uN:∀{tr:Tr} {i:aF} {S S':aF->aX} {σ σ':St} {k:aF},σ k=σ' k->(∀j ws lg,tr[j]? =ah (ws,lg)->S (i+j)≠S' (i+j)->k∉ws.map (·.1))->Dv tr i S σ k=Dv tr i S' σ' k:=by
 intro tr;induction tr with
 |nil=>intro i S S' σ σ' k h _;exact h
 |cons d tr ih=>
  obtain⟨ws,lg⟩:=d;intro i S S' σ σ' k h hd;refine ih ?_ (λj Ef Du hj iA=>hd (j+1) Ef Du hj (by rwa[show i+(j+1)=i+1+j by omega]));by_cases hS:S i=S' i
  ·rw[hS];cases S' i
   ·exact h
   ·exact V1 h
  ·have hk:=hd 0 ws lg rfl hS;cases hs:S i<;>cases hs':S' i
   ·exact cK (hs.trans hs'.symm) hS
   ·show σ k=wr σ' ws k;rw[pF hk];exact h
   ·show wr σ ws k=σ' k;rw[pF hk];exact h
   ·exact cK (hs.trans hs'.symm) hS
theorem De:∀{tr:Tr} {i:aF} {S:aF->aX} {σ:St},(∀j,i<=j->S j=ak)->Dv tr i S σ=σ:=by
 intro tr;induction tr with
 |nil=>intro i S σ _;rfl
 |cons d tr ih=>obtain⟨ws,lg⟩:=d;intro i S σ h;show Dv tr (i+1) S (bif S i then wr σ ws else σ)=σ;rw[h i (cG _)];exact ih (λj hj=>h j (by omega))
theorem VK:∀{tr:Tr} {i j:aF} {S:aF->aX} {σ:St} {ws:aA (aF×eU)} {lg:Lg},tr[j]? =ah (ws,lg)->S (i+j)=ai->(∀q,i+j<q->S q=ak)->∃τ,Dv tr i S σ=wr τ ws:=by
 intro tr;induction tr with
 |nil=>intro i j S σ ws lg h;simp at h
 |cons d tr ih=>
  obtain⟨Ef,Du⟩:=d;intro i j S σ ws lg h hS hn;cases j with
  |zero=>
   cases h;refine⟨σ, ?_⟩
   show Dv tr (i+1) S (bif S i then wr σ Ef else σ)=wr σ Ef;rw[show S i=ai from hS];exact De (λq hq=>hn q (by omega))
  |succ j=>exact ih (i:=i+1) h (by rwa[show i+1+j=i+(j+1)by omega]) (λq hq=>hn q (by omega))
theorem Sq{E:fS}{all:dv fD}{oi:aF}:∀{os:aA fD} {i:aF} {σ σ':St} {tr:Tr},wC E all oi i os σ tr σ'->tr.length=os.length/\Dv tr i (λ_=>ai) σ=σ'/\
  ∀(j:aF) (o:fD),os[j]? =ah o->∃ws lg,tr[j]? =ah (ws,lg)/\vn E all (Lt oi (i+j)) o (Dv tr i (λq=>decide (q<i+j)) σ) ws lg:=by
 intro os;induction os with
 |nil=>intro i σ σ' tr h;obtain⟨rfl,rfl⟩:=h;exact⟨rfl,rfl,λj o h=>by simp at h⟩
 |cons o os ih=>
  intro i σ σ' tr h;obtain⟨ws,lg,tr',rfl,hs,Ws⟩:=h;obtain⟨h1,h2,h3⟩:=ih Ws;refine⟨by simp[h1],h2,λj o' hj=> ?_⟩
  cases j with
  |zero=>
   cases hj;refine⟨ws,lg,rfl, ?_⟩
   rw[show Dv ((ws,lg)::tr') i (λq=>decide (q<i+0)) σ=σ from De (λq hq=>by simp;omega)];exact hs
  |succ j=>
   obtain⟨Ef,Du,q1,q2⟩:=h3 j o' hj;refine⟨Ef,Du,q1, ?_⟩
   have e1:Dv ((ws,lg)::tr') i (λq=>decide (q<i+(j+1))) σ=Dv tr' (i+1) (λq=>decide (q<i+1+j)) (wr σ ws):=by show Dv tr' (i+1) (λq=>decide (q<i+(j+1))) (bif decide (i<i+(j+1))then wr σ ws else σ)=_;rw[aE (by omega:i<i+(j+1))];rw[show i+(j+1)=i+1+j by omega];rfl
   rw[e1,show i+(j+1)=i+1+j by omega];exact q2
theorem tu{a b:Lg}(h:Cb a b=ak):(∀k∈a.ws,k∉b.ws)/\(∀k∈a.ws,k∉b.rs)/\∀k∈b.ws,k∉a.rs:=by simp only[Cb,nc,aL]at h;exact⟨oU h.1.1,oU h.1.2,oU h.2⟩
theorem zH{l:aA aF}{n:aF}(h:mK n l=ai):n∈l:=by
 induction l with
 |nil=>cases h
 |cons m r ih=>
  simp only[mK,dM]at h;rcases h with h|h
  ·rw[aU h];exact dr ..
  ·exact c8 _ (ih h)
theorem KC{an:aA aF}{j:aF}{a:Lg}:∀{l:aA Lg} {i:aF},Bl an j a i l=ai->∀(q:aF) (b:Lg),l[q]? =ah b->i+q∈an\/Cb a b=false:=by
 intro l;induction l with
 |nil=>intro i _ q b h;simp at h
 |cons d l ih=>
  intro i h q b hq;simp only[Bl,aL,dM,dt]at h;cases q with
  |zero=>cases hq;exact h.1.imp zH id
  |succ q=>have:=ih h.2 q b hq;rwa[show i+1+q=i+(q+1)by omega]at this
theorem M7{an:aA (aA aF)}:∀{rest:aA Lg} {j:aF} {done:aA Lg},done.length=j->calm j an done rest=ai->∀(i J:aF) (a b:Lg),i<J->j<=J->(done++rest)[i]? =ah b->(done++rest)[J]? =ah a->i∈an.getD J []\/Cb a b=false:=by
 intro rest;induction rest with
 |nil=>intro j done hd _ i J a b _ hJ _ hb;rw[dp,kY (by omega)]at hb;cases hb
 |cons d rest ih=>
  intro j done hd h i J a b Pp hJ hi hb;simp only[calm,aL]at h;by_cases hJj:J=j
  ·subst hJj;rw[db (by omega),hd,Nat.sub_self]at hb;cases hb;rw[dI (by omega)]at hi;have:=KC h.1 i b hi;rwa[bV]at this
  ·refine ih (done:=done++[d]) (by simp[hd]) h.2 i J a b Pp (by omega) ?_ ?_
   ·rw[cB];exact hi
   ·rw[cB];exact hb
theorem Xa:∀{os:aA fD} {acc:aA (aA aF)},∃rest,GI acc os=acc++rest/\rest.length=os.length/\
  ∀(t:aF) (o:fD),os[t]? =ah o->rest[t]? =ah (ddA [] (o.after.toList.flatMap λe=>bif mQ .any e then e.on::((acc++rest).take (acc.length+t)).getD e.on []else [])):=by
 intro os;induction os with
 |nil=>intro acc;exact⟨[],by simp[GI],rfl,λt o h=>by simp at h⟩
 |cons o os ih=>
  intro acc;let x:=ddA [] (o.after.toList.flatMap λe=>bif mQ .any e then e.on::acc.getD e.on []else []);obtain⟨rest,h1,h2,h3⟩:=ih (acc:=acc++[x]);refine⟨x::rest, ?_,by simp[h2],λt o' ht=> ?_⟩
  ·show mX x (λx=>GI (acc++[x]) os)=_;rw[oW,h1,cB];rfl
  ·cases t with
   |zero=>cases ht;rw[sF,yT,o8 (cG _),dE]
   |succ t=>rw[dP,h3 t o' ht];simp only[bP,bA,cB,uV,show acc.length+1+t=acc.length+(t+1)by omega]
theorem NX:∀{os:aA fD} {i:aF},JD i os=ai->∀(t:aF) (o:fD),os[t]? =ah o->∀e∈o.after,mQ .any e=ai->e.on<i+t:=by
 intro os;induction os with
 |nil=>intro i _ t o h;simp at h
 |cons o os ih=>
  intro i h t o' ht e he hb;simp only[JD,aL]at h;cases t with
  |zero=>
   cases ht;have:=bu.1 h.1 e (by simpa using he);rw[hb]at this;have:qB e.on i=true:=by simpa using this
   simpa [AE]using this
  |succ t=>have:=ih h.2 t o' ht e he hb;omega
theorem B1{os:aA fD}{S:aF->aX}(hS:∀(j:aF) (o:fD),S j=ai->os[j]? =ah o->∀e∈o.after,mQ .any e=ai->S e.on=ai)(S0:JD 0 os=ai):
  ∀j,S j=ai->∀i∈(GI [] os).getD j [],S i=true:=by
 obtain⟨rest,h1,h2,h3⟩:=Xa (os:=os) (acc:=[]);rw[gD]at h1;intro j;induction j using Nat.strongRecOn with
 |_ j ih=>
  intro hj i hi;rw[h1,cT]at hi;cases ho:os[j]? with
  |none=>rw[kY (by rw[h2];exact List.getElem?_eq_none_iff.1 ho)]at hi;cases hi
  |some o=>
   rw[h3 j o ho]at hi;simp only[yU,jS,bV,gD]at hi;have hi:=(GQ _ _ _ hi).elim (λh=>by cases h) id;obtain⟨e,he,hi⟩:=bQ.1 hi;have he:e∈o.after:=by simpa using he
   cases hb:mQ .any e with
   |false=>rw[hb]at hi;cases hi
   |true=>
    rw[hb]at hi;have jB:=NX S0 j o ho e he hb;rw[bV]at jB;have hSe:=hS j o hj ho e he hb;rcases cC.1 hi with rfl|hi
    ·exact hSe
    ·refine ih e.on jB hSe i ?_;rw[h1,cT];rw[cT,ea,bz jB]at hi;exact hi
end Go.FG

namespace Go.FG
theorem ID{p p':aF->aX}{i:aF}(hp:p i=ai)(mJ:p' i=ak)(iA:∀j,j≠i->p' j=p j):∀{l:aA aF},l.Nodup->i∈l->l.countP p'+1=l.countP p:=by
 have same:∀{l:aA aF},i∉l->l.countP p'=l.countP p:=by
  intro l;induction l with
  |nil=>intro _;rfl
  |cons m l ih=>intro h;rw[cC,not_or]at h;rw[lI,lI,ih h.2,iA m (λe=>h.1 e.symm)]
 intro l;induction l with
 |nil=>intro _ h;cases h
 |cons m l ih=>
  intro hn h;rw[la]at hn;rcases cC.1 h with rfl|h
  ·rw[lI,lI,same hn.1,hp,mJ];simp
  ·have hm:m≠i:=λe=>hn.1 (e▸h);rw[lI,lI,iA m hm,<-ih hn.2 h];omega
theorem qq{dQ:dv aX}{i:aF}(h:i<dQ.size)(d:aX):(dQ.setIfInBounds i ai).getD i d=true:=by simp[h]
section
variable {P:c6} {E:fS}
theorem O0(hE:eH P E)(hF:∀g,ca P E g (E.call g)){N:aF}{σ0:St}{c0:e_}{w0:bL}{all:dv fD}{oi:aF}{Q:Exit->Act->bL->Prop}{σ σ':St}{tr:Tr}(Ws:wC E all oi 0 all.toList σ tr σ')(aa4:calm 0 (GI [] all.toList) [] (tr.map (·.2))=ai)(S0:JD 0 all.toList=ai)
  (Cu:∀o∈all.toList,∀d,o.dst=ah d->d<N) (hQ:∀a w c,At P E N σ0 c0 w0 σ' a w c->Q .normal a w):
  ∀(fuel:aF) (dQ:dv aX) (a:Act) (w:bL) (c:e_),dQ.size=all.size->(∀(j:aF) (o:fD),dQ.getD j ak=ai->all.toList[j]? =ah o->∀e∈o.after,mQ .any e=ai->dQ.getD e.on ak=ai)->
   (b9 all.size).countP (λj=> !dQ.getD j ak)<=fuel->At P E N σ0 c0 w0 (Dv tr 0 (λj=>dQ.getD j ak) σ) a w c->wpAny P .any all Q fuel dQ a w:=by
 obtain⟨t1,t2,t3⟩:=Sq Ws;have hlen:all.toList.length=all.size:=dS;have done:∀(dQ:dv aX) (a:Act) (w:bL) (c:e_),(∀j,j<all.size->dQ.getD j ak=ai)->At P E N σ0 c0 w0 (Dv tr 0 (λj=>dQ.getD j ak) σ) a w c->Q .normal a w:=by
  intro dQ a w c nW gg;refine hQ a w c ?_;have:Dv tr 0 (λj=>dQ.getD j ak) σ=σ':=by
   rw[<-t2];funext k;refine uN rfl (λj ws lg hj iA=> ?_);have j7:j<all.size:=by rw[<-hlen,<-t1];exact(aT.1 hj).1
   rw[bV]at iA;exact cK (nW j j7) iA
  rw[<-this];exact gg
 have aeR:∀(dQ:dv aX) (j:aF),dQ.size=all.size->j<all.size->dQ.getD j ai=dQ.getD j false:=by
  intro dQ j hs hj;rw[eP,eP];have:j<dQ.size:=by omega
  simp[this]
 have full:∀dQ:dv aX,dQ.size=all.size->wF .any all dQ=[]->∀j,j<all.size->dQ.getD j ak=true:=by
  intro dQ hs hr j;induction j using Nat.strongRecOn with
  |_ j ih=>
   intro hj;cases h:dQ.getD j ak with
   |true=>rfl
   |false=>
    have ho:all[j]? =ah all[j]:=by simp[hj]
    have:j∈wF .any all dQ:=by
     rw[mem_ready];refine⟨by rw[aeR dQ j hs hj];exact h,all[j],ho,λe he hb=> ?_⟩
     have:=NX S0 j all[j] (by rw[cZ];exact ho) e he hb;rw[bV]at this;exact ih e.on this (by omega)
    rw[hr]at this;cases this
 intro fuel;induction fuel with
 |zero=>
  intro dQ a w c hs _ aiT gg;have nW:∀j,j<all.size->dQ.getD j ak=true:=by intro j hj;have h0:=List.countP_eq_zero.1 (Nat.le_zero.1 aiT) j (by simpa using hj);simpa using h0
  refine⟨?_,done dQ a w c nW gg⟩
  cases hr:wF .any all dQ with
  |nil=>rfl
  |cons i r=>
   have:i∈wF .any all dQ:=by rw[hr];exact dr ..
   obtain⟨h0,o,ho,_⟩:=mem_ready.1 this;have hi:i<all.size:=(dV.1 ho).1;rw[aeR dQ i hs hi,nW i hi]at h0;cases h0
 |succ fuel ih=>
  intro dQ a w c hs oc aiT gg;refine⟨λhr=>done dQ a w c (full dQ hs hr) gg,λi hi=> ?_⟩
  obtain⟨h0,o,ho,asd⟩:=mem_ready.1 hi;have hil:i<all.size:=(dV.1 ho).1;rw[aeR dQ i hs hil]at h0;have E5:all.toList[i]? =ah o:=by rw[cZ];exact ho
  obtain⟨ws,lg,q1,q2⟩:=t3 i o E5;rw[bV]at q2;have TD:∀{j:aF} {Ef:aA (aF×eU)} {Du:Lg},tr[j]? =ah (Ef,Du)->(tr.map (·.2))[j]? =ah Du/\Du.ws=Ef.map (·.1):=by
   intro j Ef Du hj;have j7:j<all.toList.length:=by rw[<-t1];exact(aT.1 hj).1
   obtain⟨ws2,lg2,r1,r2⟩:=t3 j all.toList[j] (by simp[j7]);rw[hj]at r1;cases r1;exact⟨by rw[bK,hj];rfl,r2.keys⟩
  obtain⟨lgi,kwi⟩:=TD q1;have afb:∀(j:aF) (o':fD),(dQ.setIfInBounds i ai).getD j ak=ai->all.toList[j]? =ah o'->∀e∈o'.after,mQ .any e=ai->(dQ.setIfInBounds i ai).getD e.on ak=true:=by
   intro j o' hj vu e he hb;by_cases K8:i=j
   ·subst K8;rw[E5]at vu;cases vu;exact getD_set_true (asd e he hb)
   ·rw[getD_set_ne ak K8]at hj;exact getD_set_true (oc j o' hj vu e he hb)
  have before:∀j,j<i->dQ.getD j ak=ak->∀{Ef:aA (aF×eU)} {Du:Lg},tr[j]? =ah (Ef,Du)->Cb lg Du=false:=by
   intro j hj hn Ef Du hjt;rcases M7 (done:=[]) rfl aa4 j i lg Du hj (bI _) (TD hjt).1 lgi with h|h
   ·have:=B1 afb S0 i (qq (by omega) ak) j h;rw[getD_set_ne ak (by omega:i≠j)]at this;rw[hn]at this;cases this
   ·exact h
  have after:∀j,i<j->dQ.getD j ak=ai->∀{Ef:aA (aF×eU)} {Du:Lg},tr[j]? =ah (Ef,Du)->Cb Du lg=false:=by
   intro j hj hn Ef Du hjt;rcases M7 (done:=[]) rfl aa4 i j Du lg hj (bI _) lgi (TD hjt).1 with h|h
   ·have:=B1 oc S0 j hn i h;rw[h0]at this;cases this
   ·exact h
  have ajp:vn E all (Lt oi i) o (Dv tr 0 (λj=>dQ.getD j ak) σ) ws lg:=by
   refine q2.congr (λk hk=>uN rfl (λj Ef Du hj iA hkw=> ?_));rw[bV]at iA;rw[<-(TD hj).2]at hkw;by_cases K8:j<i
   ·rw[aE K8]at iA;have hn:dQ.getD j ak=false:=by simpa using iA
    exact(tu (before j K8 hn hj)).2.2 k hkw hk
   ·rw[aK K8]at iA;have hn:dQ.getD j ak=true:=by simpa using iA
    have ar1:i<j:=by
     rcases qX i j with h|h
     ·exact h
     ·have:j=i:=by omega
      subst this;rw[h0]at hn;cases hn
    exact(tu (after j ar1 hn hj)).2.1 k hkw hk
  have zy:wr (Dv tr 0 (λj=>dQ.getD j ak) σ) ws=Dv tr 0 (λj=>(dQ.setIfInBounds i ai).getD j ak) σ:=by
   funext k;by_cases hk:k∈ws.map (·.1)
   ·have e1:Dv tr 0 (λj=>(dQ.setIfInBounds i ai).getD j ak) σ k=Dv tr 0 (λj=>(dQ.setIfInBounds i ai).getD j ak&&decide (j<=i)) σ k:=by
     refine uN rfl (λj Ef Du hj iA hkw=> ?_);rw[bV]at iA;rw[<-(TD hj).2]at hkw;have K8:i<j:=by
      rcases qX i j with h|h
      ·exact h
      ·rw[aE h,js]at iA;exact cK rfl iA
     rw[aK (by omega:¬j<=i),wA,getD_set_ne ak (by omega:i≠j)]at iA;have hn:dQ.getD j ak=true:=by simpa using iA
     rw[<-kwi]at hk;exact(tu (after j K8 hn hj)).1 k hkw hk
    obtain⟨τ,hτ⟩:=VK (i:=0) (S:=λj=>(dQ.setIfInBounds i ai).getD j ak&&decide (j<=i)) (σ:=σ) q1 (by rw[bV,qq (by omega) ak];simp) (λq hq=>by rw[aK (by omega:¬q<=i),wA]);rw[e1,hτ];exact V2 hk
   ·rw[pF hk];refine uN rfl (λj Ef Du hj iA hkw=> ?_);rw[bV]at iA;by_cases K8:i=j
    ·subst K8;rw[q1]at hj;cases hj;exact hk hkw
    ·rw[getD_set_ne ak K8]at iA;exact cK rfl iA
  refine BC hE hF gg.ok gg.sl (λd hd'=>by rw[gg.sz];exact Cu o (aR E5) d hd') ho ajp (λv w' c' h1 h2 h3 h4=> ?_);have AZ:=gg.step h1 h2 h3 h4;rw[zy]at AZ;refine ih (dQ.setIfInBounds i ai) _ _ c' (by simp[hs]) afb ?_ AZ;have:=ID (p:=λj=> !dQ.getD j ak) (p':=λj=> !(dQ.setIfInBounds i ai).getD j ak) (i:=i) (by rw[h0];rfl) (by rw[qq (by omega) ak];rfl) (λj hj=>by rw[getD_set_ne ak (λe=>hj e.symm)]) (l:=b9 all.size) List.nodup_range (by simpa using hil);omega
theorem At.drawn{N:aF}{σ0 σ:St}{c0 c:e_}{w0 w:bL}{a:Act}(h:At P E N σ0 c0 w0 σ a w c)(n:aF):At P E N σ0 c0 w0 σ a {w with drawn:=n} c:=by have hh:=h.ok.change (σ':=σ) (w':={w with drawn:=n}) (c':=c) (λ_=>False) (λ_ _=>rfl) (λ_ h=>h) (jF.refl _ _) (λ_ _ _=>rfl) (cG _) (λ_ h=>h) (λ_ h=> .inl h) h.ok.lt (λ_ _ h=>h.elim) (λ_ _ _ h=>h.elim) (λ_ _ _ _ _ h=>h.elim) (λ_ _ h=>h.elim) rfl rfl rfl;refine⟨hh.1,⟨λn'=>(h.sl.ok n').frame (λ_ _=>rfl) (λ_ h=>h) (λ_ _=>⟨rfl,rfl⟩),h.sl.kn,h.sl.df⟩,h.sz,h.gr.trans hh.2,h.ag⟩
theorem P3(hE:eH P E)(hF:∀g,ca P E g (E.call g))(hm:P.follows .mixedOrders=ai){R:Type}{N:aF}{σ0:St}{c0:e_}{w0:bL}{os:dv fD}{oi:aF}{draw:aX}{Q:Exit->Act->bL->Prop}{σ:St}{K:Ex->St->az R}{r:R}
  (h:ops E os oi 0 os.toList σ [] (λσ lg=>bif !draw||(JD 0 os.toList&&M6 (GI [] os.toList) lg.reverse)then K .normal σ else aj)=ah r) (Cu:∀o∈os.toList,∀d,o.dst=ah d->d<N)
  (hQ:∀σ' a w c,K .normal σ'=ah r->At P E N σ0 c0 w0 σ' a w c->Q .normal a w) {a:Act} {w:bL} {c:e_} (gg:At P E N σ0 c0 w0 σ a w c):(Code.region oi os draw).wp P Q a w:=by
 obtain⟨tr,σ',Ws,hk⟩:=PQ E os oi _ _ _ _ _ _ h;simp only[dp,vO,Sk]at hk;cases draw with
 |false=>simp only[bR,Ax,au]at hk;refine wp_region ?_;rw[R2,<-dS];exact KG hE hF os.toList 0 σ tr σ' Ws (λj o hj=>by rw[bV,<-cZ];exact hj) Cu (λa w c h=>hQ σ' a w c hk h) a w c gg
 |true=>
  cases hc:(JD 0 os.toList&&calm 0 (GI [] os.toList) [] (tr.map (·.2)))with
  |false=>simp[hc]at hk
  |true=>
   simp only[hc,Kh,au]at hk;simp only[aL]at hc;refine wp_region_any hm ?_;refine O0 hE hF Ws hc.2 hc.1 Cu (λa w c h=>hQ σ' a w c hk h) os.size _ a _ c (by simp) (λj o hj=> ?_) ?_ ?_
   ·exfalso;rw[eP,Ej]at hj;split at hj<;>cases hj
   ·exact di (List.countP_le_length) (by simp)
   ·have:Dv tr 0 (λj=>(A4 os.size ak).getD j ak) σ=σ:=De (λj _=>by rw[eP,Ej];split<;>rfl);rw[this];exact gg.drawn _
end
end Go.FG

namespace Go.FG
theorem S8:∀{l:aA aF} {n i:aF},n∈l->∃k,idx n i l=ah k/\i<=k/\k<i+l.length/\l[k-i]? =ah n:=by
 intro l;induction l with
 |nil=>intro n i h;cases h
 |cons m l ih=>
  intro n i h;unfold idx;cases hb:bD n m with
  |true=>have:=aU hb;subst this;exact⟨i,rfl,cG _,by simp,by simp⟩
  |false=>
   rcases cC.1 h with rfl|h
   ·simp at hb
   ·obtain⟨k,h1,h2,h3,h4⟩:=ih (i:=i+1) h;refine⟨k,h1,by omega,by simp;omega, ?_⟩
    rw[show k-i=(k-(i+1))+1 by omega,dP];exact h4
theorem X4:∀{l:aA aF} {n i k:aF},idx n i l=ah k->i<=k/\k<i+l.length/\l[k-i]? =ah n:=by
 intro l;induction l with
 |nil=>intro n i k h;cases h
 |cons m l ih=>
  intro n i k h;unfold idx at h;cases hb:bD n m with
  |true=>rw[hb]at h;have:=aU hb;subst this;cases h;exact⟨cG _,by simp,by simp⟩
  |false=>
   rw[hb]at h;obtain⟨h2,h3,h4⟩:=ih h;refine⟨by omega,by simp;omega, ?_⟩
   rw[show k-i=(k-(i+1))+1 by omega,dP];exact h4
theorem KM{f:aX}{k:aF}(h:k<900):enc f k<900000000:=by unfold enc;cases f<;>simp<;>omega
theorem X_{f:aX}{k:aF}(h:k<900):zD (enc f k)=f:=by
 cases f with
 |false=>
  show(bD (k%1000) 999&&qB k 900000000)=ak;have:bD (k%1000) 999=false:=by
   cases hb:bD (k%1000) 999 with
   |false=>rfl
   |true=>have:=aU hb;omega
  rw[this];rfl
 |true=>show(bD ((k*1000+999)%1000) 999&&qB (k*1000+999) 900000000)=ai;rw[show(k*1000+999)%1000=999 by omega,show qB (k*1000+999) 900000000=ai from Kp (by omega)];rfl
theorem Xr{f f':aX}{k k':aF}(h:k<900)(h':k'<900)(he:enc f k=enc f' k'):k=k':=by unfold enc at he;cases f<;>cases f'<;>simp at he<;>omega
theorem UW{l:aA aF}{n:aF}(h:n∈l):∃k,wk l n=ah k:=by
 unfold wk;cases fL 900000000 n with
 |true=>exact⟨n,by simp[Jr h]⟩
 |false=>obtain⟨k,hk,_⟩:=S8 (i:=0) h;exact⟨enc (zD n) k,by simp[hk]⟩
theorem xT{l:aA aF}{n k:aF}(h:wk l n=ah k):n∈l/\((900000000<=n/\k=n)\/(n<900000000/\∃k0,k=enc (zD n) k0/\k0<l.length/\l[k0]? =ah n)):=by
 unfold wk at h;cases hb:fL 900000000 n with
 |true=>
  rw[hb]at h;cases hm:mK n l with
  |true=>simp only[hm,au]at h;cases h;exact⟨zH hm, .inl ⟨cO hb,rfl⟩⟩
  |false=>simp[hm]at h
 |false=>
  rw[hb,ax]at h;cases hi:idx n 0 l with
  |none=>rw[hi]at h;cases h
  |some k0=>
   rw[hi]at h;cases h;obtain⟨_,h3,h4⟩:=X4 hi;rw[si]at h4;refine⟨aR h4, .inr ⟨?_,k0,rfl,by simpa using h3,h4⟩⟩
   rcases qX n 900000000 with h|h
   ·exact h
   ·rw[Kp h]at hb;cases hb
theorem N0{l:aA aF}(hl:l.length<=900){n k:aF}(h:wk l n=ah k):zD k=zD n:=by
 obtain⟨_,⟨_,rfl⟩|⟨_,k0,rfl,h3,_⟩⟩:=xT h
 ·rfl
 ·exact X_ (by omega)
theorem ZB{l:aA aF}(hl:l.length<=900){n n' k:aF}(h:wk l n=ah k)(h':wk l n'=ah k):n=n':=by
 obtain⟨_,h1⟩:=xT h;obtain⟨_,h2⟩:=xT h';rcases h1 with ⟨a,b⟩|⟨a,k0,b,d,e⟩<;>rcases h2 with ⟨a',b'⟩|⟨a',k0',b',d',e'⟩
 ·omega
 ·have:=KM (f:=zD n') (k:=k0') (by omega);omega
 ·have:=KM (f:=zD n) (k:=k0) (by omega);omega
 ·have:=Xr (f:=zD n) (f':=zD n') (k:=k0) (k':=k0') (by omega) (by omega) (b.symm.trans b');subst this;rw[e]at e';cases e';rfl
def inv(l:aA aF)(m:aF):az aF:=l.find? λn=>decide (wk l n=ah m)
theorem afz{l:aA aF}(hl:l.length<=900){n k:aF}(h:wk l n=ah k):inv l k=ah n:=by
 unfold inv;cases hf:l.find? (λn=>decide (wk l n=ah k))with
 |none=>have:=W4.1 hf n (xT h).1;simp[h]at this
 |some n'=>have:=vl hf;rw[ZB hl h (cu this)]
theorem Tc{l:aA aF}{m n:aF}(h:inv l m=ah n):wk l n=ah m:=cu (vl (p:=λn=>decide (wk l n=ah m)) h)
theorem Fa{l ns:aA aF}(h:zF l ns=ai):∀n∈ns,n∈l:=λn hn=>zH (bu.1 h n hn)
theorem rS{σ:St}{l:aA aF}:∀{r:aA aF} {k:aF} {x:eU},(k,x)∈wh σ l r↔∃n∈r,∃m,wk l n=ah m/\k=c9 m/\x=P4 l (σ (c9 n)):=by
 intro r;induction r with
 |nil=>intro k x;simp[wh]
 |cons n r ih=>
  intro k x;unfold wh;cases hr:wk l n with
  |none=>
   simp only;rw[ih];constructor
   ·rintro ⟨n',h1,h2⟩;exact⟨n',c8 _ h1,h2⟩
   ·rintro ⟨n',h1,m,h2,h3⟩;rcases cC.1 h1 with rfl|h1
    ·rw[hr]at h2;cases h2
    ·exact⟨n',h1,m,h2,h3⟩
  |some m=>
   simp only[cC,ih];constructor
   ·rintro (h|⟨n',h1,h2⟩)
    ·cases h;exact⟨n, .inl rfl,m,hr,rfl,rfl⟩
    ·exact⟨n', .inr h1,h2⟩
   ·rintro ⟨n',h1|h1,m',h2,rfl,rfl⟩
    ·subst h1;rw[hr]at h2;cases h2;exact .inl rfl
    ·exact .inr ⟨n',h1,m',h2,rfl,rfl⟩
section
variable {P:c6} {E:fS} {σ:St} {a:Act} {w:bL} {c:e_} {o:fD} {nm:aF} {e:s5}
def xR(c:e_)(l:aA aF):e_:=
 ⟨λm=>match inv l m with|some n=>c.P n|none=>c.P m,λm=>match inv l m with|some n=>c.G n|none=>c.G m,c.K⟩
theorem xS{l:aA aF}(hl:l.length<=900){n m:aF}(h:wk l n=ah m):(xR c l).P m=c.P n/\(xR c l).G m=c.G n:=by have:=afz hl h;unfold xR;simp only[this];exact⟨trivial,trivial⟩
theorem tU{T:Tab}{l:aA aF}(hl:l.length<=900){x:AV}{u:bk}(hx:eM T w c x u)(hk:∀n∈bS x,n∈l):eM T w (xR c l) (p8 l x) u/\∀m∈bS (p8 l x),∃n∈l,wk l n=ah m:=by
 have named:∀n,n∈bS x->∃k,wk l n=ah k/\(xR c l).P k=c.P n/\(xR c l).G k=c.G n:=λn hn=>by obtain⟨k,h⟩:=UW (hk n hn);exact⟨k,h,xS hl h⟩
 have nn:∀m,m∈([]:aA aF)->∃n∈l,wk l n=ah m:=λm h=>by cases h
 cases x with
 |i=>exact⟨hx,nn⟩
 |b=>exact⟨hx,nn⟩
 |s=>exact⟨hx,nn⟩
 |nl=>exact⟨hx,nn⟩
 |sh=>exact⟨hx,nn⟩
 |sp=>exact⟨hx,nn⟩
 |fn=>exact⟨hx,nn⟩
 |fp=>exact⟨hx,nn⟩
 |own n=>obtain⟨k,h,e1,e2⟩:=named n (by simp[bS]);simp only[p8,h];exact⟨by simp only[eM,e1]at hx⊢;exact hx,λm hm=>⟨n,hk n (by simp[bS]),by rw[show m=k by simpa [bS]using hm];exact h⟩⟩
 |vw n lo hi=>obtain⟨k,h,e1,e2⟩:=named n (by simp[bS]);simp only[p8,h];exact⟨by simp only[eM,e1]at hx⊢;exact hx,λm hm=>⟨n,hk n (by simp[bS]),by rw[show m=k by simpa [bS]using hm];exact h⟩⟩
 |bp n j=>obtain⟨k,h,e1,e2⟩:=named n (by simp[bS]);simp only[p8,h];exact⟨by simp only[eM,e1]at hx⊢;exact hx,λm hm=>⟨n,hk n (by simp[bS]),by rw[show m=k by simpa [bS]using hm];exact h⟩⟩
 |rp n i j=>obtain⟨k,h,e1,e2⟩:=named n (by simp[bS]);simp only[p8,h];exact⟨by simp only[eM,e1]at hx⊢;exact hx,λm hm=>⟨n,hk n (by simp[bS]),by rw[show m=k by simpa [bS]using hm];exact h⟩⟩
 |inn n i j=>obtain⟨k,h,e1,e2⟩:=named n (by simp[bS]);simp only[p8,h];exact⟨by simp only[eM,e1,e2,N0 hl h]at hx⊢;exact hx,λm hm=>⟨n,hk n (by simp[bS]),by rw[show m=k by simpa [bS]using hm];exact h⟩⟩
 |ip n i j i2 j2=>obtain⟨k,h,e1,e2⟩:=named n (by simp[bS]);simp only[p8,h];exact⟨by simp only[eM,e1,e2,N0 hl h]at hx⊢;exact hx,λm hm=>⟨n,hk n (by simp[bS]),by rw[show m=k by simpa [bS]using hm];exact h⟩⟩
theorem LH{T:Tab}{l:aA aF}(hl:l.length<=900){g:aX}{xs:aA AV}{u:bk}(hx:qn T w c g xs u)(hk:∀n∈xs.flatMap bS,n∈l):qn T w (xR c l) g (xs.map (p8 l)) u/\∀m∈(xs.map (p8 l)).flatMap bS,∃n∈l,wk l n=ah m:=by
 have kx:∀x∈xs,∀n∈bS x,n∈l:=λx hx n hn=>hk n (bQ.2 ⟨x,hx,hn⟩);unfold qn at hx;split at hx
 ·rename_i y;obtain⟨h1,h2⟩:=tU hl hx (kx y (by simp));exact⟨h1,λm hm=>h2 m (by simpa using hm)⟩
 ·obtain⟨vals,rfl,hs,hv⟩:=hx;refine⟨⟨vals,rfl,by simp[hs],λj y hj=> ?_⟩,λm hm=> ?_⟩
  ·rw[bK]at hj;cases X1:xs[j]? with
   |none=>rw[X1]at hj;cases hj
   |some x=>rw[X1]at hj;cases hj;obtain⟨u,hu,ha⟩:=hv j x X1;exact⟨u,hu,(tU hl ha (kx x (aR X1))).1⟩
  ·obtain⟨y,hy,hm⟩:=bQ.1 hm;obtain⟨x,hxm,rfl⟩:=cX.1 hy;obtain⟨j,hj⟩:=bY hxm;obtain⟨u,hu,ha⟩:=hv j x hj;exact(tU hl ha (kx x hxm)).2 m hm
 ·exact hx.elim
theorem JJ{T:Tab}{l:aA aF}(hl:l.length<=900){s:SV}{u:bk}(hx:jk T w c s u):jk T w (xR c l) (Fp l s) u/\∀m∈cQ (Fp l s),∃n∈l,wk l n=ah m:=by
 unfold Fp;cases hk:zF l (cQ s)with
 |false=>exact⟨trivial,λm hm=>by simp[cQ]at hm⟩
 |true=>
  have hk:=Fa hk;simp only[au];cases s with
  |un=>exact⟨trivial,λm hm=>by simp[cQ]at hm⟩
  |v g xs=>exact LH hl hx hk
  |kj r=>
   obtain⟨vs,rfl,hs,hv⟩:=hx;have kr:∀x∈r,∀n∈x.2.flatMap bS,n∈l:=λx hx n hn=>hk n (bQ.2 ⟨x,hx,hn⟩);refine⟨⟨vs,rfl,by simp[hs],λj g xs hj=> ?_⟩,λm hm=> ?_⟩
   ·rw[bK]at hj;cases X1:r[j]? with
    |none=>rw[X1]at hj;cases hj
    |some x=>rw[X1]at hj;cases hj;obtain⟨u,hu,ha⟩:=hv j x.1 x.2 X1;exact⟨u,hu,(LH hl ha (kr x (aR X1))).1⟩
   ·obtain⟨y,hy,hm⟩:=bQ.1 hm;obtain⟨x,hxm,rfl⟩:=cX.1 hy;obtain⟨j,hj⟩:=bY hxm;obtain⟨u,hu,ha⟩:=hv j x.1 x.2 hj;exact(LH hl ha (kr x hxm)).2 m hm
theorem UU{l:aA aF}{x:eU}:P4 l x≠ .j8:=by
 unfold P4;split
 ·intro h;revert h;cases zF l _<;>simp
 ·simp
 ·simp
theorem OZ{N:aF}{σ0:St}{c0:e_}{w0:bL}{keep:aA aF}(h:At P E N σ0 c0 w0 σ a w c):∃c',At P E N σ0 c0 w0 (fN (mX (KE keep σ) λl=>KD keep σ l)) a w c':=by
 rw[oW];generalize KE keep σ=l;unfold KD;cases hle:fL l.length 900 with
 |false=>
  simp only[ax];have hn:∀k,fN [] k= .j8:=λk=>rfl;have no:∀{k:aF} {x:Obj},fN [] k≠ .o x:=λh=>by rw[hn]at h;cases h
  refine⟨c,⟨λnm o ho=>cK ho no,λnm o xO o' b ho=>cK ho no,λnm o b ho=>cK ho no,h.ok.lt,λnm xs ho=>cK ho no⟩,⟨λn=>trivial,λn m hm=>(by simp[slot,fN,cQ]at hm),h.sl.df⟩,h.sz,h.gr.trans ⟨rfl,rfl,rfl,cG _,λ_ h=>h,λ_ _ _=>rfl,λb hb=> ?_,λ_ h=> .inl h⟩,h.ag⟩
  obtain⟨nm,o,ho,_⟩:=hb;exact cK ho no
 |true=>
  have hl:=cO hle;simp only[au];generalize hT:keep.map (λn=>(qu n,eU.v (Fp l (slot σ n))))++wh σ l l=T;have auW:∀d∈T,d.2≠ .j8:=by
   rintro ⟨k,x⟩ hd;rw[<-hT]at hd;rcases ba.1 hd with hd|hd
   ·obtain⟨n,_,hd⟩:=cX.1 hd;cases hd;simp
   ·obtain⟨n,_,m,_,_,rfl⟩:=rS.1 hd;exact UU
  have auX:∀{m:aF} {ob:Obj},fN T (c9 m)= .o ob->∃n∈l,wk l n=ah m/\P4 l (σ (c9 n))= .o ob:=by
   intro m ob ho;have:=nX ho (by simp);rw[<-hT]at this;rcases ba.1 this with hd|hd
   ·obtain⟨n,_,hd⟩:=cX.1 hd;injection hd with h1 h2;exact cK h1 (sa n m)
   ·obtain⟨n,hn,m',hr,h1,h2⟩:=rS.1 hd;have:=jZ h1;subst this;exact⟨n,hn,hr,h2.symm⟩
  have Tz:∀{m n:aF},n∈l->wk l n=ah m->fN T (c9 m)≠ .j8:=λhn hr=>sd (l:=T) (by rw[<-hT];exact bN _ (rS.2 ⟨_,hn,_,hr,rfl,rfl⟩)) auW;have acL:∀n,slot (fN T) n=Fp l (slot σ n)\/slot (fN T) n= .un:=by
   intro n;unfold slot;cases hs:fN T (qu n)with
   |v x=>
    have:=nX hs (by simp);rw[<-hT]at this;rcases ba.1 this with hd|hd
    ·obtain⟨n',_,hd⟩:=cX.1 hd;injection hd with h1 h2;have:=HB h1;subst this;cases h2;exact .inl rfl
    ·obtain⟨n',hn,m',hr,h1,h2⟩:=rS.1 hd;exact cK h1 (sa _ _)
   |o=>exact .inr rfl
   |j8=>exact .inr rfl
  have was:∀{m:aF} {ob:Obj},fN T (c9 m)= .o ob->ob= .dead\/∃n∈l,wk l n=ah m/\((σ (c9 n)= .o ob/\∀xs,ob≠ .box xs)\/∃xs,σ (c9 n)= .o (.box xs)/\ob= .box (xs.map (p8 l))/\∀k∈xs.flatMap bS,k∈l):=by
   intro m ob ho;obtain⟨n,hn,hr,he⟩:=auX ho;unfold P4 at he;split at he
   ·rename_i xs hx;cases hk:zF l (xs.flatMap bS)with
    |true=>rw[hk]at he;cases he;exact .inr ⟨n,hn,hr, .inr ⟨xs,hx,rfl,Fa hk⟩⟩
    |false=>rw[hk]at he;cases he;exact .inl rfl
   ·rename_i x iA hx;cases he;exact .inr ⟨n,hn,hr, .inl ⟨hx,λxs e=>iA xs e⟩⟩
   ·cases he;exact .inl rfl
  have Np:∀{m:aF} {ob:Obj} {b:aF},fN T (c9 m)= .o ob->fM (xR c l) m ob b->∃n o,wk l n=ah m/\σ (c9 n)= .o o/\fM c n o b:=by
   intro m ob b ho hf;rcases was ho with rfl|⟨n,hn,hr,⟨h1,_⟩|⟨xs,h1,rfl,_⟩⟩
   ·exact hf.elim
   ·obtain⟨e1,e2⟩:=xS (c:=c) hl hr;refine⟨n,ob,hr,h1, ?_⟩
    cases ob<;>simp only[fM,e1,e2]at hf⊢ <;>exact hf
   ·obtain⟨e1,e2⟩:=xS (c:=c) hl hr;refine⟨n,_,hr,h1, ?_⟩
    simp only[fM,e1]at hf⊢;exact hf
  refine⟨xR c l,⟨?_, ?_, ?_,h.ok.lt, ?_⟩,⟨?_, ?_,h.sl.df⟩,h.sz,h.gr.trans ⟨rfl,rfl,rfl,cG _,λ_ h=>h,λ_ _ _=>rfl, ?_,λ_ h=> .inl h⟩,h.ag.trans ?_⟩
  ·intro m ob ho;rcases was ho with rfl|⟨n,hn,hr,⟨h1,h2⟩|⟨xs,h1,rfl,hk⟩⟩
   ·trivial
   ·obtain⟨e1,e2⟩:=xS (c:=c) hl hr;have mY:=h.ok.obj n ob h1;cases ob with
    |box xs=>exact cK rfl (h2 xs)
    |dead=>trivial
    |oa cs=>show FB E w c.K ((xR c l).P m).blk cs;rw[e1];exact mY
    |fU e' xs=>show da E w c.K (lT ((xR c l).P m)) _/\((xR c l).P m).n=_/\_;rw[e1];exact mY
    |row e' ex xs=>obtain⟨q1,q2,q3⟩:=mY;exact⟨by rw[e1];exact q1,by rw[e1,e2];exact q2,by rw[e1,e2];exact q3⟩
   ·obtain⟨e1,e2⟩:=xS (c:=c) hl hr;obtain⟨vals,hb,hs,hv⟩:=h.ok.obj n _ h1;refine⟨vals,by rw[e1];exact hb,by simp[hs],λj y hj=> ?_⟩
    rw[bK]at hj;cases hx:xs[j]? with
    |none=>rw[hx]at hj;cases hj
    |some x=>rw[hx]at hj;cases hj;obtain⟨u,hu,ha⟩:=hv j x hx;exact⟨u,hu,(tU hl ha (λk vt=>hk k (bQ.2 ⟨x,aR hx,vt⟩))).1⟩
  ·intro m ob m' ob' b ho vu hf vp;obtain⟨n,o1,r1,s1,f1⟩:=Np ho hf;obtain⟨n',o2,r2,s2,f2⟩:=Np vu vp;have:=h.ok.sep n o1 n' o2 b s1 s2 f1 f2;subst this;rw[r1]at r2;cases r2;rfl
  ·intro m ob b ho hf;obtain⟨n,o1,r1,s1,f1⟩:=Np ho hf;exact h.ok.kk n o1 b s1 f1
  ·intro m xs ho y hy k hk;rcases was ho with h'|⟨n,hn,hr,⟨h1,h2⟩|⟨zs,h1,he,Jc⟩⟩
   ·cases h'
   ·exact cK rfl (h2 xs)
   ·cases he;obtain⟨x,hxm,rfl⟩:=cX.1 hy;obtain⟨vals,hb,hs,hv⟩:=h.ok.obj n _ h1;obtain⟨j,hj⟩:=bY hxm;obtain⟨u,hu,ha⟩:=hv j x hj;obtain⟨n',kK,D1⟩:=(tU hl ha (λk vt=>Jc k (bQ.2 ⟨x,hxm,vt⟩))).2 k hk;exact Tz kK D1
  ·intro n;rcases acL n with hs|hs
   ·rw[hs];exact(JJ hl (h.sl.ok n)).1
   ·rw[hs];trivial
  ·intro n m hm;rcases acL n with hs|hs
   ·rw[hs]at hm;obtain⟨n',kK,D1⟩:=(JJ hl (h.sl.ok n)).2 m hm;exact Tz kK D1
   ·rw[hs]at hm;simp[cQ]at hm
  ·rintro b ⟨m,ob,ho,hf⟩;obtain⟨n,o1,r1,s1,f1⟩:=Np ho hf;exact .inl ⟨n,o1,s1,f1⟩
  ·intro m hm;unfold xR;cases hi:inv l m with
   |none=>simp only[hi];exact⟨trivial,trivial⟩
   |some n=>
    have:=(xT (Tc hi)).2;have:n=m:=by
     rcases this with ⟨_,h⟩|⟨_,k0,h,hk0,_⟩
     ·exact h.symm
     ·have:=KM (f:=zD n) (k:=k0) (by omega);omega
    subst this;simp only[hi];exact⟨trivial,trivial⟩
theorem aj2{N:aF}{σ0:St}{c0:e_}{w0:bL}{nm F j e:aF}{xs:aA AV}{ti:TI}(hx:E.ty e=ah ti)(jB:F<900000000)(mY:σ (c9 nm)= .o (.box xs))(hF:σ (c9 F)= .j8)(hc:xs[j]? =ah .nl)(h:At P E N σ0 c0 w0 σ a w c):
  ∃c',At P E N σ0 c0 w0 (pP (pP σ (c9 nm) (.o (.box (xs.set j (.own F))))) (c9 F) (.o (.row e ai []))) a w c':=by
 let c':e_:=⟨λn=>if n=F then⟨ai,0,0,0,0,ti.ks.length⟩else c.P n,λn=>if n=F then(λ_ _=>⟨ai,0,0,0,0,0⟩)else c.G n,c.K⟩
 have hP:c'.P F=⟨ai,0,0,0,0,ti.ks.length⟩:=bz rfl;have hA:jF σ c c':=λm hm=>by
  have:m≠F:=by rintro rfl;rcases hm with h|h;exact h hF;omega
  exact⟨bH this,bH this⟩
 have hnF:nm≠F:=by rintro rfl;rw[mY]at hF;cases hF
 have hPn:c'.P nm=c.P nm:=bH hnF;let σ':=pP (pP σ (c9 nm) (.o (.box (xs.set j (.own F))))) (c9 F) (.o (.row e ai []));have key:∀m,σ' (c9 m)=if m=F then .o (.row e ai [])else if m=nm then .o (.box (xs.set j (.own F)))else σ (c9 m):=λm=>by show pP _ _ _ _=_;rw[qb,qb]
 have iA:∀m,σ (c9 m)≠ .j8->σ' (c9 m)≠ .j8:=λm hm=>by
  rw[key];by_cases h1:m=F
  ·rw[bz h1];simp
  ·rw[bH h1];by_cases h2:m=nm
   ·rw[bz h2];simp
   ·rw[bH h2];exact hm
 have noI:∀i j,¬gk [] i j:=λi j ⟨y,x,hy,_⟩=>by simp at hy
 have foF:∀b,¬fM c' F (.row e ai []) b:=by
  rintro b (⟨h1,_⟩|⟨_,i,j,h1,_⟩)
  ·rw[hP]at h1;cases h1
  ·exact noI i j h1
 obtain⟨vals,hb,gi,hv⟩:=h.ok.obj nm _ mY
 have hh:=h.ok.change (σ':=σ') (w':=w) (c':=c') (λm=>m=F\/m=nm)
  (λm hm=>by rw[key,bH (λe=>hm (.inl e)),bH (λe=>hm (.inr e))]) iA hA (λ_ _ _=>rfl) (cG _) (λ_ h=>h) (λ_ h=> .inl h) h.ok.lt
  (λm o hm ho=>by
   rw[key]at ho;by_cases Jd:m=F
   ·rw[bz Jd]at ho;cases ho;subst Jd;refine⟨⟨ti,hx,by rw[hP],λy hy=>by cases hy⟩,⟨by rw[hP];rfl,λ_=>⟨rfl,by rw[hP]⟩,λhn=>by rw[hP]at hn;cases hn⟩,λ_=>⟨λi j hi=>cK hi (noI i j),λi j _ _ hi=>cK hi (noI i j)⟩⟩
   ·have hmn:=hm.resolve_left Jd;subst hmn;rw[bH Jd,bz rfl]at ho;cases ho;refine⟨vals,by rw[hPn];exact hb,by rw[cE];exact gi,λk y hk=> ?_⟩
    by_cases hkj:j=k
    ·subst hkj;have hl:j<xs.length:=(aT.1 hc).1;rw[List.getElem?_set_self hl]at hk;cases hk;obtain⟨u,hu,Wr⟩:=hv j _ hc;exact⟨u,hu,by show u=lT (c'.P F);rw[hP];exact Wr⟩
    ·rw[List.getElem?_set_ne hkj]at hk;obtain⟨u,hu,Wr⟩:=hv k y hk;exact⟨u,hu,Wr.frame (λ_ _=>rfl) (λ_ h=>h) (λn hn=>hA n (.inl (h.ok.kn m xs mY y (aR hk) n hn)))⟩)
  (λm o b hm ho hf=>by
   rw[key]at ho;by_cases Jd:m=F
   ·rw[bz Jd]at ho;cases ho;subst Jd;exact cK hf (foF b)
   ·have hmn:=hm.resolve_left Jd;subst hmn;rw[bH Jd,bz rfl]at ho;cases ho;have hf:b=(c'.P m).blk:=hf;rw[hPn]at hf;exact⟨.inl ⟨m,_, .inr rfl,mY,hf⟩,λhk=>h.ok.kk m _ b mY hf hk⟩)
  (λm o m' o' b hm xH ho vu hf vp=>by
   rw[key]at ho vu;by_cases Jd:m=F
   ·rw[bz Jd]at ho;cases ho;subst Jd;exact cK hf (foF b)
   ·by_cases afh:m'=F
    ·rw[bz afh]at vu;cases vu;subst afh;exact cK vp (foF b)
    ·rw[hm.resolve_left Jd,xH.resolve_left afh])
  (λm ys hm ho y hy n hn=>by
   rw[key]at ho;by_cases Jd:m=F
   ·rw[bz Jd]at ho;cases ho
   ·have hmn:=hm.resolve_left Jd;subst hmn;rw[bH Jd,bz rfl]at ho;cases ho;rcases jK hy with hy|hy
    ·exact iA n (h.ok.kn m xs mY y hy n hn)
    ·subst hy;rw[show n=F from by simpa [bS]using hn,key,bz rfl];simp) rfl rfl rfl
 have sl:=h.sl.change h.ok hh.2 hA iA ({(default:fD)with dst:=none}) undef (λn _=>by show slot (pP _ _ _) n=_;rw[jr,jr]) (λd hd=>by cases hd);exact⟨c',hh.1,sl,h.sz,h.gr.trans hh.2,h.ag.trans hA.w.aga⟩
theorem TY{α:Type}{N:aF}{σ0:St}{c0:e_}{w0:bL}{x:aF}(hx:∃ti,E.ty (kTy x)=ah ti)(h:At P E N σ0 c0 w0 σ a w c):∃σ' c',At P E N σ0 c0 w0 σ' a w c'/\∀f:St->α,Am x σ f=f σ':=by
 obtain⟨ti,hx⟩:=hx;have jB:kNm x<900000000:=by unfold kNm;have:=Ds (x/1000) (show 1000000>0 by omega);omega
 have no:(∀f:St->α,Am x σ f=f σ)->∃σ' c',At P E N σ0 c0 w0 σ' a w c'/\∀f:St->α,Am x σ f=f σ':=λe=>⟨σ,c,h,e⟩
 cases hs:slot σ (ab0 x)with
 |v g l=>
  by_cases hm:∃nm xs,g=ak/\l=[.bp nm 0]/\σ (c9 nm)= .o (.box xs)/\σ (c9 (kNm x))= .j8/\xs[Tv x]? =ah .nl
  ·obtain⟨nm,xs,rfl,rfl,mY,hF,hc⟩:=hm;obtain⟨c',h'⟩:=aj2 hx jB mY hF hc h;exact⟨_,c',h',λf=>by unfold Am;rw[hs];simp only[mY,hF,hc,nV]⟩
  ·refine no λf=> ?_;unfold Am;rw[hs];split
   ·rename_i nm he;cases he;split
    ·rename_i xs h1 h2;split
     ·rename_i h3;exact cK ⟨nm,xs,rfl,rfl,h1,h2,h3⟩ hm
     ·rfl
    ·rfl
   ·rfl
 |kj l=>exact no λf=>by unfold Am;rw[hs]
 |un=>exact no λf=>by unfold Am;rw[hs]
theorem CH{α:Type}{N:aF}{σ0:St}{c0:e_}{w0:bL}:∀(keep:aA aF) (σ:St) (c:e_) (hk:∀x∈keep,Ya x=ai->∃ti,E.ty (kTy x)=ah ti) (h:At P E N σ0 c0 w0 σ a w c),∃σ' c',At P E N σ0 c0 w0 σ' a w c'/\∀f:St->α,NL keep σ f=f σ'
 |[],σ,c,_,h=>⟨σ,c,h,λ_=>rfl⟩
 |x::r,σ,c,hk,h=>by
  cases hx:Ya x with
  |false=>obtain⟨σ',c',h',e⟩:=CH r σ c (λy hy=>hk y (c8 _ hy)) h;exact⟨σ',c',h',λf=>by show(bif Ya x then _ else _)=_;rw[hx];exact e f⟩
  |true=>obtain⟨σ1,c1,h1,e1⟩:=TY (α:=α) (hk x (dr ..) hx) h;obtain⟨σ',c',h',e⟩:=CH r σ1 c1 (λy hy=>hk y (c8 _ hy)) h1;exact⟨σ',c',h',λf=>by show(bif Ya x then _ else _)=_;rw[hx,au,e1,e]⟩
theorem Ix{N:aF}{σ0:St}{c0:e_}{w0:bL}{keep:aA aF}(hk:∀x∈keep,Ya x=ai->∃ti,E.ty (kTy x)=ah ti)(h:At P E N σ0 c0 w0 σ a w c):∃c',At P E N σ0 c0 w0 (canon keep σ) a w c':=by obtain⟨σ',c1,h1,e⟩:=CH (α:=aA (aF×eU)) keep σ c hk h;unfold canon KF;rw[e,oW];exact OZ h1
theorem Ty{n:aF}:∀x∈E.Ak n,Ya x=ai->∃ti,E.ty (kTy x)=ah ti:=by
 intro x hx hk;have:=(c_.1 hx).2;rw[hk,au]at this;cases h:E.ty (kTy x)with
 |some ti=>exact⟨ti,rfl⟩
 |none=>rw[h]at this;cases this
end
end Go.FG

namespace Go.FG
def aeU:Ex->Exit| .normal=> .normal| .exit id=> .exit id| .ret=> .ret
def tv(N:aF):Code->aX
 | .region _ os _=>os.toList.all λo=>match o.dst with|some d=>qB d N|none=>ai
 | .seq a b=>tv N a&&tv N b
 | .cond _ a b=>tv N a&&tv N b
 | .block _ c=>tv N c
 | .loop c=>tv N c
 |_=>ai
theorem least{p:aF->Prop}(h:∃n,p n):∃n,p n/\∀k,p k->n<=k:=by
 obtain⟨n,hn⟩:=h;induction n using Nat.strongRecOn with
 |_ n ih=>
  by_cases hm:∃m,m<n/\p m
  ·obtain⟨m,h1,h2⟩:=hm;exact ih m h1 h2
  ·exact⟨n,hn,λk hk=>by
    rcases qX k n with h|h
    ·exact cK ⟨k,h,hk⟩ hm
    ·exact h⟩
section
variable {P:c6} {E:fS}
def b_(E:fS){R:Type}(it:It R)(c:Code):Prop:=∀L K r,it (gH c) (tz E it c) (canon (E.Ak (gH c))) L K=ah r->∃n,iter (tz E it c) (canon (E.Ak (gH c))) n (fN L) K=ah r
theorem aeT(hE:eH P E)(hF:∀g,ca P E g (E.call g))(hm:P.follows .mixedOrders=ai){R:Type}{N:aF}{σ0:St}{c0:e_}{w0:bL}{it:It R}{r:R}:∀(code:Code),(∀c∈jY code,b_ E it c)->∀(σ:St) (K:Ex->St->az R) (Q:Exit->Act->bL->Prop),tz E it code σ K=ah r->tv N code=ai->
  (∀e σ' a w c,K e σ'=ah r->At P E N σ0 c0 w0 σ' a w c->Q (aeU e) a w)->∀a w c,At P E N σ0 c0 w0 σ a w c->code.wp P Q a w:=by
 intro code;induction code with
 |skip=>intro _ σ K Q h _ hQ a w c gg;exact wp_skip (hQ .normal σ a w c h gg)
 |region id os draw=>intro Cx σ K Q h hb hQ a w c gg;refine P3 hE hF hm h (λo ho d hd=> ?_) (λσ' a w c hk gg=>hQ .normal σ' a w c hk gg) gg;have:=bu.1 hb o ho;rw[hd]at this;have this:qB d N=true:=this;simpa [AE]using this
 |seq x y ihx ihy=>
  intro Cx σ K Q h hb hQ a w c gg;simp only[tv,aL]at hb;refine wp_seq (ihx (λc hc=>Cx c (bM _ hc)) σ _ _ h hb.1 (λe σ' a w c hk gg=> ?_) a w c gg);cases e with
  |normal=>exact ihy (λc hc=>Cx c (bN _ hc)) σ' K Q hk hb.2 hQ a w c gg
  |exit id=>exact hQ (.exit id) σ' a w c hk gg
  |ret=>exact hQ .ret σ' a w c hk gg
 |cond cnd x y ihx ihy=>
  intro Cx σ K Q h hb hQ a w c gg;simp only[tv,aL]at hb;cases cnd with
  |tmp t=>
   unfold tz at h;dsimp only at h;split at h
   ·rename_i b hs;have h1:=gg.sl.ok t;have:slot σ t= .v ak [.b b]:=by unfold slot;rw[hs]
    rw[this]at h1;have h1:a.eval (.tmp t)= .bool b:=h1;cases b with
    |true=>have h:tz E it x (pP σ (qu t) (.v (.v ak [.b ai]))) K=ah r:=h;rw[Dh hs]at h;exact wp_cond_true h1 (ihx (λc hc=>Cx c (bM _ hc)) σ K Q h hb.1 hQ a w c gg)
    |false=>have h:tz E it y (pP σ (qu t) (.v (.v ak [.b ak]))) K=ah r:=h;rw[Dh hs]at h;exact wp_cond_false h1 (ihy (λc hc=>Cx c (bN _ hc)) σ K Q h hb.2 hQ a w c gg)
   ·cases h
  |_=>simp[tz]at h
 |block id x ih=>
  intro Cx σ K Q h hb hQ a w c gg;refine wp_block (ih Cx σ _ _ h hb (λe σ' a w c hk gg=> ?_) a w c gg);cases e with
  |normal=>exact hQ .normal σ' a w c hk gg
  |ret=>exact hQ .ret σ' a w c hk gg
  |exit j=>
   have hk:(bif bD j id then K .normal σ' else K (.exit j) σ')=ah r:=hk;show H6 id Q (.exit j) a w;cases hj:bD j id with
   |true=>rw[hj]at hk;have K8:=aU hj;have h1:Q .normal a w:=hQ .normal σ' a w c hk gg;simp only[H6,K8,if_true];exact h1
   |false=>
    rw[hj]at hk;have iA:j≠id:=λe=>by subst e;simp at hj
    have h1:Q (.exit j) a w:=hQ (.exit j) σ' a w c hk gg;simp only[H6,iA,if_false];exact h1
 |loop x ih=>
  intro Cx σ K Q h hb hQ a w c gg;obtain⟨n,h⟩:∃n,iter (tz E it x) (canon (E.Ak (gH x))) n (canon (E.Ak (gH x)) σ) K=ah r:=Cx x (dr ..) _ K r h;let f:=tz (R:=R) E it x;let cn:=canon (E.Ak (gH x));let p:Act->bL->aF->Prop:=λa w m=>∃σ c,iter f cn m σ K=ah r/\At P E N σ0 c0 w0 σ a w c;let mu:Act->bL->aF:=λa w=>open Classical in if h:∃m,p a w m then(least h).choose else 0
  have hmu:∀a w,(∃m,p a w m)->p a w (mu a w)/\∀k,p a w k->mu a w<=k:=by
   intro a w h;have:mu a w=(least h).choose:=by simp only[mu];rw[dif_pos h]
   rw[this];exact(least h).choose_spec
  obtain⟨c1,arC⟩:=Ix (keep:=E.Ak (gH x)) Ty gg;refine wp_loop (λa w=>∃m,p a w m) mu ⟨n,_,c1,h,arC⟩ (λa w hI=> ?_);obtain⟨⟨σ1,c2,h1,oQ⟩,hle⟩:=hmu a w hI;cases hm0:mu a w with
  |zero=>rw[hm0]at h1;cases h1
  |succ m=>
   rw[hm0]at h1;refine ih (λc hc=>Cx c (c8 _ hc)) σ1 _ _ h1 hb (λe σ' a' w' c' hk AZ=> ?_) a w c2 oQ;obtain⟨c3,ae5⟩:=Ix (keep:=E.Ak (gH x)) Ty AZ;cases e with
   |normal=>
    have hp:p a' w' m:=⟨_,c3,hk,ae5⟩
    refine⟨⟨m,hp⟩, ?_⟩
    have:=(hmu a' w' ⟨m,hp⟩).2 m hp;omega
   |exit id=>exact hQ (.exit id) _ a' w' c3 hk ae5
   |ret=>exact hQ .ret _ a' w' c3 hk ae5
 |exit id=>intro _ σ K Q h _ hQ a w c gg;exact wp_exit (hQ (.exit id) σ a w c h gg)
 |ret=>intro _ σ K Q h _ hQ a w c gg;exact wp_ret (hQ .ret σ a w c h gg)
 |_=>intro _ σ K Q h;simp[tz]at h
end
end Go.FG

namespace Go.FG
structure jG where
 aa:AA
 tk:aA aF
 fz:aA aF
 p:Pl
 g:aF->aF->Pl
 u:bk
section
variable {P:c6} {E:fS} {σ:St} {a:Act} {w:bL} {c:e_}
def jX(T:Tab)(σ:St)(w:bL)(c:e_)(r:jG):Prop:=
 (∃e ex ys te,r.aa= .ow e ex ys/\r.fz=[]/\T.ty e=ah te/\r.u=lT r.p/\r.p.sz=te.ks.length/\(∀y∈ys,y.map CV.kd=te.ks)/\jj w r.p ys (λi j u x=>if ex=ai then XC T w r.g i j u x else da T w c.K u x)/\(ex=ai->FQ r.p r.g ys)/\
  (r.p.nil=ak->∃n ob,n∈r.tk/\σ (c9 n)= .o ob/\fM c n ob r.p.blk)/\(ex=ai->∀i j,gk ys i j->(r.g i j).nil=ak->∃n ob,n∈r.tk/\σ (c9 n)= .o ob/\fM c n ob (r.g i j).blk))\/
 (r.tk=[]/\(∀n∈r.fz,∃el ex xs,σ (c9 n)= .o (.row el ex xs))/\(∀e ex xs,r.aa≠ .ow e ex xs)/\(∀xs,r.aa≠ .kp xs)/\∀c3:e_,(∀b,K1r σ c r.fz b->c3.K b)->∀nm,eM T w c3 (lB nm r.aa) r.u)
theorem IV(cg:Ok E σ w c){om:Om}{k:Ck}{x:AV}{u:bk}{aa:AA}{tk fz:aA aF}(h:Ag E om σ k x=ah (aa,tk,fz))(hx:eM E w c x u):∃p g,jX E σ w c ⟨aa,tk,fz,p,g,u⟩:=by
 let nl:Pl:=⟨ai,0,0,0,0,0⟩
 have OW:∀e ex ys tk,(wW e x).val σ=ah (ex,ys,tk)->(∃te,E.ty e=ah te)->∃p g,jX E σ w c ⟨.ow e ex ys,tk,[],p,g,u⟩:=by rintro e ex ys tk hb ⟨te,ht⟩;obtain⟨p,g,hB⟩:=B7 cg ht hx hb;exact⟨p,g, .inl ⟨e,ex,ys,te,rfl,rfl,ht,hB.v,hB.sz,hB.sh,hB.at_,hB.inn,hB.own,hB.owni⟩⟩
 have SH:∀aa fz,(∀n∈fz,∃el ex xs,σ (c9 n)= .o (.row el ex xs))->(∀e ex xs,aa≠ .ow e ex xs)->(∀xs,aa≠ .kp xs)->(∀c3:e_,(∀b,K1r σ c fz b->c3.K b)->∀nm,eM E w c3 (lB nm aa) u)->∃p g,jX E σ w c ⟨aa,[],fz,p,g,u⟩:=
  λaa fz h1 h2 h3 h4=>⟨nl,λ_ _=>nl, .inr ⟨rfl,h1,h2,h3,h4⟩⟩
 have T0:∀n∈([]:aA aF),∃el ex xs,σ (c9 n)= .o (.row el ex xs):=λn hn=>by cases hn
 have HT:∀e,Ah E e=ai->∃te,E.ty e=ah te:=λe he=>by
  unfold Ah at he;cases ht:E.ty e with
  |none=>rw[ht]at he;cases he
  |some te=>exact⟨te,rfl⟩
 have frz:∀{n el:aF} {ex:aX} {xs:aQ},σ (c9 n)= .o (.row el ex xs)->∀c3:e_,(∀b,K1r σ c [n] b->c3.K b)->(∀b,c.K b->c3.K b)/\∀b,fM c n (.row el ex xs) b->c3.K b:=λhg c3 h=>⟨λb hb=>h b (.inl hb),λb hb=>h b (.inr ⟨_,aZ.2 rfl,_,hg,hb⟩)⟩
 have fst:∀{n el:aF} {ex:aX} {xs:aQ},σ (c9 n)= .o (.row el ex xs)->∀m∈[n],∃el ex xs,σ (c9 m)= .o (.row el ex xs):=λhg m hm=>by rw[aZ]at hm;subst hm;exact⟨_,_,_,hg⟩
 cases x with
 |i k n=>cases h;exact SH _ _ T0 (λ_ _ _ h=>by cases h) (λ_ h=>by cases h) (λc3 _ _=>hx)
 |b y=>cases h;exact SH _ _ T0 (λ_ _ _ h=>by cases h) (λ_ h=>by cases h) (λc3 _ _=>hx)
 |s y=>cases h;exact SH _ _ T0 (λ_ _ _ h=>by cases h) (λ_ h=>by cases h) (λc3 _ _=>hx)
 |sh e xs=>
  cases om with
  |own=>cases h
  |nat=>cases h;exact SH _ _ T0 (λ_ _ _ h=>by cases h) (λ_ h=>by cases h) (λc3 h3 _=>da.frame hx (λ_ _=>rfl) (λb hb=>h3 b (.inl hb)))
  |sh=>cases h;exact SH _ _ T0 (λ_ _ _ h=>by cases h) (λ_ h=>by cases h) (λc3 h3 _=>da.frame hx (λ_ _=>rfl) (λb hb=>h3 b (.inl hb)))
 |nl=>
  have hx:u= .slice aj 0 0:=hx;cases om with
  |own e=>
   have h:(bif Ah E e then ah (AA.ow e ai [],([]:aA aF),([]:aA aF))else aj)=ah (aa,tk,fz):=h;cases ht:Ah E e with
   |false=>rw[ht]at h;cases h
   |true=>rw[ht]at h;cases h;exact OW e ai [] [] rfl (HT e ht)
  |sh e=>cases h;exact SH _ _ T0 (λ_ _ _ h=>by cases h) (λ_ h=>by cases h) (λc3 _ _=>by rw[hx];exact da.nl _ _ _)
  |nat=>
   cases k with
   |l e=>
    have h:(bif Ah E e then ah (AA.ow e ai [],([]:aA aF),([]:aA aF))else aj)=ah (aa,tk,fz):=h;cases ht:Ah E e with
    |false=>rw[ht]at h;cases h
    |true=>rw[ht]at h;cases h;exact OW e ai [] [] rfl (HT e ht)
   |_=>cases h;exact SH _ _ T0 (λ_ _ _ h=>by cases h) (λ_ h=>by cases h) (λc3 _ _=>hx)
 |own n=>
  unfold Ag at h;dsimp only at h;cases ho:σ (c9 n)with
  |v=>rw[ho]at h;cases h
  |j8=>rw[ho]at h;cases h
  |o ob=>
   rw[ho]at h;have hu:u=lT (c.P n):=hx;cases ob with
   |row e ex xs=>
    obtain⟨_,_,ti,ht,_⟩:=lu cg ho;have hb:(wW e (.own n)).val σ=ah (ex,xs,[n]):=by simp[wW,jO,ho]
    cases om with
    |sh e'=>cases h;refine SH _ _ (fst ho) (λ_ _ _ h=>by cases h) (λ_ h=>by cases h) (λc3 h3 _=> ?_);obtain⟨r1,r2⟩:=frz ho c3 h3;rw[hu];exact r_ cg ho r1 r2
    |nat=>cases h;exact OW e ex xs [n] hb ⟨ti,ht⟩
    |own=>cases h;exact OW e ex xs [n] hb ⟨ti,ht⟩
   |fU e xs=>
    have hh:da E w c.K u (.l e xs):=by rw[hu];exact(cg.obj n _ ho).1
    cases om with
    |own=>cases h
    |nat=>cases h;exact SH _ _ T0 (λ_ _ _ h=>by cases h) (λ_ h=>by cases h) (λc3 h3 _=>da.frame hh (λ_ _=>rfl) (λb hb=>h3 b (.inl hb)))
    |sh=>cases h;exact SH _ _ T0 (λ_ _ _ h=>by cases h) (λ_ h=>by cases h) (λc3 h3 _=>da.frame hh (λ_ _=>rfl) (λb hb=>h3 b (.inl hb)))
   |_=>cases h
 |vw n lo hi=>
  unfold Ag at h;dsimp only at h;cases ho:σ (c9 n)with
  |v=>rw[ho]at h;cases h
  |j8=>rw[ho]at h;cases h
  |o ob=>
   rw[ho]at h;cases ob with
   |row e ex xs=>
    obtain⟨_,_,ti,ht,_⟩:=lu cg ho;have hb:(wW e (.vw n lo hi)).val σ=ah (ex,eA xs lo hi,[n]):=by simp[wW,jO,ho]
    cases om with
    |sh e'=>cases h;refine SH _ _ (fst ho) (λ_ _ _ h=>by cases h) (λ_ h=>by cases h) (λc3 h3 _=> ?_);obtain⟨r1,r2⟩:=frz ho c3 h3;exact Fx cg ho r1 r2 hx
    |nat=>cases h;exact OW e ex _ [n] hb ⟨ti,ht⟩
    |own=>cases h;exact OW e ex _ [n] hb ⟨ti,ht⟩
   |fU e xs=>
    have hh:da E w c.K u (.l e (eA xs lo hi)):=pz cg ho hx;cases om with
    |own=>cases h
    |nat=>cases h;exact SH _ _ T0 (λ_ _ _ h=>by cases h) (λ_ h=>by cases h) (λc3 h3 _=>da.frame hh (λ_ _=>rfl) (λb hb=>h3 b (.inl hb)))
    |sh=>cases h;exact SH _ _ T0 (λ_ _ _ h=>by cases h) (λ_ h=>by cases h) (λc3 h3 _=>da.frame hh (λ_ _=>rfl) (λb hb=>h3 b (.inl hb)))
   |_=>cases h
 |_=>simp[Ag]at h
theorem EV(cg:Ok E σ w c){q:aF}:∀{xs:aA AV} {j0:aF} {ks:aA Ck} {l:aA AA} {tk fz:aA aF} {vals:dv bk},tC E q σ j0 ks xs=ah (l,tk,fz)->f_ E w c vals xs->
  ∃cs:aA jG,l=cs.map (·.aa)/\tk=cs.flatMap (·.tk)/\fz=cs.flatMap (·.fz)/\cs.length=xs.length/\∀(j:aF) (r:jG),cs[j]? =ah r->vals[j]? =ah r.u/\jX E σ w c r:=by
 intro xs;induction xs with
 |nil=>intro j0 ks l tk fz vals h _;cases h;exact⟨[],rfl,rfl,rfl,rfl,λj r h=>by simp at h⟩
 |cons x xs ih=>
  intro j0 ks l tk fz vals h hv;unfold tC at h;split at h
  ·rename_i aa t f as ts fs h1 h2;cases h;obtain⟨u,hu,ha⟩:=hv.2 0 x rfl;obtain⟨p,g,hc⟩:=IV cg h1 ha;have Ny:f_ E w c (vals.extract 1 vals.size) xs:=by
    refine⟨by simp;have:=hv.1;simp at this;omega,λj b hj=> ?_⟩
    obtain⟨u,hu,hb⟩:=hv.2 (j+1) b hj;refine⟨u, ?_,hb⟩
    have:=(dV.1 hu).1;rw[ed,bz (by omega),ja];exact hu
   obtain⟨cs,rfl,rfl,rfl,i4,i5⟩:=ih h2 Ny;refine⟨⟨aa,t,f,p,g,u⟩::cs,rfl,rfl,rfl,by simp[i4],λj r hj=> ?_⟩
   cases j with
   |zero=>cases hj;exact⟨hu,hc⟩
   |succ j=>
    obtain⟨r1,r2⟩:=i5 j r hj;refine⟨?_,r2⟩
    rw[ed]at r1;split at r1
    ·rw[ja];exact r1
    ·cases r1
  ·cases h
end
end Go.FG

namespace Go.FG
structure ld where
 box:az aF
 agg:aX
 cs:aA jG
 v:bk
def ld.arg(R:ld):fy:=match R.box with|some _=> .pt (R.cs.map (·.aa))|none=> .v R.agg (R.cs.map (·.aa))
def ld.tk(R:ld):aA aF:=R.box.toList++R.cs.flatMap (·.tk)
def ld.fz(R:ld):aA aF:=R.cs.flatMap (·.fz)
def zN(rv:ResultVar)(tmps:dv bk):Sem bk:=match rv with| .tmp t=>pure (tmps.getD t undef)| .cell a t=>do loadVar t (<-asAddr (tmps.getD a undef))
section
variable {P:c6} {E:fS} {σ:St} {a:Act} {w:bL} {c:e_}
def BV(T:Tab)(σ:St)(w:bL)(c:e_)(R:ld):Prop:=
 (∃nm xs vals,R.box=ah nm/\σ (c9 nm)= .o (.box xs)/\R.v= .pointer (ah (ad (c.P nm).blk 0))/\nZ w (c.P nm).blk vals/\vals.size=R.cs.length/\∀(j:aF) (r:jG),R.cs[j]? =ah r->vals[j]? =ah r.u/\jX T σ w c r)\/
 (R.box=aj/\((R.agg=ak/\∃r,R.cs=[r]/\r.u=R.v/\jX T σ w c r)\/(R.agg=ai/\∃vals:dv bk,R.v= .agg vals/\vals.size=R.cs.length/\∀(j:aF) (r:jG),R.cs[j]? =ah r->vals[j]? =ah r.u/\jX T σ w c r)))
theorem IW(cg:Ok E σ w c){q:aF}{ks:aA Ck}{s:SV}{v:bk}{x:fy}{tk fz:aA aF}(h:Nm E q σ ks s=ah (x,tk,fz))(hs:jk E w c s v):∃R:ld,R.arg=x/\R.tk=tk/\R.fz=fz/\R.v=v/\BV E σ w c R:=by
 have gen:∀g xs,s= .v g xs->(match tC E q σ 0 ks xs with|some (l,ns,ms)=>ah (fy.v g l,ns,ms)|none=>aj)=ah (x,tk,fz)->∃R:ld,R.arg=x/\R.tk=tk/\R.fz=fz/\R.v=v/\BV E σ w c R:=by
  rintro g xs rfl h;cases hf:tC E q σ 0 ks xs with
  |none=>rw[hf]at h;cases h
  |some t=>
   obtain⟨l,ns,ms⟩:=t;rw[hf]at h;cases h;obtain⟨cs,rfl,rfl,rfl,h4,h5⟩:=EV cg hf (qn.cells hs);refine⟨⟨aj,g,cs,v⟩,rfl,by simp[ld.tk],rfl,rfl, .inr ⟨rfl, ?_⟩⟩
   replace hs:qn E w c g xs v:=hs;have xI:∀y,qn E w c ak [y] v->v.cells= #[v]:=λy hy=>EO (eM.one hy);unfold qn at hs;split at hs
   ·rename_i y;obtain⟨r,rfl⟩:=gZ.1 (h4.trans rfl);obtain⟨h6,h7⟩:=h5 0 r rfl;rw[xI y hs]at h6;exact .inl ⟨rfl,r,rfl,by simpa using h6.symm,h7⟩
   ·obtain⟨vals,rfl,gi,_⟩:=hs;exact .inr ⟨rfl,vals,rfl,by rw[gi];exact h4.symm,h5⟩
   ·exact hs.elim
 unfold Nm at h;split at h
 ·rename_i nm;cases ho:σ (c9 nm)with
  |v=>rw[ho]at h;cases h
  |j8=>rw[ho]at h;cases h
  |o ob=>
   rw[ho]at h;cases ob with
   |box xs=>
    dsimp only at h;cases hf:tC E q σ 0 [] xs with
    |none=>rw[hf]at h;cases h
    |some t=>obtain⟨l,ns,ms⟩:=t;rw[hf]at h;cases h;obtain⟨vals,hb,gi,hv⟩:=cg.obj nm _ ho;obtain⟨cs,rfl,rfl,rfl,h4,h5⟩:=EV cg hf ⟨gi,hv⟩;exact⟨⟨ah nm,ak,cs,v⟩,rfl,rfl,rfl,rfl, .inl ⟨nm,xs,vals,rfl,ho,hs,hb,by rw[gi];exact h4.symm,h5⟩⟩
   |_=>cases h
 ·exact gen _ _ rfl h
 ·cases h
theorem JN(hE:eH P E){t:aF}{ti:TI}(ht:E.ty t=ah ti){b:aF}{vals:dv bk}(hb:nZ w b vals)(hl:vals.size=ti.ks.length):(loadVar t (ad b 0)).run P w= .ok (if ti.agg=ai then .agg vals else vals.toList.headD .nilIface) w:=by
 have h:=C5 (P:=P) w hE ht (b:=b) (o:=0) (cs:=vals.toList) (by simpa using hl) (λj v hj=>by rw[bV,hb.cell];simpa using hj);have e:(yQ t (.pointer (ah (ad b 0)))).run P w=(loadVar t (ad b 0)).run P w:=by simp only[yQ,uS,cm,cU,bG]
 rw[<-e,h]
theorem UY(hE:eH P E)(cg:Ok E σ w c)(dL:fF E σ a w c){q:aF}{rv:ResultVar}{t:aF}{x:fy}{tk fz:aA aF}(h:UX E q σ rv t=ah (x,tk,fz)):∃R:ld,R.arg=x/\R.tk=tk/\R.fz=fz/\BV E σ w c R/\(zN rv a.tmps).run P w= .ok R.v w:=by
 unfold UX at h;cases ht:E.ty t with
 |none=>rw[ht]at h;cases h
 |some ti=>
  rw[ht]at h;cases rv with
  |tmp s=>obtain⟨R,h1,h2,h3,h4,h5⟩:=IW cg h (dL.ok s);exact⟨R,h1,h2,h3,h5,by rw[h4];rfl⟩
  |cell b t'=>
   dsimp only at h;split at h
   ·rename_i VR nm ht' hs;split at h
    ·rename_i xs ho;cases hb:bD xs.length VR.ks.length with
     |false=>rw[hb]at h;cases h
     |true=>
      rw[hb]at h;have hlen:=aU hb;have hv:a.eval (.tmp b)= .pointer (ah (ad (c.P nm).blk 0)):=by have:=dL.ok b;rw[hs]at this;exact this
      obtain⟨vals,hbl,gi,hcv⟩:=cg.obj nm _ ho;have S1:=JN (P:=P) (w:=w) hE ht' hbl (by rw[gi];exact hlen);have asq:jk E w c (.v VR.agg xs) (if VR.agg=ai then .agg vals else vals.toList.headD .nilIface):=by
       show qn E w c VR.agg xs _;cases uC:VR.agg with
       |true=>rw[bz rfl];exact⟨vals,rfl,gi,hcv⟩
       |false=>
        obtain⟨d,_,_,hn⟩:=hE.desc t' VR ht';have h1:VR.ks.length=1:=by rcases hn uC with ⟨k,h,_⟩|⟨h,_⟩|⟨h,_⟩|⟨e',h,_⟩|⟨h,_⟩<;>simp[h]
        obtain⟨y,rfl⟩:=gZ.1 (hlen.trans h1);obtain⟨u,hu,ha⟩:=hcv 0 y rfl;have sA:vals.toList[0]? =ah u:=by simpa using hu
        have:vals.toList.headD .nilIface=u:=by
         cases hl:vals.toList with
         |nil=>rw[hl]at sA;cases sA
         |cons z l=>rw[hl]at sA;cases sA;rfl
        rw[bH (by simp),this];exact ha
      obtain⟨R,h1,h2,h3,h4,h5⟩:=IW cg h asq;refine⟨R,h1,h2,h3,h5, ?_⟩
      rw[h4,<-S1];have:a.tmps.getD b undef= .pointer (ah (ad (c.P nm).blk 0)):=hv;simp only[zN,this,asAddr,cm,cU,bG]
    ·cases h
   ·cases h
theorem P5(hE:eH P E)(cg:Ok E σ w c)(dL:fF E σ a w c):∀{rs:aA ResultVar} {q:aF} {ts:aA aF} {as:aA fy} {tk fz:aA aF},CZ E σ q rs ts=ah (as,tk,fz)->∃RL:aA ld,as=RL.map (·.arg)/\tk=RL.flatMap (·.tk)/\fz=RL.flatMap (·.fz)/\(∀R∈RL,BV E σ w c R)/\RL.length=rs.length/\(rs.mapM (λrv=>zN rv a.tmps)).run P w= .ok (RL.map (·.v)) w:=by
 intro rs;induction rs with
 |nil=>intro q ts as tk fz h;cases h;exact⟨[],rfl,rfl,rfl,λR h=>(by cases h),rfl,by simp⟩
 |cons rv rs ih=>
  intro q ts as tk fz h;unfold CZ at h;split at h
  ·rename_i x l m as' ls ms h1 h2;cases h;obtain⟨R,rfl,rfl,rfl,r4,r5⟩:=UY hE cg dL h1;obtain⟨RL,rfl,rfl,rfl,i4,i5,i6⟩:=ih h2;refine⟨R::RL,rfl,rfl,rfl,λR' hR=> ?_,by simp[i5], ?_⟩
   ·rcases cC.1 hR with rfl|hR
    ·exact r4
    ·exact i4 R' hR
   ·simp only[W7,cm,r5,i6,bG,cU,fE]
  ·cases h
def C0(vs:aA bk):bk:=match vs with|[v]=>v|l=> .tuple l.toArray
theorem JO{fn:Func}{vs:aA bk}(h:(fn.results.toList.mapM (λrv=>zN rv a.tmps)).run P w= .ok vs w):(results fn a.tmps).run P w= .ok (C0 vs) w:=by
 have e:(fn.results.mapM (λrv=>zN rv a.tmps)).run P w= .ok vs.toArray w:=by rw[Array.mapM_eq_mapM_toList];simp[h]
 have:results fn a.tmps=(do let vs<-fn.results.mapM (λrv=>zN rv a.tmps);pure (if h:vs.size=1 then vs[0]else .tuple vs)):=rfl;rw[this];simp only[cm,e,bG,cU];match vs with
 |[]=>rfl
 |[v]=>rfl
 |_::_::_=>rfl
end
end Go.FG

namespace Go.FG
structure mT where
 box:aX
 cs:aA jG
def mT.l(O:mT):aA AA:=O.cs.map (·.aa)
def mT.ns(O:mT)(p:aF):aA aF:=(if O.box=ai then [dU p 900]else [])++O.cs.flatMap (·.tk)
def mT.ms(O:mT):aA aF:=O.cs.flatMap (·.fz)
section
variable {P:c6} {E:fS} {σ:St} {a:Act} {w:bL} {c:e_}
def Kept(σ:St)(p j:aF)(xs:aA AA)(r:jG):Prop:=∃e ex z ys,xs[j]? =ah (.ow e ex z)/\r.aa= .kp ys/\r.tk=[dU p j]/\r.fz=[]/\σ (c9 (dU p j))= .o (.row e ex ys)
def H9(T:Tab)(σ:St)(w:bL)(c:e_)(p:aF)(x:fy)(O:mT):Prop:=
 (O.box=ak/\(∀xs,x≠ .pt xs)/\(O.cs=[]\/∃g xs,x= .v g xs/\∀(j:aF) (r:jG),O.cs[j]? =ah r->Kept σ p j xs r\/(r.aa= .nl/\r.tk=[]/\r.fz=[])))\/
 (O.box=ai/\∃xs vs vals,x= .pt xs/\σ (c9 (dU p 900))= .o (.box vs)/\nZ w (c.P (dU p 900)).blk vals/\vals.size=O.cs.length/\
  ∀(j:aF) (r:jG),O.cs[j]? =ah r->vals[j]? =ah r.u/\((Kept σ p j xs r/\r.u=lT (c.P (dU p j)))\/jX T σ w c r))
theorem JR{a b:aX}(h:JQ a b=ai):a=b:=by cases a<;>cases b<;>first|rfl|cases h
theorem Zh(p j i:aF):dU p j+i=dU p (j+i):=by unfold dU;omega
theorem Lj{tk:aA aF}{p:aF}:∀{xs:aA AA} {j:aF},∃cs:aA jG,(pX σ tk (dU p j) xs).1=cs.map (·.aa)/\(pX σ tk (dU p j) xs).2=cs.flatMap (·.tk)/\cs.flatMap (·.fz)=[]/\
  ∀(i:aF) (r:jG),cs[i]? =ah r->((∃e ex z ys,xs[i]? =ah (.ow e ex z)/\r.aa= .kp ys/\r.tk=[dU p (j+i)]/\r.fz=[]/\σ (c9 (dU p (j+i)))= .o (.row e ex ys))\/(r.aa= .nl/\r.tk=[]/\r.fz=[])):=by
 intro xs;induction xs with
 |nil=>intro j;exact⟨[],rfl,rfl,rfl,λi r h=>by simp at h⟩
 |cons x xs ih=>
  intro j;obtain⟨cs,h1,h2,h3,h4⟩:=ih (j:=j+1);have e1:dU p j+1=dU p (j+1):=Zh p j 1;let pl:Pl:=⟨ai,0,0,0,0,0⟩
  have one:∃r:jG,nD σ tk (dU p j) x=(r.aa,r.tk)/\r.fz=[]/\((∃e ex z ys,x= .ow e ex z/\r.aa= .kp ys/\r.tk=[dU p j]/\r.fz=[]/\σ (c9 (dU p j))= .o (.row e ex ys))\/(r.aa= .nl/\r.tk=[]/\r.fz=[])):=by
   have no:nD σ tk (dU p j) x=(.nl,[])->∃r:jG,nD σ tk (dU p j) x=(r.aa,r.tk)/\r.fz=[]/\((∃e ex z ys,x= .ow e ex z/\r.aa= .kp ys/\r.tk=[dU p j]/\r.fz=[]/\σ (c9 (dU p j))= .o (.row e ex ys))\/(r.aa= .nl/\r.tk=[]/\r.fz=[])):=
    λh=>⟨⟨.nl,[],[],pl,λ_ _=>pl,undef⟩,h,rfl, .inr ⟨rfl,rfl,rfl⟩⟩
   cases x with
   |ow e ex z=>
    cases hm:mK (dU p j) tk with
    |true=>exact no (by simp[nD,hm])
    |false=>
     obtain⟨so,ho⟩:∃so,σ (c9 (dU p j))=so:=⟨_,rfl⟩
     cases so with
     |v=>exact no (by simp[nD,hm,ho])
     |j8=>exact no (by simp[nD,hm,ho])
     |o ob=>
      cases ob with
      |row e' uA ys=>
       cases hb:(bD e e'&&JQ ex uA)with
       |false=>exact no (by simp only[nD,hm,ax,ho,hb])
       |true=>simp only[aL]at hb;have he:=aU hb.1;have hx:=JR hb.2;subst he;subst hx;exact⟨⟨.kp ys,[dU p j],[],pl,λ_ _=>pl,undef⟩,by simp[nD,hm,ho,hb.2],rfl, .inl ⟨e,ex,z,ys,rfl,rfl,rfl,rfl,ho⟩⟩
      |_=>exact no (by simp[nD,hm,ho])
   |_=>exact no rfl
  obtain⟨r,k1,k2,k3⟩:=one;refine⟨r::cs, ?_, ?_,by simp[k2,h3],λi r' hi=> ?_⟩
  ·show(nD σ tk (dU p j) x).1::(pX σ tk (dU p j+1) xs).1=_;rw[k1,e1,h1];rfl
  ·show(nD σ tk (dU p j) x).2++(pX σ tk (dU p j+1) xs).2=_;rw[k1,e1,h2];rfl
  ·cases i with
   |zero=>
    cases hi;rcases k3 with ⟨e,ex,z,ys,q1,q2⟩|q
    ·exact .inl ⟨e,ex,z,ys,by rw[q1];rfl,q2⟩
    ·exact .inr q
   |succ i=>have:=h4 i r' hi;rw[show j+1+i=j+(i+1)by omega]at this;exact this
theorem OU(cg:Ok E σ w c){q:aF}:∀{xs:aA AV} {j:aF} {bs l:aA AA} {tk fz:aA aF} {vals:dv bk},GN E q σ j bs xs=ah (l,tk,fz)->f_ E w c vals xs->
  ∃cs:aA jG,l=cs.map (·.aa)/\tk=cs.flatMap (·.tk)/\fz=cs.flatMap (·.fz)/\cs.length=xs.length/\∀(i:aF) (r:jG),cs[i]? =ah r->vals[i]? =ah r.u/\
   (((∃e ex z ys,bs[i]? =ah (.ow e ex z)/\r.aa= .kp ys/\r.tk=[dU q (j+i)]/\r.fz=[]/\σ (c9 (dU q (j+i)))= .o (.row e ex ys))/\r.u=lT (c.P (dU q (j+i))))\/jX E σ w c r):=by
 intro xs;induction xs with
 |nil=>intro j bs l tk fz vals h _;cases h;exact⟨[],rfl,rfl,rfl,rfl,λi r h=>by simp at h⟩
 |cons x xs ih=>
  intro j bs l tk fz vals h hv;unfold GN at h;split at h
  ·rename_i aa t f as ts fs h1 h2;cases h;obtain⟨u,hu,ha⟩:=hv.2 0 x rfl;have Ny:f_ E w c (vals.extract 1 vals.size) xs:=by
    refine⟨by simp;have:=hv.1;simp at this;omega,λi b hj=> ?_⟩
    obtain⟨u,hu,hb⟩:=hv.2 (i+1) b hj;refine⟨u, ?_,hb⟩
    have:=(dV.1 hu).1;rw[ed,bz (by omega),ja];exact hu
   obtain⟨cs,rfl,rfl,rfl,i4,i5⟩:=ih h2 Ny;have one:∃p g,((∃e ex z ys,bs[0]? =ah (.ow e ex z)/\aa= .kp ys/\t=[dU q j]/\f=[]/\σ (c9 (dU q j))= .o (.row e ex ys))/\u=lT (c.P (dU q j)))\/jX E σ w c ⟨aa,t,f,p,g,u⟩:=by
    have other:∀{om k},Ag E om σ k x=ah (aa,t,f)->∃p g,((∃e ex z ys,bs[0]? =ah (.ow e ex z)/\aa= .kp ys/\t=[dU q j]/\f=[]/\σ (c9 (dU q j))= .o (.row e ex ys))/\u=lT (c.P (dU q j)))\/jX E σ w c ⟨aa,t,f,p,g,u⟩:=λhh=>by obtain⟨p,g,hc⟩:=IV cg hh ha;exact⟨p,g, .inr hc⟩
    unfold aaY at h1;split at h1
    ·rename_i e ex z n _ hb;cases hn:bD n (dU q j)with
     |false=>rw[hn]at h1;exact other (k:= .o) h1
     |true=>
      rw[hn]at h1;have:=aU hn;subst this;obtain⟨so,ho⟩:∃so,σ (c9 (dU q j))=so:=⟨_,rfl⟩
      cases so with
      |v=>simp[ho]at h1
      |j8=>simp[ho]at h1
      |o ob=>
       cases ob with
       |row e' uA ys=>
        simp only[ho,au]at h1;cases E2:(bD e e'&&JQ ex uA)with
        |false=>rw[E2]at h1;cases h1
        |true=>
         rw[E2]at h1;cases h1;simp only[aL]at E2;have he:=aU E2.1;have hx:=JR E2.2;subst he;subst hx;refine⟨⟨ai,0,0,0,0,0⟩,λ_ _=>⟨ai,0,0,0,0,0⟩, .inl ⟨⟨e,ex,z,ys, ?_,rfl,rfl,rfl,ho⟩,ha⟩⟩
         cases bs with
         |nil=>cases hb
         |cons b bs=>rw[show b=_ from hb];rfl
       |_=>simp[ho]at h1
    ·exact other (k:= .o) h1
   obtain⟨p,g,hc⟩:=one;refine⟨⟨aa,t,f,p,g,u⟩::cs,rfl,rfl,rfl,by simp[i4],λi r hi=> ?_⟩
   cases i with
   |zero=>cases hi;exact⟨hu,hc⟩
   |succ i=>
    obtain⟨r1,r2⟩:=i5 i r hi;refine⟨?_, ?_⟩
    ·rw[ed]at r1;split at r1
     ·rw[ja];exact r1
     ·cases r1
    ·rw[show j+1+i=j+(i+1)by omega]at r2;have e1:bs.tail[i]? =bs[i+1]? :=by cases bs<;>simp
     rw[e1]at r2;exact r2
  ·cases h
end
end Go.FG

namespace Go.FG
section
variable {P:c6} {E:fS} {σ:St} {a:Act} {w:bL} {c:e_}
theorem PV(cg:Ok E σ w c){tk:aA aF}:∀{args:aA fy} {p:aF} {l:aA (aA AA)} {ns ms:aA aF},CR E σ tk p args=ah (l,ns,ms)->
  ∃OL:aA mT,l=OL.map (·.l)/\OL.length=args.length/\ns=(OL.zipIdx p).flatMap (λt=>t.1.ns t.2)/\ms=OL.flatMap (·.ms)/\∀(i:aF) (O:mT) (x:fy),OL[i]? =ah O->args[i]? =ah x->H9 E σ w c (p+i) x O:=by
 intro args;induction args with
 |nil=>intro p l ns ms h;cases h;exact⟨[],rfl,rfl,rfl,rfl,λi O x h=>by simp at h⟩
 |cons x args ih=>
  intro p l ns ms h;unfold CR at h;split at h
  ·cases h
  ·rename_i l' ns' ms' h1;obtain⟨OL,rfl,i2,rfl,rfl,i5⟩:=ih h1;have put:∀O:mT,H9 E σ w c p x O->l=O.l::OL.map (·.l)->ns=O.ns p++(OL.zipIdx (p+1)).flatMap (λt=>t.1.ns t.2)->ms=O.ms++OL.flatMap (·.ms)->∃OL:aA mT,l=OL.map (·.l)/\OL.length=(x::args).length/\ns=(OL.zipIdx p).flatMap (λt=>t.1.ns t.2)/\ms=OL.flatMap (·.ms)/\∀(i:aF) (O:mT) (y:fy),OL[i]? =ah O->(x::args)[i]? =ah y->H9 E σ w c (p+i) y O:=by
    intro O hO h1 h2 h3;refine⟨O::OL,h1,by simp[i2],by rw[h2,List.zipIdx_cons,yR],h3,λi O' y hi hy=> ?_⟩
    cases i with
    |zero=>cases hi;cases hy;exact hO
    |succ i=>have:=i5 i O' y hi hy;rwa[show p+1+i=p+(i+1)by omega]at this
   cases x with
   |v g xs=>
    dsimp only at h;cases hh:SQ xs with
    |false=>rw[hh]at h;cases h;exact put ⟨ak,[]⟩ (.inl ⟨rfl,(λ_ h=>by cases h), .inl rfl⟩) rfl rfl rfl
    |true=>rw[hh]at h;cases h;obtain⟨cs,k1,k2,k3,k4⟩:=Lj (σ:=σ) (tk:=tk) (p:=p) (xs:=xs) (j:=0);refine put ⟨ak,cs⟩ (.inl ⟨rfl,(λ_ h=>by cases h), .inr ⟨g,xs,rfl,λj r hj=> ?_⟩⟩) (by rw[k1];rfl) (by rw[k2];rfl) (by simp[mT.ms,k3]);have:=k4 j r hj;rw[bV]at this;exact this
   |pt xs=>
    dsimp only at h;split at h
    ·rename_i vs ho;split at h
     ·rename_i as ns2 ms2 hb;cases h;obtain⟨vals,hbl,gi,hv⟩:=cg.obj _ _ ho;obtain⟨cs,rfl,rfl,rfl,k4,k5⟩:=OU cg hb ⟨gi,hv⟩;refine put ⟨ai,cs⟩ (.inr ⟨rfl,xs,vs,vals,rfl,ho,hbl,by rw[gi];exact k4.symm,λj r hj=> ?_⟩) rfl (by simp[mT.ns]) rfl;obtain⟨r1,r2⟩:=k5 j r hj;rw[bV]at r2;exact⟨r1,r2⟩
     ·cases h
    ·cases h
   |fb xs=>cases h;exact put ⟨ak,[]⟩ (.inl ⟨rfl,(λ_ h=>by cases h), .inl rfl⟩) rfl rfl rfl
theorem Ad:∀{l:aA (aA AA)} {p:aF},(uz l).getD p []=l.getD p []:=by
 intro l;induction l with
 |nil=>intro p;rfl
 |cons x l ih=>
  intro p;unfold uz;split
  ·rename_i h;cases p with
   |zero=>rfl
   |succ p=>rw[vM,<-ih,h];rfl
  ·rename_i x' r' _;cases p with
   |zero=>rfl
   |succ p=>rw[vM,vM,ih]
end
end Go.FG

namespace Go.FG
structure Sp where
 res:aX
 i:aF
 j:az aF
def pC(RL:aA ld)(OL:aA mT)(s:Sp):aA aF:=
 match s.res,s.j with
 |true,aj=>match RL[s.i]? with|some R=>R.box.toList|none=>[]
 |true,ah j=>match RL[s.i]? with|some R=>(match R.cs[j]? with|some r=>r.tk|none=>[])|none=>[]
 |false,aj=>match OL[s.i]? with|some O=>(if O.box=ai then [dU s.i 900]else [])|none=>[]
 |false,ah j=>match OL[s.i]? with|some O=>(match O.cs[j]? with|some r=>r.tk|none=>[])|none=>[]
theorem nG{α:Type}{l:aA α}{i:aF}{x:α}{p:aF}(h:l[i]? =ah x):(l.zipIdx p)[i]? =ah (x,p+i):=by rw[List.getElem?_zipIdx,h];rfl
theorem ZR{RL:aA ld}{OL:aA mT}(hn:(RL.flatMap (·.tk)++(OL.zipIdx 0).flatMap (λt=>t.1.ns t.2)).Nodup){s s':Sp}{n:aF}(h:n∈pC RL OL s)(h':n∈pC RL OL s'):s=s':=by
 obtain⟨n1,n2,n3⟩:=eQ.1 hn;obtain⟨a1,a2⟩:=lW n1;obtain⟨b1,b2⟩:=lW n2;have R1:∀{i:aF} {j:az aF},n∈pC RL OL ⟨ai,i,j⟩->∃R,RL[i]? =ah R/\n∈R.tk/\((j=aj/\n∈R.box.toList)\/∃q r,j=ah q/\R.cs[q]? =ah r/\n∈r.tk):=by
  intro i j h;cases j with
  |none=>
   unfold pC at h;dsimp only at h;cases hR:RL[i]? with
   |none=>rw[hR]at h;cases h
   |some R=>rw[hR]at h;exact⟨R,rfl,bM _ h, .inl ⟨rfl,h⟩⟩
  |some q=>
   unfold pC at h;dsimp only at h;cases hR:RL[i]? with
   |none=>rw[hR]at h;cases h
   |some R=>
    rw[hR]at h;dsimp only at h;cases hr:R.cs[q]? with
    |none=>rw[hr]at h;cases h
    |some r=>rw[hr]at h;exact⟨R,rfl,bN _ (bQ.2 ⟨r,aR hr,h⟩), .inr ⟨q,r,rfl,hr,h⟩⟩
 have O1:∀{i:aF} {j:az aF},n∈pC RL OL ⟨ak,i,j⟩->∃O,OL[i]? =ah O/\n∈O.ns i/\((j=aj/\n∈(if O.box=ai then [dU i 900]else []))\/∃q r,j=ah q/\O.cs[q]? =ah r/\n∈r.tk):=by
  intro i j h;cases j with
  |none=>
   unfold pC at h;dsimp only at h;cases hR:OL[i]? with
   |none=>rw[hR]at h;cases h
   |some R=>rw[hR]at h;exact⟨R,rfl,bM _ h, .inl ⟨rfl,h⟩⟩
  |some q=>
   unfold pC at h;dsimp only at h;cases hR:OL[i]? with
   |none=>rw[hR]at h;cases h
   |some R=>
    rw[hR]at h;dsimp only at h;cases hr:R.cs[q]? with
    |none=>rw[hr]at h;cases h
    |some r=>rw[hr]at h;exact⟨R,rfl,bN _ (bQ.2 ⟨r,aR hr,h⟩), .inr ⟨q,r,rfl,hr,h⟩⟩
 have inn:∀{A:aA aF} {cs:aA jG} {j j':az aF},(A++cs.flatMap (·.tk)).Nodup->((j=aj/\n∈A)\/∃q r,j=ah q/\cs[q]? =ah r/\n∈r.tk)->((j'=aj/\n∈A)\/∃q r,j'=ah q/\cs[q]? =ah r/\n∈r.tk)->j=j':=by
  intro A cs j j' Je k k';obtain⟨m1,m2,m3⟩:=eQ.1 Je;have inC:∀{q:aF} {r:jG},cs[q]? =ah r->n∈r.tk->n∈cs.flatMap (·.tk):=λhq hr=>bQ.2 ⟨_,aR hq,hr⟩;rcases k with ⟨rfl,k⟩|⟨q,r,rfl,k1,k2⟩<;>rcases k' with ⟨rfl,k'⟩|⟨q',r',rfl,k1',k2'⟩
  ·rfl
  ·exact cK rfl (m3 n k n (inC k1' k2'))
  ·exact cK rfl (m3 n k' n (inC k1 k2))
  ·rw[(lW m2).1 q q' r r' n k1 k1' k2 k2']
 obtain⟨b,i,j⟩:=s;obtain⟨b',i',j'⟩:=s';cases b<;>cases b'
 ·obtain⟨O,h1,h2,h3⟩:=O1 h;obtain⟨O',KY,Ph,Ns⟩:=O1 h';have:=b1 i i' _ _ n (nG (p:=0) h1) (nG (p:=0) KY) (by rw[bV];exact h2) (by rw[bV];exact Ph);subst this;rw[h1]at KY;cases KY;have:=b2 _ (aR (nG (p:=0) h1));rw[bV]at this;rw[inn this h3 Ns]
 ·obtain⟨O,h1,h2,h3⟩:=O1 h;obtain⟨R,KY,Ph,_⟩:=R1 h';exact cK rfl (n3 n (bQ.2 ⟨R,aR KY,Ph⟩) n (bQ.2 ⟨_,aR (nG (p:=0) h1),by rw[bV];exact h2⟩))
 ·obtain⟨R,h1,h2,_⟩:=R1 h;obtain⟨O,KY,Ph,_⟩:=O1 h';exact cK rfl (n3 n (bQ.2 ⟨R,aR h1,h2⟩) n (bQ.2 ⟨_,aR (nG (p:=0) KY),by rw[bV];exact Ph⟩))
 ·obtain⟨R,h1,h2,h3⟩:=R1 h;obtain⟨R',KY,Ph,Ns⟩:=R1 h';have:=a1 i i' _ _ n h1 KY h2 Ph;subst this;rw[h1]at KY;cases KY;have:=a2 _ (aR h1);rw[inn this h3 Ns]
end Go.FG

namespace Go.FG
def M3(c:e_)(RL:aA ld)(OL:aA mT)(m:aF):az (Pl×(aF->aF->Pl)):=
 if m<900000000 then aj
 else if 500<=(m-900000000)/1000 then(match RL[(m-900000000)/1000-500]? with
  |none=>aj
  |some R=>if(m-900000000)%1000=900 then R.box.map (λn=>(c.P n,c.G n))else(R.cs[(m-900000000)%1000]?).map λr=>(r.p,r.g))
 else if 100<=(m-900000000)%1000/\(m-900000000)%1000≠900 then(match OL[(m-900000000)/1000]? with
  |none=>aj
  |some O=>(O.cs[(m-900000000)%1000-100]?).map λr=>(r.p,r.g))
 else aj
def nC(σ:St)(c:e_)(RL:aA ld)(OL:aA mT):e_:=
 ⟨λm=>match M3 c RL OL m with|some pg=>pg.1|none=>c.P m,λm=>match M3 c RL OL m with|some pg=>pg.2|none=>c.G m,K1r σ c (RL.flatMap (·.fz)++OL.flatMap (·.ms))⟩
theorem Bk{σ:St}{c:e_}{RL:aA ld}{OL:aA mT}{m:aF}{p:Pl}{g:aF->aF->Pl}(h:M3 c RL OL m=ah (p,g)):(nC σ c RL OL).P m=p/\(nC σ c RL OL).G m=g:=by unfold nC;simp only[h];exact⟨trivial,trivial⟩
theorem Bj{σ:St}{c:e_}{RL:aA ld}{OL:aA mT}{m:aF}(h:M3 c RL OL m=aj):(nC σ c RL OL).P m=c.P m/\(nC σ c RL OL).G m=c.G m:=by unfold nC;simp only[h];exact⟨trivial,trivial⟩
section
variable {c:e_} {RL:aA ld} {OL:aA mT}
theorem Sg{q n:aF}{R:ld}(h:RL[q]? =ah R)(hb:R.box=ah n):M3 c RL OL (dU (500+q) 900)=ah (c.P n,c.G n):=by obtain⟨h1,h2⟩:=uH (p:=500+q) (j:=900) (by omega);have h0:=CJ (500+q) 900;unfold M3;rw[bH (by omega),h1,h2,bz (by omega),show 500+q-500=q by omega,h];simp[hb]
theorem GL{q j:aF}{R:ld}{r:jG}(h:RL[q]? =ah R)(hj:R.cs[j]? =ah r)(hl:j<900):M3 c RL OL (dU (500+q) j)=ah (r.p,r.g):=by obtain⟨h1,h2⟩:=uH (p:=500+q) (j:=j) (by omega);have h0:=CJ (500+q) j;unfold M3;rw[bH (by omega),h1,h2,bz (by omega),show 500+q-500=q by omega,h];dsimp only;rw[bH (by omega),hj];rfl
theorem Bh{p j:aF}(hp:p<500)(hl:j<100\/j=900):M3 c RL OL (dU p j)=none:=by obtain⟨h1,h2⟩:=uH (p:=p) (j:=j) (by omega);have h0:=CJ p j;unfold M3;rw[bH (by omega),h1,h2,bH (by omega),bH (by omega)]
theorem M4{p j:aF}{O:mT}{r:jG}(hp:p<500)(h:OL[p]? =ah O)(hj:O.cs[j]? =ah r)(hl:j<=100):M3 c RL OL (dU p (100+j))=ah (r.p,r.g):=by obtain⟨h1,h2⟩:=uH (p:=p) (j:=100+j) (by omega);have h0:=CJ p (100+j);unfold M3;rw[bH (by omega),h1,h2,bH (by omega),bz (by omega),h];dsimp only;rw[show 100+j-100=j by omega,hj];rfl
end
end Go.FG

namespace Go.FG
def ajY(OL:aA mT)(s:Sp):aF:=
 match s.res,s.j with
 |true,aj=>dU (500+s.i) 900
 |true,ah j=>dU (500+s.i) j
 |false,aj=>dU s.i 900
 |false,ah j=>match OL[s.i]? with|some O=>(match O.cs[j]? with|some r=>(match r.aa with| .kp _=>dU s.i j|_=>dU s.i (100+j))|none=>0)|none=>0
section
variable {P:c6} {E:fS} {σ:St} {a:Act} {w:bL} {c:e_} {RL:aA ld} {OL:aA mT}
theorem Bm{r:jG}(h:jX E σ w c r)(hf:∀n∈r.fz,n∈RL.flatMap (·.fz)++OL.flatMap (·.ms)){x:aF}(hx:M3 c RL OL x=ah (r.p,r.g)):eM E w (nC σ c RL OL) (lB x r.aa) r.u:=by
 rcases h with ⟨e,ex,ys,te,h1,h2,h3,h4,_⟩|⟨h1,h2,h3,h4,h5⟩
 ·rw[h1];show r.u=lT ((nC σ c RL OL).P x);rw[(Bk hx).1];exact h4
 ·exact h5 _ (λb hb=>hb.imp id (λ⟨n,hn,hh⟩=>⟨n,hf n hn,hh⟩)) x
theorem Iy{r:jG}(h:jX E σ w c r){e:aF}{ex:aX}{ys:aQ}(ha:r.aa= .ow e ex ys){x:aF}(hx:M3 c RL OL x=ah (r.p,r.g)):
  pS E w (nC σ c RL OL) x (.row e ex ys)/\∀b,fM (nC σ c RL OL) x (.row e ex ys) b->∃n ob,n∈r.tk/\σ (c9 n)= .o ob/\fM c n ob b:=by
 obtain⟨e1,e2⟩:=Bk (σ:=σ) hx;rcases h with ⟨e',uA,Dy,te,h1,h2,h3,h4,h5,h6,h7,h8,h9,Qx⟩|⟨_,_,h3,_⟩
 ·rw[ha]at h1;cases h1;refine⟨⟨⟨te,h3,by rw[e1];exact h5,h6⟩, ?_,λpI=>by rw[e1,e2];exact h8 pI⟩,λb hb=> ?_⟩
  ·rw[e1,e2];refine h7.frame (λ_=>rfl) (λi j y xx u hy Wx hr=> ?_);split at hr
   ·rename_i pI;rw[bz pI];exact hr
   ·rename_i pI;rw[bH pI];exact hr.frame (λ_ _=>rfl) (λb hb=> .inl hb)
  ·rcases hb with ⟨hn,rfl⟩|⟨pI,i,j,hh,hn,rfl⟩
   ·rw[e1]at hn⊢;exact h9 hn
   ·rw[e2]at hn⊢;exact Qx pI i j hh hn
 ·exact cK ha (h3 _ _ _)
structure Ek (T:Tab) (σ:St) (w:bL) (c:e_) (RL:aA ld) (OL:aA mT) (args:aA fy) (r:dB):Prop where
 rl:∀R∈RL,BV T σ w c R
 ol:∀(i:aF) (O:mT) (x:fy),OL[i]? =ah O->args[i]? =ah x->H9 T σ w c i x O
 len:OL.length=args.length
 nd:(RL.flatMap (·.tk)++(OL.zipIdx 0).flatMap (λt=>t.1.ns t.2)).Nodup
 ap:∀n∈RL.flatMap (·.tk)++(OL.zipIdx 0).flatMap (λt=>t.1.ns t.2),n∉RL.flatMap (·.fz)++OL.flatMap (·.ms)
 sm:Small args r
 rs:r.rs=RL.map (·.arg)
 outs:∀p,r.outs.getD p []=(OL.map (·.l)).getD p []
theorem Sb{R:ld}{xs:aA AA}(h:Mk R.arg xs):xs=R.cs.map (·.aa):=by
 unfold ld.arg at h;split at h
 ·rcases h with ⟨g,h⟩|h<;>cases h;rfl
 ·rcases h with ⟨g,h⟩|h<;>cases h;rfl
theorem w8(cg:Ok E σ w c){args:aA fy}{r:dB}(hE:Ek E σ w c RL OL args r){x:aF}{ob:Obj}(h:BJ args r x (.o ob)):
  pS E w (nC σ c RL OL) x ob/\∃s,x=ajY OL s/\∀b,fM (nC σ c RL OL) x ob b->∃n o,n∈pC RL OL s/\σ (c9 n)= .o o/\fM c n o b:=by
 have alL:∀{q:aF} {y:fy},r.rs[q]? =ah y->∃R,RL[q]? =ah R/\y=R.arg:=by
  intro q y hq;rw[hE.rs,bK]at hq;cases hR:RL[q]? with
  |none=>rw[hR]at hq;cases hq
  |some R=>rw[hR]at hq;cases hq;exact⟨R,rfl,rfl⟩
 have fzR:∀{q:aF} {R:ld} {j:aF} {t:jG},RL[q]? =ah R->R.cs[j]? =ah t->∀n∈t.fz,n∈RL.flatMap (·.fz)++OL.flatMap (·.ms):=λhR hj n hn=>bM _ (bQ.2 ⟨_,aR hR,bQ.2 ⟨_,aR hj,hn⟩⟩);have fzO:∀{q:aF} {O:mT} {j:aF} {t:jG},OL[q]? =ah O->O.cs[j]? =ah t->∀n∈t.fz,n∈RL.flatMap (·.fz)++OL.flatMap (·.ms):=λhR hj n hn=>bN _ (bQ.2 ⟨_,aR hR,bQ.2 ⟨_,aR hj,hn⟩⟩);have agl:∀{p:aF} {y:fy},args[p]? =ah y->∃O,OL[p]? =ah O/\H9 E σ w c p y O/\r.outs.getD p []=O.cs.map (·.aa):=by
  intro p y hp;have sV:p<OL.length:=by rw[hE.len];exact(aT.1 hp).1
  have hO:OL[p]? =ah OL[p]:=by simp[sV]
  refine⟨OL[p],hO,hE.ol p _ y hO hp, ?_⟩
  rw[hE.outs,cT,bK,hO];rfl
 have csJ:∀{cs:aA jG} {j:aF} {y:AA},(cs.map (·.aa))[j]? =ah y->∃t,cs[j]? =ah t/\t.aa=y:=by
  intro cs j y hj;rw[bK]at hj;cases ht:cs[j]? with
  |none=>rw[ht]at hj;cases hj
  |some t=>rw[ht]at hj;cases hj;exact⟨t,rfl,rfl⟩
 have hnm:∀p j,dU p 0+j=dU p j:=λp j=>by unfold dU;omega
 cases h with
 |rb q xs h0=>
  obtain⟨R,hR,hy⟩:=alL h0;rcases hE.rl R (aR hR)with ⟨nm,zs,vals,h1,h2,h3,h4,h5,h6⟩|⟨h1,_⟩
  ·have hxs:=Sb (R:=R) (xs:=xs) (.inr hy.symm);obtain⟨e1,e2⟩:=Bk (σ:=σ) (Sg (c:=c) (OL:=OL) hR h1);refine⟨⟨vals,by rw[e1];exact h4,by rw[iV,hxs,bU];exact h5,λj y hj=> ?_⟩,⟨ai,q,aj⟩,rfl,λb hb=>⟨nm,_, ?_,h2, ?_⟩⟩
   ·rw[iF,hxs]at hj;cases hx:(R.cs.map (·.aa))[j]? with
    |none=>rw[hx]at hj;cases hj
    |some z=>
     rw[hx]at hj;cases hj;obtain⟨t,ht,rfl⟩:=csJ hx;obtain⟨k1,k2⟩:=h6 j t ht;have j7:j<900:=by have:=hE.sm.rl q _ xs h0 (.inr rfl);have h7:=(aT.1 ht).1;rw[hxs,bU]at this;omega
     rw[hnm];exact⟨t.u,k1,Bm k2 (fzR hR ht) (GL hR ht j7)⟩
   ·show nm∈(match RL[q]? with|some R=>R.box.toList|none=>[]);rw[hR];dsimp only;rw[h1];exact aZ.2 rfl
   ·rw[show b=_ from hb,e1];rfl
  ·unfold ld.arg at hy;rw[h1]at hy;cases hy
 |rr q y xs j e ex ys h0 hx hj=>
  obtain⟨R,hR,rfl⟩:=alL h0;have hxs:=Sb hx;rw[hxs]at hj;obtain⟨t,ht,Ji⟩:=csJ hj;have j7:j<900:=by have:=hE.sm.rl q _ xs h0 hx;have h7:=(aT.1 ht).1;rw[hxs,bU]at this;omega
  have hc:jX E σ w c t:=by
   rcases hE.rl R (aR hR)with ⟨nm,zs,vals,_,_,_,_,_,h6⟩|⟨_,⟨_,t',h1,_,h2⟩|⟨_,vals,_,_,h6⟩⟩
   ·exact(h6 j t ht).2
   ·rw[h1]at ht;cases j with
    |zero=>cases ht;exact h2
    |succ j=>simp at ht
   ·exact(h6 j t ht).2
  obtain⟨k1,k2⟩:=Iy (RL:=RL) (OL:=OL) hc Ji (GL hR ht j7);refine⟨k1,⟨ai,q,ah j⟩,rfl,λb hb=> ?_⟩
  obtain⟨n,o,h1,h2⟩:=k2 b hb;refine⟨n,o, ?_,h2⟩
  show n∈(match RL[q]? with|some R=>(match R.cs[j]? with|some r=>r.tk|none=>[])|none=>[]);rw[hR];dsimp only;rw[ht];exact h1
 |ob p xs h0=>
  obtain⟨O,hO,hoo,hl⟩:=agl h0;have hp:=hE.sm.a p _ xs h0 (.inr rfl);rcases hoo with ⟨_,h1,_⟩|⟨h1,Mc,vs,vals,X0,h2,h3,h4,h5⟩
  ·exact cK rfl (h1 xs)
  ·cases X0;obtain⟨e1,e2⟩:=Bj (σ:=σ) (Bh (c:=c) (RL:=RL) (OL:=OL) hp (.inr rfl));have aiO:O.cs.length<=100:=by have:=hE.sm.o p;rw[hl,bU]at this;exact this
   rw[hl];refine⟨⟨vals,by rw[e1];exact h3,by rw[vx,bU];exact h4,λj y hj=> ?_⟩,⟨ak,p,aj⟩,rfl,λb hb=>⟨dU p 900,_, ?_,h2, ?_⟩⟩
   ·rw[wj,bV]at hj;cases hx:(O.cs.map (·.aa))[j]? with
    |none=>rw[hx]at hj;cases hj
    |some z=>
     rw[hx]at hj;cases hj;obtain⟨t,ht,rfl⟩:=csJ hx;obtain⟨k1,k2⟩:=h5 j t ht;have j7:=(aT.1 ht).1;refine⟨t.u,k1, ?_⟩
     rcases k2 with ⟨⟨e,ex,z,ys,_,q2,_⟩,q6⟩|k2
     ·rw[q2];show t.u=lT ((nC σ c RL OL).P (dU p j));rw[(Bj (Bh hp (.inl (by omega)))).1];exact q6
     ·have hk:∀ys,t.aa≠ .kp ys:=by
       rcases k2 with ⟨_,_,_,_,q,_⟩|⟨_,_,_,q,_⟩
       ·intro ys hh;rw[q]at hh;cases hh
       ·exact q
      have:tO p j t.aa=lB (dU p (100+j)) t.aa:=by cases hq:t.aa<;>first|rfl|exact cK hq (hk _)
      rw[this];exact Bm k2 (fzO hO ht) (M4 hp hO ht (by omega))
   ·show dU p 900∈(match OL[p]? with|some O=>(if O.box=ai then [dU p 900]else [])|none=>[]);rw[hO];dsimp only;rw[bz h1];exact aZ.2 rfl
   ·rw[show b=_ from hb,e1];rfl
 |kp p y xs j e ex z ys h0 hx h2 h3=>
  obtain⟨O,hO,hoo,hl⟩:=agl h0;have hp:=hE.sm.a p _ xs h0 hx;rw[hl]at h3;obtain⟨t,ht,Ji⟩:=csJ h3;have aiO:O.cs.length<=100:=by have:=hE.sm.o p;rw[hl,bU]at this;exact this
  have j7:=(aT.1 ht).1;have aja:Kept σ p j xs t:=by
   rcases hoo with ⟨_,_,h1|⟨g,Mc,X0,h1⟩⟩|⟨_,Mc,vs,vals,X0,_,_,_,h5⟩
   ·rw[h1]at ht;simp at ht
   ·have:Mc=xs:=by rw[X0]at hx;rcases hx with ⟨g',hx⟩|hx<;>cases hx;rfl
    subst this;rcases h1 j t ht with h|⟨h,_⟩
    ·exact h
    ·rw[Ji]at h;cases h
   ·have:Mc=xs:=by rw[X0]at hx;rcases hx with ⟨g',hx⟩|hx<;>cases hx;rfl
    subst this;rcases(h5 j t ht).2 with ⟨h,_⟩|h
    ·exact h
    ·rcases h with ⟨_,_,_,_,q,_⟩|⟨_,_,_,q,_⟩
     ·rw[Ji]at q;cases q
     ·exact cK Ji (q _)
  obtain⟨e',uA,z',Dy,q1,q2,q3,q4,q5⟩:=aja;rw[h2]at q1;cases q1;rw[Ji]at q2;cases q2;obtain⟨e1,e2⟩:=Bj (σ:=σ) (Bh (c:=c) (RL:=RL) (OL:=OL) (p:=p) (j:=j) hp (.inl (by omega)));obtain⟨⟨te,r1,r2,r3⟩,r4,r5⟩:=cg.obj _ _ q5;refine⟨⟨⟨te,r1,by rw[e1];exact r2,r3⟩, ?_,λpI=>by rw[e1,e2];exact r5 pI⟩,⟨ak,p,ah j⟩, ?_,λb hb=>⟨dU p j,_, ?_,q5, ?_⟩⟩
  ·rw[e1,e2];refine r4.frame (λ_=>rfl) (λi j y xx u hy Wx hr=> ?_);split at hr
   ·rename_i pI;rw[bz pI];exact hr
   ·rename_i pI;rw[bH pI];exact hr.frame (λ_ _=>rfl) (λb hb=> .inl hb)
  ·show dU p j=(match OL[p]? with|some O=>(match O.cs[j]? with|some r=>(match r.aa with| .kp _=>dU p j|_=>dU p (100+j))|none=>0)|none=>0)
   rw[hO];dsimp only;rw[ht];dsimp only;rw[Ji]
  ·show dU p j∈(match OL[p]? with|some O=>(match O.cs[j]? with|some r=>r.tk|none=>[])|none=>[]);rw[hO];dsimp only;rw[ht];dsimp only;rw[q3];exact aZ.2 rfl
  ·rw[mq (c:=c) (c':=nC σ c RL OL) ⟨e1,e2⟩]at hb;exact hb
 |nw p y xs j e ex ys h0 hx h3=>
  obtain⟨O,hO,hoo,hl⟩:=agl h0;have hp:=hE.sm.a p _ xs h0 hx;rw[hl]at h3;obtain⟨t,ht,Ji⟩:=csJ h3;have aiO:O.cs.length<=100:=by have:=hE.sm.o p;rw[hl,bU]at this;exact this
  have j7:=(aT.1 ht).1;have hc:jX E σ w c t:=by
   rcases hoo with ⟨_,_,h1|⟨g,Mc,X0,h1⟩⟩|⟨_,Mc,vs,vals,X0,_,_,_,h5⟩
   ·rw[h1]at ht;simp at ht
   ·rcases h1 j t ht with ⟨_,_,_,_,_,h,_⟩|⟨h,_⟩<;>(rw[Ji]at h;cases h)
   ·rcases(h5 j t ht).2 with ⟨⟨_,_,_,_,_,h,_⟩,_⟩|h
    ·rw[Ji]at h;cases h
    ·exact h
  obtain⟨k1,k2⟩:=Iy (RL:=RL) (OL:=OL) hc Ji (M4 hp hO ht (by omega));refine⟨k1,⟨ak,p,ah j⟩, ?_,λb hb=> ?_⟩
  ·show dU p (100+j)=(match OL[p]? with|some O=>(match O.cs[j]? with|some r=>(match r.aa with| .kp _=>dU p j|_=>dU p (100+j))|none=>0)|none=>0)
   rw[hO];dsimp only;rw[ht];dsimp only;rw[Ji]
  ·obtain⟨n,o,h1,h2⟩:=k2 b hb;refine⟨n,o, ?_,h2⟩
   show n∈(match OL[p]? with|some O=>(match O.cs[j]? with|some r=>r.tk|none=>[])|none=>[]);rw[hO];dsimp only;rw[ht];exact h1
end
end Go.FG

namespace Go.FG
theorem v9{args:aA fy}{r:dB}{m:aF}{o:Obj}(h:BJ args r m (.o o)):oy args r (c9 m)≠ .j8:=by
 refine sd (w_.2 h) ?_;rintro ⟨k,d⟩ hd;rcases ba.1 hd with hd|hd
 ·obtain⟨i,a,_,hd⟩:=Ju.1 hd;rcases iD.1 hd with ⟨_,_,_,h⟩|⟨_,_,_,_,_,_,_,_,h⟩<;>rw[h]<;>simp
 ·obtain⟨i,a,_,hd⟩:=Jt.1 hd;rcases qO.1 hd with ⟨_,_,_,h⟩|⟨_,_,⟨_,_,_,_,_,_,_,_,h⟩|⟨_,_,_,_,_,_,h⟩⟩<;>rw[h]<;>simp
section
variable {P:c6} {E:fS} {σ:St} {a:Act} {w:bL} {c c0:e_} {RL:aA ld} {OL:aA mT}
theorem UE{s:Sp}{n:aF}(h:n∈pC RL OL s):n∈RL.flatMap (·.tk)++(OL.zipIdx 0).flatMap (λt=>t.1.ns t.2):=by
 obtain⟨b,i,j⟩:=s;have inO:∀{O:mT},OL[i]? =ah O->n∈O.ns i->n∈(OL.zipIdx 0).flatMap (λt=>t.1.ns t.2):=λhO hn=>bQ.2 ⟨_,aR (nG (p:=0) hO),by rw[bV];exact hn⟩;have inR:∀{R:ld},RL[i]? =ah R->n∈R.tk->n∈RL.flatMap (·.tk):=λhR hn=>bQ.2 ⟨_,aR hR,hn⟩;cases b<;>cases j<;>unfold pC at h<;>dsimp only at h
 ·cases hO:OL[i]? with
  |none=>rw[hO]at h;cases h
  |some O=>rw[hO]at h;exact bN _ (inO hO (bM _ h))
 ·rename_i j;cases hO:OL[i]? with
  |none=>rw[hO]at h;cases h
  |some O=>
   rw[hO]at h;dsimp only at h;cases hr:O.cs[j]? with
   |none=>rw[hr]at h;cases h
   |some r=>rw[hr]at h;exact bN _ (inO hO (bN _ (bQ.2 ⟨r,aR hr,h⟩)))
 ·cases hO:RL[i]? with
  |none=>rw[hO]at h;cases h
  |some O=>rw[hO]at h;exact bM _ (inR hO (bM _ h))
 ·rename_i j;cases hO:RL[i]? with
  |none=>rw[hO]at h;cases h
  |some O=>
   rw[hO]at h;dsimp only at h;cases hr:O.cs[j]? with
   |none=>rw[hr]at h;cases h
   |some r=>rw[hr]at h;exact bM _ (inR hO (bN _ (bQ.2 ⟨r,aR hr,h⟩)))
theorem UZ{args:aA fy}{r:dB}(hE:Ek E σ w c RL OL args r){q:aF}{R:ld}(hR:RL[q]? =ah R):qn E w (nC σ c RL OL) (GK (500+q) R.arg).1 (GK (500+q) R.arg).2 R.v:=by
 have hlen:∀{j:aF} {t:jG},R.cs[j]? =ah t->j<900:=by
  intro j t ht;have h0:r.rs[q]? =ah R.arg:=by rw[hE.rs,bK,hR];rfl
  have hx:Mk R.arg (R.cs.map (·.aa)):=by
   unfold ld.arg;split
   ·exact .inr rfl
   ·exact .inl ⟨_,rfl⟩
  have:=hE.sm.rl q _ _ h0 hx;have h7:=(aT.1 ht).1;rw[bU]at this;omega
 have hf:∀{j:aF} {t:jG},R.cs[j]? =ah t->∀n∈t.fz,n∈RL.flatMap (·.fz)++OL.flatMap (·.ms):=λhj n hn=>bM _ (bQ.2 ⟨_,aR hR,bQ.2 ⟨_,aR hj,hn⟩⟩);have hnm:∀p j,dU p 0+j=dU p j:=λp j=>by unfold dU;omega
 rcases hE.rl R (aR hR)with ⟨nm,zs,vals,h1,h2,h3,h4,h5,h6⟩|⟨h1,⟨h2,t,h3,h4,h5⟩|⟨h2,vals,h3,h4,h5⟩⟩
 ·have:R.arg= .pt (R.cs.map (·.aa)):=by unfold ld.arg;rw[h1]
  rw[this];show R.v= .pointer (ah (ad ((nC σ c RL OL).P (dU (500+q) 900)).blk 0));rw[(Bk (Sg hR h1)).1];exact h3
 ·have:R.arg= .v ak [t.aa]:=by unfold ld.arg;rw[h1,h2,h3];rfl
  rw[this,<-h4];have ht:R.cs[0]? =ah t:=by rw[h3];rfl
  have:=Bm (OL:=OL) h5 (hf ht) (GL hR ht (by omega));exact this
 ·have:R.arg= .v ai (R.cs.map (·.aa)):=by unfold ld.arg;rw[h1,h2]
  rw[this];refine⟨vals,h3,by show vals.size=(gA _ _).length;rw[iV,bU];exact h4,λj y hj=> ?_⟩
  replace hj:(gA (dU (500+q) 0) (R.cs.map (·.aa)))[j]? =ah y:=hj;rw[iF,bK]at hj;cases ht:R.cs[j]? with
  |none=>rw[ht]at hj;cases hj
  |some t=>
   rw[ht]at hj;cases hj;obtain⟨k1,k2⟩:=h5 j t ht;refine⟨t.u,k1, ?_⟩
   rw[hnm];exact Bm k2 (hf ht) (GL hR ht (hlen ht))
theorem Cg{args:aA fy}{r:dB}{q:aF}{y:fy}{xs:aA AA}(h0:r.rs[q]? =ah y)(hx:Mk y xs){v:AV}(hv:v∈gA (dU (500+q) 0) xs):jh (oy args r) v:=by
 intro m hm;obtain⟨j,hj⟩:=bY hv;rw[iF]at hj;cases hy:xs[j]? with
 |none=>rw[hy]at hj;cases hj
 |some z=>
  rw[hy]at hj;cases hj;obtain⟨rfl,e,ex,ys,rfl⟩:=tK hm;have hn:dU (500+q) 0+j=dU (500+q) j:=by unfold dU;omega
  rw[hn];exact v9 (.rr q y xs j e ex ys h0 hx hy)
theorem Xw(cg:Ok E σ w c){args:aA fy}{r:dB}(hE:Ek E σ w c RL OL args r):Ok E (oy args r) w (nC σ c RL OL) where
 obj nm o h:=(w8 cg hE (qM h)).1
 sep nm o xO o' b h h' hf vp:=by
  obtain⟨s,e1,k1⟩:=(w8 cg hE (qM h)).2;obtain⟨s',e1',k1'⟩:=(w8 cg hE (qM h')).2;obtain⟨n,ob,h1,h2,h3⟩:=k1 b hf;obtain⟨n',ob',KY,Ph,Ns⟩:=k1' b vp;have:=cg.sep n ob n' ob' b h2 Ph h3 Ns;subst this;rw[e1,e1',ZR hE.nd h1 KY]
 kk nm o b h hf hk:=by
  obtain⟨s,e1,k1⟩:=(w8 cg hE (qM h)).2;obtain⟨n,ob,h1,h2,h3⟩:=k1 b hf;rcases hk with hk|⟨n',kK,ob',Ph,Ns⟩
  ·exact cg.kk n ob b h2 h3 hk
  ·have:=cg.sep n ob n' ob' b h2 Ph h3 Ns;subst this;exact hE.ap n (UE h1) kK
 lt b hb:=by
  rcases hb with hb|⟨n,hn,ob,h1,h2⟩
  ·exact cg.lt b hb
  ·exact wI.lt cg ⟨n,ob,h1,h2⟩
 kn nm xs h v hv:=by
  have hx:=qM h;cases hx with
  |rb q xs h0=>exact Cg h0 (.inr rfl) hv
  |ob p xs h0=>
   intro m hm;obtain⟨j,hj⟩:=bY hv;rw[wj,bV]at hj;cases hy:(r.outs.getD p [])[j]? with
   |none=>rw[hy]at hj;cases hj
   |some z=>
    rw[hy]at hj;cases hj;cases z with
    |kp ys=>
     have hm:m=dU p j:=by simpa [tO,bS]using hm
     subst hm;have sV:p<OL.length:=by rw[hE.len];exact(aT.1 h0).1
     have hO:OL[p]? =ah OL[p]:=by simp[sV]
     have hl:r.outs.getD p []=OL[p].cs.map (·.aa):=by rw[hE.outs,cT,bK,hO];rfl
     rw[hl,bK]at hy;cases ht:OL[p].cs[j]? with
     |none=>rw[ht]at hy;cases hy
     |some t=>
      rw[ht]at hy;have Ji:t.aa= .kp ys:=by injection hy
      rcases hE.ol p _ _ hO h0 with ⟨_,h1,_⟩|⟨_,Mc,vs,vals,X0,_,_,_,h5⟩
      ·exact cK rfl (h1 xs)
      ·cases X0;rcases(h5 j t ht).2 with ⟨⟨e,ex,z,Dy,q1,q2,_⟩,_⟩|h
       ·rw[Ji]at q2;cases q2;exact v9 (.kp p _ xs j e ex z ys h0 (.inr rfl) q1 (by rw[hl,bK,ht];exact lN ah Ji))
       ·rcases h with ⟨_,_,_,_,q,_⟩|⟨_,_,_,q,_⟩
        ·rw[Ji]at q;cases q
        ·exact cK Ji (q _)
    |ow e ex ys=>
     have hm:m=dU p (100+j):=by simpa [tO,lB,bS]using hm
     subst hm;exact v9 (.nw p _ xs j e ex ys h0 (.inr rfl) hy)
    |_=>simp[tO,lB,bS]at hm
theorem O6(cg:Ok E σ w c){args:aA fy}{r:dB}(hE:Ek E σ w c RL OL args r):oC σ c w (oy args r) (nC σ c RL OL) w where
 os:=rfl
 tape:=rfl
 output:=rfl
 size:=cG _
 K b hb:= .inl hb
 same _ _ _:=rfl
 own b hb:=by
  obtain⟨nm,o,h,hf⟩:=hb;obtain⟨s,e1,k1⟩:=(w8 cg hE (qM h)).2;obtain⟨n,ob,h1,h2,h3⟩:=k1 b hf;exact .inl ⟨n,ob,h2,h3⟩
 kn b hb:=by
  rcases hb with hb|⟨n,hn,ob,h1,h2⟩
  ·exact .inl hb
  ·exact .inr (.inl ⟨n,ob,h1,h2⟩)
theorem O7{args:aA fy}{r:dB}(hs:Small args r)(ha:∀a∈args,nB a<=100)(hA:Wa c0 c):∀m,inj args (c9 m)≠ .j8->(nC σ c RL OL).P m=c0.P m/\(nC σ c RL OL).G m=c0.G m:=by
 intro m hm;have:∃ob,inj args (c9 m)= .o ob:=by
  cases h:inj args (c9 m)with
  |o ob=>exact⟨ob,rfl⟩
  |j8=>exact cK h hm
  |v x=>
   obtain⟨p,a,h0,h⟩:=lV.1 (nX h (by simp));rcases h with ⟨h,_⟩|h
   ·exact cK h (mv _ _)
   ·rcases iD.1 h with ⟨_,_,_,h⟩|⟨_,_,_,_,_,_,_,_,h⟩<;>cases h
 obtain⟨ob,h⟩:=this;obtain⟨p,a,h0,hh⟩:=Bt h;have go:∀j,j<100\/j=900->p<500->(nC σ c RL OL).P (dU p j)=c0.P (dU p j)/\(nC σ c RL OL).G (dU p j)=c0.G (dU p j):=by intro j hj hp;obtain⟨e1,e2⟩:=Bj (σ:=σ) (Bh (c:=c) (RL:=RL) (OL:=OL) hp hj);obtain⟨g1,g2⟩:=hA (dU p j) (CJ p j);exact⟨e1.trans g1,e2.trans g2⟩
 rcases hh with ⟨xs,rfl,rfl,_⟩|⟨xs,j,e,ex,ys,hx,hj,rfl,_⟩
 ·exact go 900 (.inr rfl) (hs.a p _ xs h0 (.inr rfl))
 ·refine go j (.inl ?_) (hs.a p _ xs h0 hx);have h1:=ha a (aR h0);have h2:nB a=xs.length:=by rcases hx with ⟨g,rfl⟩|rfl<;>rfl
  have h3:=(aT.1 hj).1;omega
theorem Sy{args:aA fy}{r:dB}(hE:Ek E σ w c RL OL args r):jk E w (nC σ c RL OL) (ZC r.rs) (C0 (RL.map (·.v))):=by
 have kj:∀l:aA (aX×aA AV),l=lC 500 r.rs->jk E w (nC σ c RL OL) (.kj l) (.tuple (RL.map (·.v)).toArray):=by
  rintro l rfl;refine⟨_,rfl,by rw[xM,hE.rs];simp,λj g xs hj=> ?_⟩
  rw[Fq,hE.rs,bK]at hj;cases hR:RL[j]? with
  |none=>rw[hR]at hj;cases hj
  |some R=>
   rw[hR]at hj;have hj:GK (500+j) R.arg=(g,xs):=by injection hj
   have:=UZ hE hR;rw[hj]at this;exact⟨R.v,by simp[hR],this⟩
 have one:∀x R,lC 500 r.rs=[x]->RL=[R]->jk E w (nC σ c RL OL) (sC [x]) R.v:=by
  intro x R hx hRL;have h0:RL[0]? =ah R:=by rw[hRL];rfl
  have h1:=UZ hE h0;have h2:(lC 500 r.rs)[0]? =ah (GK (500+0) R.arg):=by rw[Fq,hE.rs,bK,h0];rfl
  rw[hx]at h2;have h2:x=GK (500+0) R.arg:=by injection h2
  subst h2;exact h1
 have hlen:(lC 500 r.rs).length=RL.length:=by rw[xM,hE.rs];simp
 have hL:∀L,L=lC 500 r.rs->L.length=RL.length->jk E w (nC σ c RL OL) (sC L) (C0 (RL.map (·.v))):=by
  intro L hL hlen;have kj:=kj L hL;generalize hV:RL.map (·.v)=V at kj⊢;have hlv:L.length=V.length:=by rw[hlen,<-hV];simp
  cases L with
  |nil=>
   cases V with
   |nil=>exact kj
   |cons v V=>simp at hlv
  |cons x L=>
   cases V with
   |nil=>simp at hlv
   |cons v V=>
    cases L with
    |cons y L=>
     cases V with
     |nil=>simp at hlv
     |cons v' V=>exact kj
    |nil=>
     cases V with
     |cons v' V=>simp at hlv
     |nil=>
      cases hR:RL with
      |nil=>rw[hR]at hV;cases hV
      |cons R RL'=>
       cases RL' with
       |nil=>
        have:=one x R hL.symm hR;rw[hR]at hV this;have hV:R.v=v:=by injection hV
        rw[<-hV];exact this
       |cons R' RL'=>rw[hR]at hV;simp at hV
 exact hL _ rfl hlen
end
end Go.FG

namespace Go.FG
theorem EM{α:Type}{b:aX}{x r:α}(h:(bif b then ah x else aj)=ah r):b=ai/\x=r:=by
 cases b with
 |true=>exact⟨rfl,by injection h⟩
 |false=>cases h
section
variable {P:c6} {E:fS} {σ:St} {a:Act} {w:bL} {c:e_}
theorem aeZ(hE:eH P E)(cg:Ok E σ w c)(dL:fF E σ a w c){F:Func}{args:aA fy}{e:Ex}{r:dB}(h:fin E F args e σ=ah r):
  (e= .normal\/e= .ret)/\(∀x∈args,nB x<=100)/\∃RL OL,Ek E σ w c RL OL args r/\(results F a.tmps).run P w= .ok (C0 (RL.map (·.v))) w:=by
 have he:e= .normal\/e= .ret:=by
  cases e with
  |normal=>exact .inl rfl
  |ret=>exact .inr rfl
  |exit id=>cases h
 have h:(match CZ E σ 500 F.results.toList F.resultTypes.toList with
  |some (rs,tk,fz)=>match CR E σ (tk++fz) 0 args with
   |some (outs,ns,ms)=>bif tM (tk++ns)&&rK (tk++ns) (fz++ms)&&fL args.length 500&&(args.all λa=>fL (nB a) 100)&&(rs.all λa=>fL (nB a) 100)&&(outs.all λa=>fL a.length 100)then ah (dB.mk rs (uz outs))else aj
   |none=>aj
  |none=>aj)=ah r:=by
  rcases he with rfl|rfl<;>exact h
 split at h
 ·rename_i rs tk fz h1;split at h
  ·rename_i outs ns ms h2;obtain⟨RL,rfl,rfl,rfl,r4,r5,r6⟩:=P5 hE cg dL h1;obtain⟨OL,rfl,o2,rfl,rfl,o5⟩:=PV cg h2;obtain⟨hb,rfl⟩:=EM h;simp only[aL,bu]at hb;obtain⟨⟨⟨⟨⟨b1,b2⟩,b3⟩,b4⟩,b5⟩,b6⟩:=hb;refine⟨he,λx hx=>cO (b4 x hx),RL,OL,⟨r4,λi O x hi hx=>by have:=o5 i O x hi hx;rwa[bV]at this,o2,qP b1,oU b2,⟨?_, ?_, ?_⟩,rfl,λp=>Ad⟩,JO r6⟩
   ·intro p x xs hp _;have:=(aT.1 hp).1;have:=cO b3;omega
   ·intro q x xs hq hx;have h1:=cO (b5 x (aR hq));have h2:nB x=xs.length:=by rcases hx with ⟨g,rfl⟩|rfl<;>rfl
    omega
   ·intro p;show((uz (OL.map (·.l))).getD p []).length<=100;rw[Ad,cT];cases hp:(OL.map (·.l))[p]? with
    |none=>simp
    |some l=>exact cO (b6 l (aR hp))
  ·cases h
 ·cases h
end
inductive Fit:CV->Prop
 |i (k n):Fit (.i k n)
 |b (x):Fit (.b x)
 |s (x) (h:D8 x):Fit (.s x)
 |l (e xs) (h:xs.length<=9223372036854775807) (hc:∀y∈xs,∀x∈y,Fit x):Fit (.l e xs)
def vJ(xs:aQ):Prop:=xs.length<=9223372036854775807/\∀y∈xs,∀x∈y,Fit x
def aiL:AA->Prop
 | .s x=>D8 x| .sh _ xs=>vJ xs| .ow _ _ xs=>vJ xs|_=>True
def GV:aA AA->Prop
 |[]=>True|a::r=>aiL a/\GV r
def aiM:CV->Prop
 | .s x=>D8 x| .l _ xs=>vJ xs|_=>True
def SF:aA CV->Prop
 |[]=>True|a::r=>aiM a/\SF r
def SE:fy->Prop
 | .v _ xs=>GV xs| .pt xs=>GV xs| .fb xs=>SF xs
def xE:aA fy->Prop
 |[]=>True|a::r=>SE a/\xE r
theorem Fit.aj6{u:bk}{x:CV}(hl:uD x=ak)(h:Sc u x):Fit x:=by
 cases x with
 |i k n=>exact .i k n
 |b x=>exact .b x
 |s x=>exact .s x h.2
 |l=>simp[uD]at hl
theorem da.fit{E:Tab}{w:bL}{K:aF->Prop}{v:bk}{x:CV}(h:da E w K v x):Fit x:=by
 induction h with
 |i k n=>exact .i k n
 |b x=>exact .b x
 |s x h=>exact .s x h
 |nl e A c=>exact .l e [] (bI _) (λy hy=>by cases hy)
 |l e xs b o c ti U ht hc hm hK hs hcell gh ih=>refine .l e xs (di hc hm) (λy hy x hx=> ?_);obtain⟨i,hi⟩:=bY hy;obtain⟨j,hj⟩:=bY hx;exact ih i j y x hi hj
theorem Fit.row{e:aF}{xs:aQ}(h:Fit (.l e xs)):vJ xs:=by cases h with|l _ _ h hc=>exact⟨h,hc⟩
theorem Fit.toC{x:CV}(h:Fit x):aiM x:=by
 cases x with
 |s x=>cases h with|s _ h=>exact h
 |l e xs=>exact h.row
 |_=>trivial
theorem Aq{w:bL}{p:Pl}{xs:aQ}{R:aF->aF->bk->CV->Prop}(h:jj w p xs R){i j:aF}{y:aA CV}{x:CV}(hi:xs[i]? =ah y)(hj:y[j]? =ah x):∃u:bk,R i j u x:=by
 cases hn:p.nil with
 |true=>rw[(h.nil hn).1]at hi;simp at hi
 |false=>obtain⟨vals,_,_,_,_,hc⟩:=h.mem hn;obtain⟨u,_,hr⟩:=hc i y j x hi hj;exact⟨u,hr⟩
theorem MI.fit{E:Tab}{w:bL}{c:e_}{nm e:aF}{ex:aX}{xs:aQ}(h:MI E w c nm e ex xs):vJ xs:=by
 refine⟨uK h.at_,λy hy x hx=> ?_⟩
 obtain⟨i,hi⟩:=bY hy;obtain⟨j,hj⟩:=bY hx;obtain⟨u,hr⟩:=Aq h.at_ hi hj;split at hr
 ·cases x with
  |i k n=>exact .i k n
  |b x=>exact .b x
  |s x=>exact .s x (show Sc u (.s x)from hr).2
  |l e2 ys=>obtain⟨_,ti,_,hp,_,mN,gg⟩:=hr;refine .l e2 ys (uK gg) (λy2 hy2 x2 QD=> ?_);obtain⟨i2,sr⟩:=bY hy2;obtain⟨j2,Cw⟩:=bY QD;obtain⟨u2,hr2⟩:=Aq gg sr Cw;exact Fit.aj6 (iv hp (mN y2 hy2) Cw) hr2
 ·exact da.fit hr
theorem EW{T:Tab}{w:bL}{c:e_}{xs:aA AA}{nm:aF}(ajm:∀(j e:aF) (ex:aX) (ys:aQ),xs[j]? =ah (AA.ow e ex ys)->vJ ys)(h:∀(j:aF) (x:AA),xs[j]? =ah x->∃v,eM T w c (lB (nm+j) x) v):GV xs:=by
 induction xs generalizing nm with
 |nil=>trivial
 |cons x xs ih=>
  refine⟨?_,ih (nm:=nm+1) (λj e ex ys hj=>ajm (j+1) e ex ys hj) (λj y hj=> ?_)⟩
  ·obtain⟨v,hv⟩:=h 0 x rfl;cases x with
   |s x=>exact hv.2
   |sh e ys=>exact(da.fit hv).row
   |ow e ex ys=>exact ajm 0 e ex ys rfl
   |_=>trivial
  ·have:=h (j+1) y hj;rw[show nm+1+j=nm+(j+1)by omega];exact this
def zQ(args:aA fy):aX:=fL args.length 500&&args.all λa=>fL (nB a) 100
theorem X5{args:aA fy}(hs:zQ args=ai){p j e:aF}{x:fy}{xs:aA AA}{ex:aX}{ys:aQ}(h0:args[p]? =ah x)(hx:(∃g,x= .v g xs)\/x= .pt xs)(hj:xs[j]? =ah (AA.ow e ex ys)):inj args (c9 (dU p j))= .o (.row e ex ys):=by
 simp only[zQ,aL,bu]at hs;have len:∀(x:fy) (xs:aA AA) (j:aF) (y:AA),x∈args->((∃g,x= .v g xs)\/x= .pt xs)->xs[j]? =ah y->j<100:=by
  intro x xs j y hm hx hj;have h1:=cO (hs.2 x hm);have h2:nB x=xs.length:=by rcases hx with ⟨g,rfl⟩|rfl<;>rfl
  have h3:=(aT.1 hj).1;omega
 have j7:=len x xs j _ (aR h0) hx hj;refine zS (lV.2 ⟨p,x,h0, .inr (iD.2 (.inr ⟨xs,j,e,ex,ys,hx,hj,by rw[bV],rfl⟩))⟩) (λc' I7=> ?_);obtain⟨p',a',Wp,hh⟩:=lV.1 I7;rw[bV]at hh;rcases hh with ⟨h,_⟩|hh
 ·exact cK h (mv _ _)
 ·rcases iD.1 hh with ⟨zs,_,h,_⟩|⟨zs,j',e',uA,Dy,pI,J7,h,rfl⟩
  ·have:=uI (by omega) (by omega) (jZ h);omega
  ·have azd:=len a' zs j' _ (aR Wp) pI J7;obtain⟨rfl,rfl⟩:=uI (by omega) (by omega) (jZ h);rw[h0]at Wp;cases Wp;have:xs=zs:=by rcases hx with ⟨g,rfl⟩|rfl<;>rcases pI with ⟨g',pI⟩|pI<;>cases pI<;>rfl
   subst this;rw[hj]at J7;cases J7;rfl
theorem KR{T:Tab}{w:bL}{c:e_}:∀{cs:aA CV},(∀(q:aF) (x:CV),cs[q]? =ah x->Fit x)->SF cs:=by
 intro cs;induction cs with
 |nil=>intro _;trivial
 |cons x cs ih=>intro h;exact⟨(h 0 x rfl).toC,ih (λq y hq=>h (q+1) y hq)⟩
theorem SG{T:Tab}{w:bL}{c:e_}{args:aA fy}(hs:zQ args=ai)(cg:Ok T (inj args) w c)(h:∀(p:aF) (x:fy),args[p]? =ah x->∃v,jk T w c (tH p x) v):xE args:=by
 have one:∀(p:aF) (x:fy),args[p]? =ah x->SE x:=by
  intro p x h0;have rows:∀xs,((∃g,x= .v g xs)\/x= .pt xs)->∀(j e:aF) (ex:aX) (ys:aQ),xs[j]? =ah (AA.ow e ex ys)->vJ ys:=λxs hx j e ex ys hj=>MI.fit (cg.obj _ _ (X5 hs h0 hx hj));obtain⟨v,hv⟩:=h p x h0;cases x with
  |v g xs=>
   refine EW (T:=T) (w:=w) (c:=c) (nm:=dU p 0) (rows xs (.inl ⟨g,rfl⟩)) (λj y hj=> ?_);replace hv:qn T w c g (gA (dU p 0) xs) v:=hv;have J7:(gA (dU p 0) xs)[j]? =ah (lB (dU p 0+j) y):=by rw[iF,hj];rfl
   unfold qn at hv;split at hv
   ·rename_i a he;rw[he]at J7;cases j with
    |zero=>cases J7;exact⟨v,hv⟩
    |succ j=>simp at J7
   ·obtain⟨vals,_,_,hv⟩:=hv;obtain⟨u,_,hu⟩:=hv j _ J7;exact⟨u,hu⟩
   ·exact hv.elim
  |pt xs=>
   have arE:inj args (c9 (dU p 900))= .o (.box (gA (dU p 0) xs)):=by
    refine zS (lV.2 ⟨p,_,h0, .inr (iD.2 (.inl ⟨xs,rfl,by rw[bV],by rw[bV]⟩))⟩) (λc' I7=> ?_);obtain⟨p',a',Wp,hh⟩:=lV.1 I7;rw[bV]at hh;rcases hh with ⟨h,_⟩|hh
    ·exact cK h (mv _ _)
    ·rcases iD.1 hh with ⟨zs,hx,h,rfl⟩|⟨zs,j',e',uA,Dy,pI,J7,h,rfl⟩
     ·obtain⟨rfl,_⟩:=uI (by omega) (by omega) (jZ h);rw[h0]at Wp;cases Wp;cases hx;rfl
     ·exfalso;simp only[zQ,aL,bu]at hs;have h1:=cO (hs.2 a' (aR Wp));have h2:nB a'=zs.length:=by rcases pI with ⟨g,rfl⟩|rfl<;>rfl
      have h3:=(aT.1 J7).1;have:=uI (by omega) (by omega) (jZ h);omega
   obtain⟨vals,_,_,hc⟩:=cg.obj _ _ arE;refine EW (T:=T) (w:=w) (c:=c) (nm:=dU p 0) (rows xs (.inr rfl)) (λj y hj=> ?_);obtain⟨u,_,hu⟩:=hc j (lB (dU p 0+j) y) (by rw[iF,hj];rfl);exact⟨u,hu⟩
  |fb xs=>
   obtain⟨b,_,_,hf⟩:∃b,v= .pointer (ah (ad b 0))/\c.K b/\∀(q:aF) (x:CV),xs[q]? =ah x->∃u:bk,w.cell? (ad b q)=ah u/\da T w c.K u x:=by obtain⟨b,h1,h2,h3⟩:=hv;exact⟨b,h1,h2,h3⟩
   exact KR (T:=T) (w:=w) (c:=c) (λq x hq=>by obtain⟨u,_,hu⟩:=hf q x hq;exact hu.fit)
 clear h cg hs;induction args with
 |nil=>trivial
 |cons x args ih=>exact⟨one 0 x rfl,ih (λp y hp=>one (p+1) y hp)⟩
theorem ae0{P:c6}{E:fS}(hE:eH P E)(hF:∀g,ca P E g (E.call g))(hm:P.follows .mixedOrders=ai){g:aF}{F:Func}{code:Code}(hf:P.funcs[g]? =ah F)(hb:F.body=ah code)
  (hc:((F.name== "runtime.NumGoroutine")|| !tv F.ntmps code)=ak) {spec:aA fy->az (aX×dB)} (hs:∀args r,spec args=ah (ai,r)->zQ args=ai/\(xE args->args.length<=F.ntmps/\∃(R:Type) (it:It R) (K:Ex->St->az R) (q:R),(∀c∈jY code,b_ E it c)/\tz E it code (inj args) K=ah q/\∀e σ,K e σ=ah q->fin E F args e σ=ah r)):ca P E g spec:=by
 intro args r hr w c1 vs cg gi S6;obtain⟨hsm,hs⟩:=hs args r hr;obtain⟨hlen,R,it,K,q,Cx,aiP,arO⟩:=hs (SG hsm cg (λp x hp=>(S6 p x hp).imp λ_ h=>h.2));simp only[iJ,nc]at hc;refine⟨⟨F,hf,by rw[hb];rfl,hc.1⟩, ?_⟩
 refine calls_of_wp hf hb ?_;refine aeT (N:=F.ntmps) (σ0:=inj args) (c0:=c1) (w0:=w) hE hF hm code Cx (inj args) K _ aiP hc.2 (λe σ' a' w' c' hk gg=> ?_) _ w c1 ⟨cg,⟨λn=> ?_,Jl,rfl⟩, ?_,oC.refl _ _ _,Wa.refl _⟩
 ·obtain⟨he,ha,RL,OL,XF,S1⟩:=aeZ hE gg.ok gg.sl (arO _ _ hk)
  have asi:R5 E args r c1 w (C0 (RL.map (·.v))) w':=
   ⟨nC σ' c' RL OL,Xw gg.ok XF,gg.gr.trans (O6 gg.ok XF),O7 XF.sm ha gg.ag,Sy XF⟩
  rcases he with rfl|rfl<;>exact⟨gg.sl.df,_,S1,asi⟩
 ·rcases Jm (args:=args) (n:=n)with ⟨x,h0,h⟩|h
  ·rw[h];obtain⟨v,hv,yH⟩:=S6 n x h0;have:(Act.mk (vs++A4 (F.ntmps-vs.size) undef) []).eval (.tmp n)=v:=by show(vs++A4 (F.ntmps-vs.size) undef).getD n undef=v;have hn:=(dV.1 hv).1;rw[eP,Array.getElem?_append,bz hn,hv];rfl
   rw[this];exact yH
  ·rw[h];trivial
 ·simp;omega
theorem O_{P:c6}{T:Tab}{g:aF}{spec:aA fy->az (aX×dB)}(h:∀args,spec args=aj):ca P T g spec:=λargs r hr=>by rw[h]at hr;cases hr
end Go.FG

namespace Go.FG
structure pT where
 t:aF
 ti:TI
 fs:aA (aF×aF)
def A2:aA pT->aF->az TI
 |[],_=>aj
 |r::rs,t=>bif bD t r.t then ah r.ti else A2 rs t
def DX:aA pT->aF->aF->az (aF×aF)
 |[],_,_=>aj
 |r::rs,t,f=>bif bD t r.t then(bif r.ti.agg then r.fs[f]? else aj)else DX rs t f
def VP(rows:aA pT)(eqs:aA aF):Tab:={ty:=A2 rows,fo:=DX rows,eqs:=eqs}
def zB:Ck->bk->aX
 | .i k, .int k' n=>decide (k'=k)&&decide (n=0)
 | .b, .bool x=> !x
 | .s, .string x=>decide (x.size=0)
 | .l _, .slice aj 0 0=>ai
 | .o, .nilIface=>ai
 |_,_=>ak
def zsB:aA Ck->aA bk->aX
 |[],[]=>ai
 |k::ks,v::vs=>zB k v&&zsB ks vs
 |_,_=>ak
def isAgg:bk->aX| .agg _=>ai|_=>ak
def xC(P:c6)(n:aF):aA Field->aA (aF×aF)->aX
 |[],[]=>ai
 |f::r,(o,m)::l=>bD f.offset o&&(match P.info? f.type with|some i=>bD i.size m|none=>ak)&&qB 0 m&&fL (o+m) n&&xC P n r l
 |_,_=>ak
def rV:TypeDesc->aX| .struct _=>ak| .array _ _=>ak|_=>ai
def ZD(P:c6)(r:pT):aX:=
 match P.info? r.t,P.underlying r.t with
 |some inf,ah d=>bD inf.size r.ti.ks.length&&bD inf.bytes r.ti.bytes&&qB 0 r.ti.ks.length&&
  (bif Lu r.ti.ks then(match inf.zero with|some z=>zsB r.ti.ks z.cells.toList&&(!r.ti.agg||isAgg z)|none=>ak)else ai)&&
  (match d with
  | .struct fs=>r.ti.agg&&xC P r.ti.ks.length fs.toList r.fs
  | .int k=> !r.ti.agg&&qp r.ti.ks [.i k]
  | .bool=> !r.ti.agg&&qp r.ti.ks [.b]
  | .string=> !r.ti.agg&&qp r.ti.ks [.s]
  | .slice e=> !r.ti.agg&&qp r.ti.ks [.l e]
  |d=> !r.ti.agg&&qp r.ti.ks [.o]&&rV d)
 |_,_=>ak
theorem amx{k:Ck}{v:bk}(h:zB k v=ai):v=iN k:=by
 cases k<;>cases v<;>simp_all [zB,iN]
 ·rfl
 ·rename_i a n c;cases a<;>cases n<;>cases c<;>simp_all
theorem V_:∀{ks:aA Ck} {vs:aA bk},zsB ks vs=ai->vs=ks.map iN
 |[],[],_=>rfl
 |k::ks,v::vs,h=>by
  simp only[zsB,aL]at h;rw[amx h.1,V_ h.2];rfl
 |[],_::_,h=>by cases h
 |_::_,[],h=>by cases h
theorem aeO:∀{x y:Ck},ckB x y=ai->x=y:=by intro x y h;cases x<;>cases y<;>simp_all [ckB]
theorem nT:∀{a b:aA Ck},qp a b=ai->a=b
 |[],[],_=>rfl
 |x::a,y::b,h=>by
  simp only[qp,aL]at h;rw[aeO h.1,nT h.2]
 |[],_::_,h=>by cases h
 |_::_,[],h=>by cases h
theorem v_{P:c6}{n:aF}:∀{fs:aA Field} {l:aA (aF×aF)},xC P n fs l=ai->
  fs.mapM (λf=>(P.info? f.type).map λi=>(f.offset,i.size))=ah l/\∀(f o m:aF),l[f]? =ah (o,m)->∃fd,fs[f]? =ah fd/\fd.offset=o/\(P.info? fd.type).map (·.size)=ah m/\m≠0/\o+m<=n
 |[],[],_=>⟨rfl,λf o m h=>by simp at h⟩
 |f::r,(o,m)::l,h=>by
  simp only[xC,aL]at h;obtain⟨⟨⟨⟨h1,h2⟩,h3⟩,h4⟩,h5⟩:=h;obtain⟨i1,i2⟩:=v_ h5;have e1:=aU h1;cases hi:P.info? f.type with
  |none=>rw[hi]at h2;cases h2
  |some i=>
   rw[hi]at h2;have e2:i.size=m:=aU h2;have e3:0<m:=by simpa [AE]using h3
   have e4:=cO h4;refine⟨by simp[W7,hi,i1,e1,e2],λg o' m' hg=> ?_⟩
   cases g with
   |zero=>cases hg;exact⟨f,rfl,e1,by rw[hi];exact lN ah e2,by omega,e4⟩
   |succ g=>exact i2 g o' m' hg
 |[],_::_,h=>by cases h
 |_::_,[],h=>by cases h
theorem JX:∀{rows:aA pT} {t:aF} {ti:TI},A2 rows t=ah ti->∃r∈rows,r.t=t/\r.ti=ti/\∀f,DX rows t f=(bif r.ti.agg then r.fs[f]? else aj)
 |[],_,_,h=>by cases h
 |r::rs,t,ti,h=>by
  unfold A2 at h;cases hb:bD t r.t with
  |true=>rw[hb]at h;cases h;exact⟨r,dr ..,(aU hb).symm,rfl,λf=>by simp[DX,hb]⟩
  |false=>rw[hb]at h;obtain⟨r',h1,h2,h3,h4⟩:=JX (rows:=rs) h;exact⟨r',c8 _ h1,h2,h3,λf=>by unfold DX;rw[hb];exact h4 f⟩
theorem Nn:∀{rows:aA pT} {t f:aF} {o n:aF},DX rows t f=ah (o,n)->∃ti,A2 rows t=ah ti/\ti.agg=ai
 |[],_,_,_,_,h=>by cases h
 |r::rs,t,f,o,n,h=>by
  unfold DX at h;unfold A2;cases hb:bD t r.t with
  |true=>
   rw[hb]at h;refine⟨r.ti,rfl, ?_⟩
   cases ha:r.ti.agg with
   |true=>rfl
   |false=>rw[ha]at h;cases h
  |false=>rw[hb]at h;exact Nn (rows:=rs) h
def Hr(P:c6):aF->aA Ck->aA Field->aX
 |_,[],[]=>ai
 |j,k::ks,f::fs=>f.name != "_" &&bD f.offset j&&(match P.underlying f.type,k with|some (.int q), .i q'=>decide (q=q')|some .bool, .b=>ai|some .string, .s=>ai|_,_=>ak)&&Hr P (j+1) ks fs
 |_,_,_=>ak
def aa1(P:c6)(rows:aA pT)(t:aF):aX:=
 !P.eqGuardType P.depth t&& !P.stoodInHeld t&&(match A2 rows t,P.underlying t with|some ti,ah (.struct fs)=>Hr P 0 ti.ks fs.toList|_,_=>ak)
theorem x_{P:c6}{t:aF}{d:TypeDesc}(hd:P.underlying t=ah d)(hp:rV d=ai){cs:dv bk}{j:aF}{v:bk}(hj:cs[j]? =ah v)(w:bL):(part t cs j).run P w= .ok v w:=by cases d<;>simp_all [part,Go.isAgg,run_underlying hd,rV]
theorem Ae{P:c6}(w:bL):∀(fs:aA Field) (ks:aA Ck) (pre LG xs ys:aA AV) (r:aX),Hr P pre.length ks fs=ai->LG.length=pre.length->xs.map Hb=ks->ys.map Hb=ks->Xv xs ys=ah r->
  (OI 9999 ((pre++xs).map lZ).toArray ((LG++ys).map lZ).toArray fs).run P w= .ok r w
 |[],[],pre,LG,xs,ys,r,_,_,hx,hy,he=>by
  have:xs=[]:=by simpa using hx
  subst this;have:ys=[]:=by simpa using hy
  subst this;cases he;rfl
 |f::fs,k::ks,pre,LG,x::xs,y::ys,r,h,hl,hx,hy,he=>by
  simp only[Hr,aL]at h;obtain⟨⟨⟨h1,h2⟩,h3⟩,h4⟩:=h;have h2:=aU h2;have h1:f.name≠ "_" :=by simpa using h1
  simp only[fE,List.cons.injEq]at hx hy;have gx:((pre++x::xs).map lZ).toArray[f.offset]? =ah (lZ x):=by rw[h2];simp
  have gy:((LG++y::ys).map lZ).toArray[f.offset]? =ah (lZ y):=by rw[h2,<-hl];simp
  have ih:=λr' he'=>Ae w fs ks (pre++[x]) (LG++[y]) xs ys r' (by simpa using h4) (by simp[hl]) hx.2 hy.2 he';simp only[cB,uV]at ih
  have fin:∀{d:TypeDesc} {a b:bk} {q t:aX},P.underlying f.type=ah d->rV d=ai->lZ x=a->lZ y=b->(Op.equalIn 9999 f.type a b).run P w= .ok q w->Xv xs ys=ah t->r=(q&&t)->
    (OI 9999 ((pre++x::xs).map lZ).toArray ((LG++y::ys).map lZ).toArray (f::fs)).run P w= .ok r w:=by
   intro d a b q t hd hp ha hb hq ht hr
   subst ha;subst hb;subst hr
   simp only[OI,bz h1,cm,x_ hd hp gx w,x_ hd hp gy w,bG,hq,ni]
   cases q with
   |false=>rfl
   |true=>simpa using ih t ht
  cases hu:P.underlying f.type with
  |none=>rw[hu]at h3;cases h3
  |some d=>
   rw[hu]at h3;cases x<;>cases y<;>simp only[Xv]at he<;>try (cases he;done)
   ·rename_i k1 n1 k2 n2;split at he
    ·rename_i SU;subst SU;split at he
     ·rename_i t ht;cases he;have hk:k= .i k1:=hx.1.symm;subst hk;cases d<;>simp at h3;subst h3;exact fin hu rfl rfl rfl (run_equalIn_int w 9998 f.type _ _ _ _ hu) ht rfl
     ·cases he
    ·cases he
   ·split at he
    ·rename_i t ht;cases he;have hk:k= .b:=hx.1.symm;subst hk;cases d<;>simp at h3;exact fin hu rfl rfl rfl (run_equalIn_bool' w 9998 f.type _ _ hu) ht rfl
    ·cases he
   ·split at he
    ·rename_i t ht;cases he;have hk:k= .s:=hx.1.symm;subst hk;cases d<;>simp at h3;exact fin hu rfl rfl rfl (run_equalIn_string w 9998 f.type _ _ hu) ht rfl
    ·cases he
 |[],_::_,_,_,_,_,_,h,_,_,_,_=>by cases h
 |_::_,[],_,_,_,_,_,h,_,_,_,_=>by cases h
 |_::_,_::_,_,_,[],_,_,_,_,hx,_,_=>by cases hx
 |_::_,_::_,_,_,_::_,[],_,_,_,_,hy,_=>by cases hy
theorem aeS{P:c6}{rows:aA pT}{eqs:aA aF}(h:rows.all (ZD P)=ai)(h2:eqs.all (aa1 P rows)=ai):eH P (VP rows eqs):=by
 have key:∀t ti,A2 rows t=ah ti->∃r,r.t=t/\r.ti=ti/\ZD P r=ai/\∀f,DX rows t f=(bif r.ti.agg then r.fs[f]? else aj):=λt ti ht=>by obtain⟨r,h1,h2,h3,h4⟩:=JX ht;exact⟨r,h2,h3,bu.1 h r h1,h4⟩
 have open_:∀r,ZD P r=ai->∃inf d,P.info? r.t=ah inf/\P.underlying r.t=ah d/\inf.size=r.ti.ks.length/\inf.bytes=r.ti.bytes/\0<r.ti.ks.length/\
   (Lu r.ti.ks=ai->∃z,inf.zero=ah z/\z.cells.toList=r.ti.ks.map iN/\(r.ti.agg=ai->isAgg z=ai))/\
   ((∃fs,d= .struct fs/\r.ti.agg=ai/\xC P r.ti.ks.length fs.toList r.fs=ai)\/(r.ti.agg=ak/\((∃k,r.ti.ks=[.i k]/\d= .int k)\/(r.ti.ks=[.b]/\d= .bool)\/(r.ti.ks=[.s]/\d= .string)\/(∃e,r.ti.ks=[.l e]/\d= .slice e)\/(r.ti.ks=[.o]/\rV d=ai)))):=by
  intro r hr
  unfold ZD at hr
  split at hr
  ·rename_i inf d h1 h2;simp only[aL]at hr;obtain⟨⟨⟨⟨k1,k2⟩,k3⟩,k4⟩,k5⟩:=hr;refine⟨inf,d,h1,h2,aU k1,aU k2,by simpa [AE]using k3,λhn=> ?_, ?_⟩
   ·rw[hn,au]at k4;split at k4
    ·rename_i z hz;simp only[aL,dM,dt]at k4;exact⟨z,hz,V_ k4.1,λha=>by rcases k4.2 with h|h;(·rw[ha]at h;cases h);exact h⟩
    ·cases k4
   ·cases d<;>simp only[aL,dt]at k5;case struct fs=>exact .inl ⟨fs,rfl,k5⟩
    case int k=>exact .inr ⟨k5.1, .inl ⟨k,nT k5.2,rfl⟩⟩
    case bool=>exact .inr ⟨k5.1, .inr (.inl ⟨nT k5.2,rfl⟩)⟩
    case string=>exact .inr ⟨k5.1, .inr (.inr (.inl ⟨nT k5.2,rfl⟩))⟩
    case slice e=>exact .inr ⟨k5.1, .inr (.inr (.inr (.inl ⟨e,nT k5.2,rfl⟩)))⟩
    all_goals exact .inr ⟨k5.1.1, .inr (.inr (.inr (.inr ⟨nT k5.1.2,k5.2⟩)))⟩
  ·cases hr
 refine⟨λt ti ht=> ?_,λt ti ht=> ?_,λt f o n hf=>Nn hf,λt ti ht ha fs hu=> ?_,λt ti he ht w x y xs ys r hr hx hy=> ?_,λ_ _ h=>by cases h⟩
 ·obtain⟨r,rfl,rfl,hr,_⟩:=key t ti ht;obtain⟨inf,d,h1,h2,h3,h4,h5,h6,h7⟩:=open_ r hr;refine⟨inf,h1,h3,h4,h5,λhn=> ?_⟩
  obtain⟨z,z1,z2,z3⟩:=h6 hn;have hc:z.cells=(r.ti.ks.map iN).toArray:=by rw[<-z2]
  refine⟨z,z1,hc,λha=> ?_⟩
  have:=z3 ha;cases z<;>simp[isAgg]at this;rw[show _=_ from hc.symm];rfl
 ·obtain⟨r,rfl,rfl,hr,xG⟩:=key t ti ht;obtain⟨inf,d,h1,h2,h3,h4,h5,h6,h7⟩:=open_ r hr;refine⟨d,h2,λha=> ?_,λha=> ?_⟩
  ·rcases h7 with ⟨fs,rfl,_,hb⟩|⟨hn,_⟩
   ·refine⟨fs,rfl,λf o n hf=> ?_⟩
    have hf:DX rows r.t f=ah (o,n):=hf;rw[xG,ha]at hf;obtain⟨fd,k1,k2⟩:=(v_ hb).2 f o n hf;exact⟨fd,by simpa using k1,k2⟩
   ·rw[ha]at hn;cases hn
  ·rcases h7 with ⟨fs,_,hn,_⟩|⟨_,h|h|h|h|⟨h,hb⟩⟩
   ·rw[ha]at hn;cases hn
   ·exact .inl h
   ·exact .inr (.inl h)
   ·exact .inr (.inr (.inl h))
   ·exact .inr (.inr (.inr (.inl h)))
   ·refine .inr (.inr (.inr (.inr ⟨h, ?_⟩)));cases d<;>first|rfl|cases hb
 ·obtain⟨r,rfl,rfl,hr,xG⟩:=key t ti ht;obtain⟨inf,d,h1,h2,h3,h4,h5,h6,h7⟩:=open_ r hr;rw[h2]at hu;cases hu;rcases h7 with ⟨fs',he,_,hb⟩|⟨hn,_⟩
  ·cases he;refine⟨r.fs,(v_ hb).1,λf o n hf=> ?_⟩
   have hf:DX rows r.t f=ah (o,n):=hf;rw[xG,ha]at hf;exact hf
  ·rw[ha]at hn;cases hn
 ·have hm:t∈eqs:=by
   have:∀l:aA aF,mK t l=ai->t∈l:=by
    intro l;induction l with
    |nil=>intro h;cases h
    |cons a l ih=>
     intro h;simp only[mK,dM]at h;rcases h with h|h
     ·rw[aU h];exact dr
     ·exact c8 _ (ih h)
   exact this _ he
  have hb:=bu.1 h2 t hm;simp only[aa1,aL,dt]at hb;obtain⟨⟨b1,b2⟩,b3⟩:=hb;rw[show A2 rows t=ah ti from ht]at b3;cases hu:P.underlying t with
  |none=>rw[hu]at b3;cases b3
  |some d=>
   rw[hu]at b3;cases d<;>try (cases b3;done)
   rename_i fs;have xG:P.fieldsOf t=fs:=by unfold Program.fieldsOf;rw[hu]
   have sA:P.underlying t=ah (.struct (P.fieldsOf t)):=by rw[xG];exact hu
   have key:(Op.equalIn 10000 t (.agg (xs.map lZ).toArray) (.agg (ys.map lZ).toArray)).run P w= .ok r w:=by rw[run_equalIn_agg w 9999 t _ _ sA b2,xG];exact Ae w fs.toList ti.ks [] [] xs ys r b3 rfl hx hy hr
   refine⟨?_, ?_⟩
   ·simp only[cm,run_eqGuard_agg w .eql t x y _ _ b1,bG,run_eql_struct,key]
   ·simp only[cm,run_eqGuard_agg w .neq t x y _ _ b1,bG,run_neq_struct,key]
def amm(rows:aA pT)(eqs:aA aF)(SI:aA (aF×aF)):Tab:={VP rows eqs with SI:=λt f=>SI.any λp=>bD t p.1&&bD f p.2}
def flB(P:c6)(p:aF×aF):aX:=
 match P.underlying p.1 with
 |some (.struct fs)=>(match fs[p.2]? with|some fd=>(match P.underlying fd.type with|some d=>rV d|none=>ak)|none=>ak)
 |_=>ak
theorem aez{P:c6}{t:aF}{d:TypeDesc}(h:P.underlying t=ah d)(hb:rV d=ai)(w:bL):(Go.isAgg t).run P w= .ok ak w:=by unfold Go.isAgg;rw[cm,run_underlying h,bG];cases d<;>first|rfl|cases hb
theorem Xt{P:c6}{rows:aA pT}{eqs:aA aF}{SI:aA (aF×aF)}(h:eH P (VP rows eqs))(hf:SI.all (flB P)=ai):eH P (amm rows eqs SI):=by
 refine⟨h.info,h.desc,h.fo,h.pl,h.eq,λt f hq fs fd hu hd w=> ?_⟩
 obtain⟨p,hp,he⟩:=FR.1 (show(SI.any λp=>bD t p.1&&bD f p.2)=ai from hq);rw[aL]at he;have hb:=bu.1 hf p hp;unfold flB at hb;rw[<-aU he.1,<-aU he.2,hu]at hb;dsimp only at hb;rw[hd]at hb;dsimp only at hb;split at hb
 ·rename_i d h2;exact aez h2 hb w
 ·cases hb
end Go.FG

