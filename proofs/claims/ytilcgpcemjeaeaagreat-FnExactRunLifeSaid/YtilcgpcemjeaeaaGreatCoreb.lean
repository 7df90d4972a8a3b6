/- An evaluator for the part of the language that this program uses, proved sound over the model: states told as values and lists; what an evaluation tells, the call does. No condition. -/
import Derived.Calls
import Derived.Orders
import Derived.Below
import Derived.Laws.AppendOwn
import Derived.Laws.Slices
import Derived.Laws.StructEq
import Derived.Laws.Tables
import Derived.Laws.MakeOwn
import Derived.Laws.IdiomStrings
import Derived.Laws.BytesArg
import Derived.Laws.NewFold
import Derived.SizedLaws
import Derived.Carry
import Derived.ProofKit
import Derived.KernelRfl
import Derived.Laws.Strings
import Derived.Test.YtilcgpcemjeaeaaGreatCorea
set_option linter.unusedVariables false
set_option linter.unusedSimpArgs false
set_option maxRecDepth 100000
open Array renaming ext'->sC,length_toList->dW,getElem?_toList->cZ,getElem?_eq_some_iff->dY,getElem?_extract->eh,getElem?_map->P5,getElem?_append_left->Fv,toList_map->BC,eq_empty_of_size_eq_zero->BB,getD_eq_getD_getElem?->eM,getElem?_replicate->Fw,replicate->B9
open Bool renaming false->ak,true->ai,or_true->Lm,and_eq_true->aK,and_true->j4,false_eq_true->dt,not_eq_true'->du,not_eq_false'->mF,or_eq_true->dM,and_false->wM,not_false->bS,true_or->BD,or_eq_false_iff->iF
open Go renaming World->bJ,Value->bn,Program->c6,Oper->fB,IntKind->nh,Operand->dx
open Go.Act renaming put->Xp
open Go.Builtin renaming firstCells->fA,lenOf->pB,append_->iv,zeroCells->fO
open Go.Exit renaming inBlock->Jo
open Go.Instr renaming makeFunc->Xq,loadAt->zL,sureAddr->uP
open Go.IntKind renaming u8->ba
open Go.Op renaming eqFields->P7
open Go.Oper renaming wp->P8,upon_enter->Xr
open Go.Region renaming wanted->vj,binds->mI,ready->wR
open Go.Result renaming andThen_ok->bG
open Go.Sem renaming run_bind->cq,run_pure->cU,run->ni,run_ite->m8
open List renaming mem_of_getElem?->aR,map_append->cQ,map_cons->eC,map_nil->CY,mem_append->bf,mem_map->cw,mem_singleton->aZ,mem_append_left->bW,mem_append_right->bO,getElem?_append_left->dC,getElem?_append_right->c8,length_append->cf,eq_nil_of_length_eq_zero->gj,length_map->bR,getElem?_eq_some_iff->aT,mem_cons->cB,getElem?_of_mem->b7,getElem_mem->bu,map_toArray->EJ,mem_cons_self->dL,mem_cons_of_mem->c9,not_mem_nil->lK,getElem?_cons_succ->dO,mem_flatMap->bL,length_eq_one_iff->gX,getElem?_cons_zero->sD,flatMap_cons->zM,nodup_append->eB,getElem?_map->bI,nodup_cons->kE,getD_eq_getElem?_getD->d_,nil_append->gG,all_eq_true->bA,map_map->kl,append_nil->cu,cons_append->sZ,length_singleton->bC,range'->iw,length_cons->dh,getElem?_eq_none->kS,append_assoc->bU,take_append_of_le_length->oZ,take_length->dv,singleton_append->uT,length_nil->jN,getElem?_take->ea,countP_cons->lB,range->ch,range_eq_range'->zO,find?_eq_none->Yc,find?_some->G3,length_set->cO,mem_or_eq_of_mem_set->jE,mem_filter->dE,mapM_cons->Ye,getD_cons_succ->wT
open Nat renaming lt_of_lt_of_le->js,mul_le_mul_right->b_,add_mul->dn,add_assoc->lX,eq_of_beq_eq_true->aU,le_refl->cJ,zero_le->bk,div_lt_iff_lt_mul->yZ,mod_lt->Et,div_add_mod->K8,mul_comm->FF,zero_add->bT,add_comm->iY,beq->bD,le_of_ble_eq_true->cL,add_zero->zP,blt->qs,blt_eq->BJ,sub_self->vP,lt_or_ge->qQ,le_trans->dc,ble_eq_true_of_le->Lv,ble->fL,sub_zero->oN
open Option renaming some->ah,getD_some->zQ,none->aj
open Option.some renaming inj->aF,injEq->jw
open Prod.mk renaming inj->bV,injEq->jd
open _root_ renaming Nat->aC,Bool->aY,List->az,if_pos->bB,if_neg->bH,absurd->cS,Array->dp,Int->aw,decide_eq_true_eq->bj,Option->ay,cond_true->au,cond_false->ax,decide_eq_true->aE,decide_eq_false->aG,of_decide_eq_true->cF,congrArg->lH
namespace Go.FG
theorem p9{E:fS}{w:bJ}{K:aC->Prop}{p:Pl}{xs:aQ}{el:aC}{te:TI}(ht:E.ty el=ah te)(hs:p.sz=te.ks.length)(mE:∀y∈xs,y.map CV.kd=te.ks)
  (h:jg w p xs (λ_ _ u x=>dg E w K u x)) (hK:p.nil=ak->K p.blk):dg E w K (lO p) (.l el xs):=by
 cases hq:p.nil with
 |true=>rw[nE hq,(h.nil hq).1];exact .nl _ _ _
 |false=>
  rw[e_ hq,h.n];obtain⟨vals,hb,Ul,hmx,_,hc⟩:=h.mem hq;have Ka:=λi y j x (h1:xs[i]? =ah y) (h2:y[j]? =ah x)=>hc i y j x h1 h2;refine .l el xs p.blk p.off p.cap te (λi j=>(vals[p.off+i*p.sz+j]?).getD undef) ht (by rw[<-h.n];exact Ul) hmx (hK hq) mE (λi j y x h1 h2=> ?_) (λi j y x h1 h2=> ?_)
  ·obtain⟨u,hu,_⟩:=Ka i y j x h1 h2;rw[hb.cell,<-hs,hu];rfl
  ·obtain⟨u,hu,hr⟩:=Ka i y j x h1 h2;simp only[hu,zQ];exact hr
theorem yV{E:fS}{w:bJ}{K:aC->Prop}{G:aC->aC->Pl}{i j:aC}{u:bn}{x:CV}(h:XC E w G i j u x)(hK:uz x=ai->(G i j).nil=ak->K (G i j).blk):dg E w K u x:=by
 cases x with
 |l e ys=>obtain⟨rfl,t,ht,hp,hs,mE,gk⟩:=h;exact p9 ht hs mE (gk.frame (λ_=>rfl) (λi j y x u hi hj hr=>kM (im hp (mE y (aR hi)) hj) hr)) (hK rfl)
 |i=>exact kM rfl h
 |b=>exact kM rfl h
 |s=>exact kM rfl h
section
variable {P:c6} {E:fS} {σ:St} {a:Act} {w:bJ} {c:e9} {o:fB} {nm:aC} {e:sV}
structure Ll (E:fS) (σ:St) (w:bJ) (c:e9) (te:TI) (v:bn) (Eu:aY) (xs:aQ) (b:az aC) (p:Pl) (g:aC->aC->Pl):Prop where
 v:v=lO p
 sz:p.sz=te.ks.length
 sh:∀y∈xs,y.map CV.kd=te.ks
 at_:jg w p xs (λi j u x=>if Eu=ai then XC E w g i j u x else dg E w c.K u x)
 mU:Eu=ai->G2 p g xs
 own:p.nil=ak->∃nm ob,nm∈b/\σ (db nm)= .o ob/\fM c nm ob p.blk
 owni:Eu=ai->∀i j,gp xs i j->(g i j).nil=ak->∃nm ob,nm∈b/\σ (db nm)= .o ob/\fM c nm ob (g i j).blk
 kn:∀nm∈b,∃ob,σ (db nm)= .o ob
def K1(σ:St)(c:e9)(D:az (aC×Obj))(q:aC):Prop:=c.K q\/∃n e xs ob,(n,Obj.fV e xs)∈D/\σ (db n)= .o ob/\fM c n ob q
structure rh (E:fS) (σ:St) (w:bJ) (c:e9) (te:TI) (b:az aC) (B2:aY) (ys:aQ) (D:az (aC×Obj)) (news:az bn) (gx:aC->aC->Pl):Prop where
 sh:∀y∈ys,y.map CV.kd=te.ks
 cellX:B2=ai->∀(i:aC) (y:az CV) (j:aC) (x:CV),ys[i]? =ah y->y[j]? =ah x->∃u:bn,news[i*te.ks.length+j]? =ah u/\XC E w gx i j u x
 cellH:B2=ak->∀(i:aC) (y:az CV) (j:aC) (x:CV),ys[i]? =ah y->y[j]? =ah x->∃u:bn,news[i*te.ks.length+j]? =ah u/\dg E w (K1 σ c D) u x
 own:B2=ai->∀i j,gp ys i j->(gx i j).nil=ak->∃n ob,(n,Obj.dead)∈D/\σ (db n)= .o ob/\fM c n ob (gx i j).blk
 one:B2=ai->∀i j i' j',gp ys i j->gp ys i' j'->(gx i j).nil=ak->(gx i' j').nil=ak->(gx i j).blk=(gx i' j').blk->i=i'/\j=j'
 D:∀n x,(n,x)∈D->n∉b/\(∃ob,σ (db n)= .o ob)/\(x= .dead\/(B2=ak/\∃e xs,x= .fV e xs/\dg E w (K1 σ c D) (lO (c.P n)) (.l e xs)/\(c.P n).n=xs.length/\∃ti,E.ty e=ah ti/\(c.P n).sz=ti.ks.length))
theorem Gh(cj:Ok E σ w c)(dI:fC E σ a w c)(hd:∀d,o.dst=ah d->d<a.tmps.size){tH el:aC}{te:TI}(ht:E.ty el=ah te)(hf:σ (db tH)= .jZ)(jb:tH<900000000)
  {v:bn} {Eu B2:aY} {xs ys:aQ} {b:az aC} {p p':Pl} {g gx:aC->aC->Pl} {D2:az (aC×Obj)} {news:az bn} {w':bJ}
  (hB:Ll E σ w c te v Eu xs b p g) (hM:rh E σ w c te b B2 ys D2 news gx) (hA:af4 w w' p p' ys.length news) (hr:(execOp a.eval o).run P w= .ok (.value (lO p')) w'):
  gV P E σ a w c o (oh b++(ka D2++[(db tH,eR.o (.row el (Eu&&B2) (xs++ys)))])++dw o (.v ak [.own tH])):=by
 have ahb:(Eu&&B2)=ai->Eu=ai/\B2=true:=λh=>by simpa using h
 generalize aha:(Eu&&B2)=Qr at ahb;let D:az (aC×Obj):=F9 b++(D2++[(tH, .row el Qr (xs++ys))])
 have hD:oh b++(ka D2++[(db tH,eR.o (.row el Qr (xs++ys)))])=ka D:=by rw[Di];simp only[D,ka,cQ,eC,CY]
 rw[hD];have mem:∀m x,(m,x)∈D->(m∈b/\x= .dead)\/(m,x)∈D2\/(m=tH/\x= .row el Qr (xs++ys)):=by
  intro m x hm;rcases bf.1 hm with hm|hm
  ·obtain⟨q,hq,h⟩:=cw.1 hm;cases h;exact .inl ⟨hq,rfl⟩
  ·rcases bf.1 hm with hm|hm
   ·exact .inr (.inl hm)
   ·rw[aZ]at hm;cases hm;exact .inr (.inr ⟨rfl,rfl⟩)
 have OK:∀m,m∈b->uN D m:=λm hm=>⟨.dead,bW _ (cw.2 ⟨m,hm,rfl⟩)⟩
 have Ud:∀m x,(m,x)∈D2->uN D m:=λm x hm=>⟨x,bO _ (bW _ hm)⟩
 have ak9:uN D tH:=⟨_,bO _ (bO _ (aZ.2 rfl))⟩
 have F1:p'.nil=ak->p'.blk=w.heap.size\/∃m ob,m∈b/\σ (db m)= .o ob/\fM c m ob p'.blk:=by
  intro hn;rcases hA.blk hn with ⟨h1,h2⟩|h
  ·rw[h2];exact .inr (hB.own h1)
  ·exact .inl h
 have Dne:∀n x ob q,(n,x)∈D2->σ (db n)= .o ob->fM c n ob q->¬(p'.nil=ak/\q=p'.blk):=by
  rintro n x ob q hx mS pV ⟨hn,rfl⟩;have YU:=wW.lt cj ⟨n,ob,mS,pV⟩;rcases F1 hn with h|⟨m,ob',h1,h2,h3⟩
  ·omega
  ·have:=cj.sep n ob m ob' _ mS h2 pV h3;subst this;exact(hM.D n x hx).1 h1
 have Kne:∀q,c.K q->¬(p'.nil=ak/\q=p'.blk):=by
  rintro q hq ⟨hn,rfl⟩;have YU:=cj.lt _ hq;rcases F1 hn with h|⟨m,ob',h1,h2,h3⟩
  ·omega
  ·exact cj.kk m ob' _ h2 h3 hq
 have Gne:Eu=ai->∀i j,gp xs i j->(g i j).nil=ak->¬(p'.nil=ak/\(g i j).blk=p'.blk):=by
  rintro hx i j hh hn ⟨kG,he⟩;obtain⟨m,ob,q1,q2,q3⟩:=hB.owni hx i j hh hn;have YU:=wW.lt cj ⟨m,ob,q2,q3⟩;rcases hA.blk kG with ⟨h1,h2⟩|h
  ·exact(hB.mU hx).out i j hh hn h1 (he.trans h2)
  ·omega
 let K':aC->Prop:=λq=>c.K q\/(Qr=ak/\j5 (uN D) σ c q/\¬(p'.nil=ak/\q=p'.blk))
 have akO:∀q,K' q->q<w.heap.size:=by
  rintro q (h|⟨_,h,_⟩)
  ·exact cj.lt q h
  ·exact wW.lt cj h.own
 have akP:∀q,K' q->¬(p'.nil=ak/\q=p'.blk):=by
  rintro q (h|⟨_,_,h⟩)
  ·exact Kne q h
  ·exact h
 have F3:∀q,K' q->w'.heap[q]? =w.heap[q]? :=λq hq=>hA.old q (akO q hq) (λhn he=>akP q hq ⟨hn,he⟩);have F4:Qr=ak->∀q,K1 σ c D2 q->K' q:=by
  rintro hR q (h|⟨n,e',zs,ob,h1,h2,h3⟩)
  ·exact .inl h
  ·exact .inr ⟨hR,⟨n,ob,Ud n _ h1,h2,h3⟩,Dne n _ ob q h1 h2 h3⟩
 have F5:Qr=ak->Eu=ai->∀i j,gp xs i j->(g i j).nil=ak->K' (g i j).blk:=by intro hR hx i j hh hn;obtain⟨m,ob,q1,q2,q3⟩:=hB.owni hx i j hh hn;exact .inr ⟨hR,⟨m,ob,OK m q1,q2,q3⟩,Gne hx i j hh hn⟩
 have F6:Qr=ak->B2=ai->∀i j,gp ys i j->(gx i j).nil=ak->K' (gx i j).blk:=by intro hR hx i j hh hn;obtain⟨n,ob,q1,q2,q3⟩:=hM.own hx i j hh hn;exact .inr ⟨hR,⟨n,ob,Ud n _ q1,q2,q3⟩,Dne n _ ob _ q1 q2 q3⟩
 let G':aC->aC->Pl:=λi j=>if i<xs.length then g i j else gx (i-xs.length) j
 have G'l:∀i j,i<xs.length->G' i j=g i j:=λi j h=>bB h;have G'r:∀i j,¬i<xs.length->G' i j=gx (i-xs.length) j:=λi j h=>bH h;have Uy:∀i j,i<xs.length->gp (xs++ys) i j->gp xs i j:=by rintro i j hi ⟨y,x,h1,h2,h3⟩;rw[dC hi]at h1;exact⟨y,x,h1,h2,h3⟩
 have Y8:∀i j,¬i<xs.length->gp (xs++ys) i j->gp ys (i-xs.length) j:=by rintro i j hi ⟨y,x,h1,h2,h3⟩;rw[c8 (by omega)]at h1;exact⟨y,x,h1,h2,h3⟩
 let c':e9:=⟨λm=>if m=tH then p' else c.P m,λm=>if m=tH then G' else c.G m,K'⟩
 have hP:c'.P tH=p':=bB rfl;have hG:c'.G tH=G':=bB rfl;have hAg:jz σ c c':=λm hm=>by
  have:m≠tH:=by rintro rfl;rcases hm with h|h;exact h hf;omega
  exact⟨bH this,bH this⟩
 have alM:Qr=ai->∀i j,gp (xs++ys) i j->(G' i j).nil=ak->¬(p'.nil=ak/\(G' i j).blk=p'.blk)/\j5 (uN D) σ c (G' i j).blk:=by
  intro hR i j hh hn;obtain⟨r1,r2⟩:=ahb hR;by_cases hi:i<xs.length
  ·rw[G'l i j hi]at hn⊢;obtain⟨m,ob,q1,q2,q3⟩:=hB.owni r1 i j (Uy i j hi hh) hn;exact⟨Gne r1 i j (Uy i j hi hh) hn,m,ob,OK m q1,q2,q3⟩
  ·rw[G'r i j hi]at hn⊢;obtain⟨n,ob,q1,q2,q3⟩:=hM.own r2 _ j (Y8 i j hi hh) hn;exact⟨Dne n _ ob _ q1 q2 q3,n,ob,Ud n _ q1,q2,q3⟩
 have hlen:∀y∈xs++ys,y.map CV.kd=te.ks:=λy hy=>(bf.1 hy).elim (hB.sh y) (hM.sh y);refine Mg cj dI hd (D:=D) (c':=c') (w':=w') hAg ?_ ?_ ?_ ?_ (λq h=> .inl h) ?_ (λq hq=>js (akO q hq) hA.size) ?_ hA.size hA.os hA.tape hA.output ?_ ?_ hr
 ·intro m x hm;rcases mem m x hm with ⟨_,rfl⟩|YP|⟨rfl,rfl⟩
  ·trivial
  ·obtain⟨_,⟨ob,mS⟩,hx⟩:=hM.D m x YP;rcases hx with rfl|⟨XP,e',zs,rfl,q1,q2,q3⟩
   ·trivial
   ·have hR:Qr=false:=by rw[<-aha,XP];simp
    obtain⟨a1,a2⟩:=hAg m (.inl (by rw[mS];simp));show dg E w' K' (lO (c'.P m)) _/\(c'.P m).n=_/\_;rw[a1];exact⟨q1.frame (λq hq=>F3 q (F4 hR q hq)) (F4 hR),q2,q3⟩
  ·refine⟨⟨te,ht,by rw[hP,hA.sz];exact hB.sz,hlen⟩, ?_,λhR=> ?_⟩
   ·rw[hP,hG];refine⟨by rw[hA.n,hB.at_.n,cf],λhn=> ?_,λhn=> ?_⟩
    ·obtain⟨n1,n2,n3⟩:=hA.nil hn;refine⟨?_,n1⟩
     have e1:xs.length=0:=by rw[<-hB.at_.n];exact n2
     rw[gj e1,gj n3];rfl
    ·obtain⟨i9,m1,m2,m3,m4,m5,m6⟩:=hA.mem hn;refine⟨i9,m1,m2,m3,m4,λi y j x hy hx=> ?_⟩
     have hj:j<te.ks.length:=by rw[<-hlen y (aR hy),bR];exact(aT.1 hx).1
     by_cases hi:i<xs.length
     ·rw[dC hi]at hy;have hpn:p.nil=false:=by
       cases hq:p.nil with
       |false=>rfl
       |true=>have:=(hB.at_.nil hq).1;subst this;simp at hi
      obtain⟨vals,k1,k2,k3,k4,k5⟩:=hB.at_.mem hpn;obtain⟨u,hu,hR⟩:=k5 i y j x hy hx;have hk:i*p.sz+j<p.n*p.sz:=by have:(i+1)*p.sz<=p.n*p.sz:=b_ _ (by rw[hB.at_.n];exact hi);rw[dn]at this;rw[hB.sz]at this⊢;omega
      refine⟨u, ?_, ?_⟩
      ·rw[hA.sz,lX];refine m5 _ u hk ?_;rw[k1.cell,<-lX];exact hu
      ·cases hxb:Eu with
       |true=>
        rw[hxb,bB rfl]at hR;cases Y3:Qr with
        |true=>
         rw[bB rfl];have XO:XC E w' g i j u x:=hR.frame (λhl kG=>hA.old _ (by obtain⟨m,ob,_,q2,q3⟩:=hB.owni hxb i j ⟨y,x,hy,hx,hl⟩ kG;exact wW.lt cj ⟨m,ob,q2,q3⟩) (λahl he=>Gne hxb i j ⟨y,x,hy,hx,hl⟩ kG ⟨ahl,he⟩));cases x with
         |l e1 z1=>simpa only[XC,G'l i j hi]using XO
         |_=>exact XO
        |false=>rw[bH (by simp)];have:=yV (K:=K') hR (λhl kG=>F5 Y3 hxb i j ⟨y,x,hy,hx,hl⟩ kG);exact this.frame F3 (λ_ h=>h)
       |false=>
        have Y3:Qr=false:=by rw[<-aha,hxb];rfl
        rw[hxb,bH (by simp)]at hR;rw[Y3,bH (by simp)];exact hR.frame (λq hq=>F3 q (.inl hq)) (λq hq=> .inl hq)
     ·rw[c8 (by omega)]at hy;have Km:i-xs.length<ys.length:=(aT.1 hy).1;have hk:(i-xs.length)*p.sz+j<ys.length*p.sz:=by have:(i-xs.length+1)*p.sz<=ys.length*p.sz:=b_ _ Km;rw[dn]at this;rw[hB.sz]at this⊢;omega
      have avx:p'.off+i*p'.sz+j=p'.off+p.n*p.sz+((i-xs.length)*p.sz+j):=by
       rw[hA.sz,hB.at_.n];have:i*p.sz=xs.length*p.sz+(i-xs.length)*p.sz:=by rw[<-dn];congr 1;omega
       omega
      have got:∀u,news[(i-xs.length)*te.ks.length+j]? =ah u->i9[p'.off+i*p'.sz+j]? =ah u:=λu hu=>by rw[avx,m6 _ hk,hB.sz];exact hu
      cases XP:B2 with
      |true=>
       obtain⟨u,hu,hX⟩:=hM.cellX XP _ y j x hy hx;refine⟨u,got u hu, ?_⟩
       cases Y3:Qr with
       |true=>
        rw[bB rfl];have XO:XC E w' gx (i-xs.length) j u x:=hX.frame (λhl kG=>hA.old _ (by obtain⟨n,ob,_,q2,q3⟩:=hM.own XP _ j ⟨y,x,hy,hx,hl⟩ kG;exact wW.lt cj ⟨n,ob,q2,q3⟩) (λahl he=>by obtain⟨n,ob,q1,q2,q3⟩:=hM.own XP _ j ⟨y,x,hy,hx,hl⟩ kG;exact Dne n _ ob _ q1 q2 q3 ⟨ahl,he⟩));cases x with
        |l e1 z1=>simpa only[XC,G'r i j hi]using XO
        |_=>exact XO
       |false=>rw[bH (by simp)];have:=yV (K:=K') hX (λhl kG=>F6 Y3 XP _ j ⟨y,x,hy,hx,hl⟩ kG);exact this.frame F3 (λ_ h=>h)
      |false=>
       have Y3:Qr=false:=by rw[<-aha,XP];simp
       obtain⟨u,hu,hH⟩:=hM.cellH XP _ y j x hy hx;refine⟨u,got u hu, ?_⟩
       rw[Y3,bH (by simp)];exact hH.frame (λq hq=>F3 q (F4 Y3 q hq)) (F4 Y3)
   ·rw[hP,hG];refine⟨λi j hh hn hpn he=>(alM hR i j hh hn).1 ⟨hpn,he⟩,λi j i' j' hh B5 hn kG he=> ?_⟩
    obtain⟨r1,r2⟩:=ahb hR;have aca:∀i j i' j',i<xs.length->¬i'<xs.length->gp (xs++ys) i j->gp (xs++ys) i' j'->(G' i j).nil=ak->(G' i' j').nil=ak->(G' i j).blk≠(G' i' j').blk:=by intro i j i' j' hi lZ hh B5 hn kG he;rw[G'l i j hi]at hn he;rw[G'r i' j' lZ]at kG he;obtain⟨m,ob,q1,q2,q3⟩:=hB.owni r1 i j (Uy i j hi hh) hn;obtain⟨n,ob',s1,s2,s3⟩:=hM.own r2 _ j' (Y8 i' j' lZ B5) kG;rw[he]at q3;have:=cj.sep m ob n ob' _ q2 s2 q3 s3;subst this;exact(hM.D m _ s1).1 q1
    by_cases hi:i<xs.length
    ·by_cases lZ:i'<xs.length
     ·rw[G'l i j hi]at hn he;rw[G'l i' j' lZ]at kG he;exact(hB.mU r1).one i j i' j' (Uy i j hi hh) (Uy i' j' lZ B5) hn kG he
     ·exact cS he (aca i j i' j' hi lZ hh B5 hn kG)
    ·by_cases lZ:i'<xs.length
     ·exact cS he.symm (aca i' j' i j lZ hi B5 hh kG hn)
     ·rw[G'r i j hi]at hn he;rw[G'r i' j' lZ]at kG he;have:=hM.one r2 _ j _ j' (Y8 i j hi hh) (Y8 i' j' lZ B5) hn kG he;exact⟨by omega,this.2⟩
 ·intro m x q hm pV;rcases mem m x hm with ⟨_,rfl⟩|YP|⟨rfl,rfl⟩
  ·exact pV.elim
  ·obtain⟨_,_,hx⟩:=hM.D m x YP;rcases hx with rfl|⟨_,e',zs,rfl,_⟩
   ·exact pV.elim
   ·exact pV.elim
  ·rcases pV with ⟨hn,rfl⟩|⟨hR,i,j,hh,hn,rfl⟩
   ·rw[hP]at hn⊢;refine⟨?_,λhk=>akP _ hk ⟨hn,rfl⟩⟩
    rcases F1 hn with h|⟨m,ob,h1,h2,h3⟩
    ·right;omega
    ·exact .inl ⟨m,ob,OK m h1,h2,h3⟩
   ·rw[hG]at hn⊢;obtain⟨q1,q2⟩:=alM hR i j hh hn;refine⟨.inl q2, ?_⟩
    rintro (h|⟨h,_⟩)
    ·exact cj.KB q2.own h
    ·rw[hR]at h;cases h
 ·intro m x m' x' q hm xT pV Uh;have only:∀m x,(m,x)∈D->fM c' m x q->m=tH:=by
   intro m x hm pV;rcases mem m x hm with ⟨_,rfl⟩|YP|⟨rfl,rfl⟩
   ·exact pV.elim
   ·obtain⟨_,_,hx⟩:=hM.D m x YP;rcases hx with rfl|⟨_,e',zs,rfl,_⟩
    ·exact pV.elim
    ·exact pV.elim
   ·rfl
  rw[only m x hm pV,only m' x' xT Uh]
 ·intro m zs hm;rcases mem m _ hm with ⟨_,h⟩|YP|⟨_,h⟩
  ·cases h
  ·obtain⟨_,_,hx⟩:=hM.D m _ YP;rcases hx with h|⟨_,e',zs,h,_⟩<;>cases h
  ·cases h
 ·rintro q (h|⟨_,h,_⟩)
  ·exact .inl h
  ·exact .inr (.inl h)
 ·intro q hq YQ;refine hA.old q hq (λhn he=>YQ ?_);rcases F1 hn with h|⟨m,ob,h1,h2,h3⟩
  ·omega
  ·rw[he];exact⟨m,ob,OK m h1,h2,h3⟩
 ·show _=lO (c'.P tH);rw[hP]
 ·intro m hm;have:m=tH:=by simpa [cM,bN]using hm
  subst this;exact .inr ak9
end
end Go.FG

namespace Go.FG
theorem Ku:∀{l:az aC} {n:aC},n∈l->mC n l=true:=by
 intro l;induction l with
 |nil=>intro n h;cases h
 |cons m r ih=>
  intro n h;rcases cB.1 h with rfl|h
  ·simp[mC]
  ·simp only[mC,ih h,Lm]
theorem qm{l:az aC}{n:aC}(h:mC n l=ak):n∉l:=λhm=>by rw[Ku hm]at h;cases h
theorem dg.one{E:fS}{w:bJ}{K:aC->Prop}{u:bn}{x:CV}(h:dg E w K u x):u.oneCell'=true:=by cases h<;>rfl
theorem YO(p:Pl):(lO p).oneCell'=true:=by unfold lO;split<;>rfl
theorem XC.one{E:fS}{w:bJ}{G:aC->aC->Pl}{i j:aC}{u:bn}{x:CV}(h:XC E w G i j u x):u.oneCell'=true:=by
 cases x with
 |l e ys=>rw[h.1];exact YO _
 |i=>rw[show u=_ from h.1];rfl
 |b=>rw[show u=_ from h.1];rfl
 |s=>rw[show u=_ from h.1];rfl
theorem KU{x:CV}:(Rj x).oneCell'=true:=by cases x<;>rfl
theorem xG{α:Type}{b:aY}{x y:Rd α}(h:b=ai):(bif b then x else y)=x:=by rw[h];rfl
theorem F2{α:Type}{b:aY}{x y:Rd α}(h:b=ak):(bif b then x else y)=y:=by rw[h];rfl
theorem sM{α β γ:Type}{σ:St}{a x:α}{b y:β}{c z:γ}(h:(Rd.ret (a,b,c)).val σ=ah (x,y,z)):a=x/\b=y/\c=z:=by obtain⟨h1,h2⟩:=bV (aF h);obtain⟨h2,h3⟩:=bV h2;exact⟨h1,h2,h3⟩
section
variable {P:c6} {E:fS} {σ:St} {a:Act} {w:bJ} {c:e9} {o:fB} {nm:aC} {e:sV}
theorem Dd(cj:Ok E σ w c){el:aC}{te:TI}(ht:E.ty el=ah te){s:AV}{v:bn}(hs:eL E w c s v){Eu:aY}{xs:aQ}{b:az aC}(h:(xF el s).val σ=ah (Eu,xs,b)):
  ∃p g,Ll E σ w c te v Eu xs b p g:=by
 have aml:∀b,(∀m∈b,∃ob,σ (db m)= .o ob)->v= .slice aj 0 0->∀Eu,Ll E σ w c te v Eu [] b ⟨ai,0,0,0,0,te.ks.length⟩ (MJ E te.ks):=λb hb hv Eu=>
  ⟨hv,rfl,λy hy=>(by cases hy),⟨rfl,λ_=>⟨rfl,rfl⟩,λh=>(by cases h)⟩,λ_=>wz (λ_ _=>rfl),λh=>(by cases h),λ_ i j ⟨y,x,h,_⟩=>(by simp at h),hb⟩
 cases s with
 |nl=>obtain⟨rfl,rfl,rfl⟩:=sM h;exact⟨_,_,aml [] (λm hm=>by cases hm) hs ai⟩
 |own n=>
  obtain⟨ob,hg,h⟩:=Rd.bind_some h;have hg:=dy hg;cases ob with
  |row e' ex ys=>obtain⟨h1,h9⟩:=cR h;have:=aU h1;subst this;have h:=h9;obtain⟨rfl,rfl,rfl⟩:=sM h;obtain⟨⟨t2,q1,q2,q3⟩,q4,q5⟩:=cj.obj n _ hg;obtain rfl:te=t2:=aF (ht.symm.trans q1);exact⟨c.P n,c.G n,hs,q2,q3,q4,q5,λhn=>⟨n,_,by simp,hg, .inl ⟨hn,rfl⟩⟩,λhx i j hh hn=>⟨n,_,by simp,hg, .inr ⟨hx,i,j,hh,hn,rfl⟩⟩,λm hm=>by rw[aZ]at hm;subst hm;exact⟨_,hg⟩⟩
  |_=>simp at h
 |vw n lo hi=>
  obtain⟨ob,hg,h⟩:=Rd.bind_some h;have hg:=dy hg;cases ob with
  |row e' ex ys=>
   obtain⟨h1,h9⟩:=cR h;have:=aU h1;subst this;have h:=h9;obtain⟨rfl,rfl,rfl⟩:=sM h;obtain⟨⟨t2,q1,q2,q3⟩,q4,q5⟩:=cj.obj n _ hg;obtain rfl:te=t2:=aF (ht.symm.trans q1);obtain⟨v1,v2,v3,v4⟩:=hs;have hle:hi<=ys.length:=by rw[<-q4.n];exact v2
   have hvl:=mo (xs:=ys) (lo:=lo) hle;have hb:∀m∈[n],∃ob,σ (db m)= .o ob:=λm hm=>by rw[aZ]at hm;subst hm;exact⟨_,hg⟩
   cases hq:(c.P n).nil with
   |true=>
    have hy:=(q4.nil hq).1;subst hy;have RG:e8 ([]:aQ) lo hi=[]:=by unfold e8;simp
    rw[RG];exact⟨_,_,aml [n] hb (v3 hq) ex⟩
   |false=>
    obtain⟨vals,k1,k2,k3,k4,k5⟩:=q4.mem hq;rcases v4 hq with ⟨u1,hv⟩|⟨u1,oo,u2,hv⟩
    ·have Y7:∀i j,gp (e8 ys lo hi) i j->gp ys (lo+i) j:=by
      rintro i j ⟨y,x,h1,h2,h3⟩;rw[ua]at h1;split at h1
      ·exact⟨y,x,h1,h2,h3⟩
      ·cases h1
     refine⟨⟨ak,(c.P n).blk,(c.P n).off+lo*(c.P n).sz,(c.P n).cap-lo,hi-lo,(c.P n).sz⟩,λi j=>c.G n (lo+i) j,hv,q2,λy hy=>q3 y (DG hy),⟨hvl.symm,λh=>(by cases h),λ_=>⟨vals,k1,by show hi-lo<=(c.P n).cap-lo;omega,by show(c.P n).cap-lo<=maxLen;omega, ?_,λi y j x h1 h2=> ?_⟩⟩,λhx=>⟨λi j hh hn _=>(q5 hx).out _ j (Y7 i j hh) hn hq,λi j i' j' hh B5 hn kG he=> ?_⟩,λ_=>⟨n,_,by simp,hg, .inl ⟨hq,rfl⟩⟩,λhx i j hh hn=>⟨n,_,by simp,hg, .inr ⟨hx,lo+i,j,Y7 i j hh,hn,rfl⟩⟩,hb⟩
     ·show(c.P n).off+lo*(c.P n).sz+((c.P n).cap-lo)*(c.P n).sz<=vals.size;have:lo*(c.P n).sz+((c.P n).cap-lo)*(c.P n).sz=(c.P n).cap*(c.P n).sz:=by rw[<-dn];congr 1;omega
      omega
     ·rw[ua]at h1;split at h1
      ·obtain⟨u,hu,hr⟩:=k5 (lo+i) y j x h1 h2;refine⟨u, ?_, ?_⟩
       ·show vals[(c.P n).off+lo*(c.P n).sz+i*(c.P n).sz+j]? =ah u;rw[<-hu];congr 1;rw[dn];omega
       ·split at hr
        ·rename_i hx;rw[bB hx];cases x with
         |l e1 z1=>exact hr
         |_=>exact hr
        ·rename_i hx;rw[bH hx];exact hr
      ·cases h1
     ·have:=(q5 hx).one _ j _ j' (Y7 i j hh) (Y7 i' j' B5) hn kG he;exact⟨by omega,this.2⟩
    ·have h0:hi-lo=0:=by omega
     have RG:e8 ys lo hi=[]:=gj (hvl.trans h0);rw[RG];exact⟨⟨ak,(c.P n).blk,oo,0,0,(c.P n).sz⟩,MJ E te.ks,hv,q2,λy hy=>(by cases hy),⟨rfl,λh=>(by cases h),λ_=>⟨vals,k1,cJ _,bk _,by show oo+0*(c.P n).sz<=vals.size;rw[Nat.zero_mul];omega,λi y j x h=>(by simp at h)⟩⟩,λ_=>wz (λ_ _=>rfl),λ_=>⟨n,_,by simp,hg, .inl ⟨hq,rfl⟩⟩,λ_ i j ⟨y,x,h,_⟩=>(by simp at h),hb⟩
  |_=>simp at h
 |_=>simp[xF]at h
theorem rI{u:aC}(hu:(∃e',P.underlying u=ah (.slice e'))\/P.underlying u=ah .string){z:dp bn}{v:bn}{ys:aQ}{ks:az Ck}(k8:0<ks.length){R:aC->aC->bn->CV->Prop}(hs:oe w v ys ks.length R)(mE:∀y∈ys,y.map CV.kd=ks)(h1:∀i j u x,R i j u x->u.oneCell'=ai):
  ∃news,App P w u v z ks.length ys.length news/\∀(i:aC) (y:az CV) (j:aC) (x:CV),ys[i]? =ah y->y[j]? =ah x->∃u:bn,news[i*ks.length+j]? =ah u/\R i j u x:=by
 have hl:∀y∈ys,y.length=ks.length:=λy hy=>by rw[<-mE y hy];simp
 obtain⟨A,cp,news,rfl,n1,n2,n3⟩:=hs.list hl;have first:∀W:bJ,(∀q,W.cell? q=w.cell? q)->(fA ks.length ys.length (.slice A ys.length cp)).run P W= .ok news.toArray W:=by
  intro W hW;rcases n2 with h|⟨b,oo,rfl,h⟩
  ·subst h;have hn:news=[]:=gj (by rw[n1];simp);subst hn;cases A with
   |none=>exact run_firstCells_none _ _ _ _ _
   |some a=>exact run_firstCells_some W ks.length 0 a _ _ [] (by simp) (λj v hj=>by simp at hj)
  ·exact run_firstCells_some W ks.length ys.length _ _ _ news n1 (λj v hj=>by rw[hW,Addr.nZ];exact h j v hj)
 refine⟨news,⟨.inl ⟨hu,by simp[pB],first w (λ_=>rfl),first w.drew (λ_=>rfl)⟩,n1,λv hv=> ?_⟩,n3⟩
 obtain⟨q,hq⟩:=b7 hv;have YU:q<ys.length*ks.length:=by rw[<-n1];exact(aT.1 hq).1
 have hi:q/ks.length<ys.length:=by rw[yZ k8];exact YU
 have hj:q%ks.length<ys[q/ks.length].length:=by rw[hl _ (bu hi)];exact Et _ k8
 obtain⟨u',sq,hr⟩:=n3 (q/ks.length) ys[q/ks.length] (q%ks.length) (ys[q/ks.length][q%ks.length]) (by simp[hi]) (by simp[hj]);have:q/ks.length*ks.length+q%ks.length=q:=by have:=K8 q ks.length;rw[FF]at this;exact this
 rw[this,hq]at sq;cases sq;exact h1 _ _ _ _ hr
theorem Vg(hE:eH P E)(cj:Ok E σ w c){tH el:aC}{te:TI}(ht:E.ty el=ah te)(k8:0<te.ks.length){u:aC}(hu:(∃e',P.underlying u=ah (.slice e'))\/P.underlying u=ah .string){z:dp bn}{b:az aC}{x:AV}{v:bn}(hx:eL E w c x v)
  {B2:aY} {ys:aQ} {w2:az (aC×eR)} (h:(Vf E tH el te.ks b x).val σ=ah (B2,ys,w2)):
  ∃D news gx,w2=ka D/\App P w u v z te.ks.length ys.length news/\rh E σ w c te b B2 ys D news gx:=by
 have inK:∀D q,c.K q->K1 σ c D q:=λD q h=> .inl h;have PL:plain te.ks=ai->∀ys,oe w v ys te.ks.length (λ_ _ u x=>Sc u x)->(∀y∈ys,y.map CV.kd=te.ks)->∃D news gx,([]:az (aC×eR))=ka D/\App P w u v z te.ks.length ys.length news/\rh E σ w c te b ai ys D news gx:=by
  intro hp ys hs mE;obtain⟨news,n1,n2⟩:=rI (P:=P) (z:=z) hu k8 hs mE (λi j u x hr=>by rw[hr.1];exact KU);refine⟨[],news,λ_ _=>⟨ai,0,0,0,0,0⟩,rfl,n1,mE,λ_ i y j x hy hx=> ?_,λh=>(by cases h),λ_ i j _ hn=>(by cases hn),λ_ i j _ _ _ _ hn=>(by cases hn),λn x hn=>(by cases hn)⟩
  obtain⟨u,hu,hr⟩:=n2 i y j x hy hx;exact⟨_,hu,uJ (im hp (mE y (aR hy)) hx) hr⟩
 have PLr:plain te.ks=ai->∀ys,(mv E x).val σ=ah (el,ys)->∃D news gx,([]:az (aC×eR))=ka D/\App P w u v z te.ks.length ys.length news/\rh E σ w c te b ai ys D news gx:=by intro hp ys hr;obtain⟨q1,q2,_⟩:=Bz cj hx hr ht hp;exact PL hp ys q1 q2
 have SH:∀ys,oe w v ys te.ks.length (λ_ _ u x=>dg E w c.K u x)->(∀y∈ys,y.map CV.kd=te.ks)->∃D news gx,([]:az (aC×eR))=ka D/\App P w u v z te.ks.length ys.length news/\rh E σ w c te b ak ys D news gx:=by
  intro ys hs mE;obtain⟨news,n1,n2⟩:=rI (P:=P) (z:=z) hu k8 hs mE (λi j u x hr=>hr.one);refine⟨[],news,λ_ _=>⟨ai,0,0,0,0,0⟩,rfl,n1,mE,λh=>(by cases h),λ_ i y j x hy hx=> ?_,λh=>(by cases h),λh=>(by cases h),λn x hn=>(by cases hn)⟩
  obtain⟨u,hu,hr⟩:=n2 i y j x hy hx;exact⟨_,hu,hr.frame (λ_ _=>rfl) (inK [])⟩
 have SHv:∀ys,dg E w c.K v (.l el ys)->∃D news gx,([]:az (aC×eR))=ka D/\App P w u v z te.ks.length ys.length news/\rh E σ w c te b ak ys D news gx:=by intro ys hh;obtain⟨q1,q2⟩:=Bc ht hh;exact SH ys q1 q2
 have HP:∀ys,dg E w c.K v (.l el ys)->(mv E x).val σ=ah (el,ys)->∃D news gx,([]:az (aC×eR))=ka D/\App P w u v z te.ks.length ys.length news/\rh E σ w c te b (plain te.ks) ys D news gx:=by
  intro ys hh hr;cases hp:plain te.ks with
  |true=>exact PLr hp ys hr
  |false=>exact SHv ys hh
 have FZ:∀n xs lo hi,σ (db n)= .o (.row el ai xs)->n∉b->xE (c.P n) lo hi v->∃D news gx,[(db n,eR.o (.fV el xs))]=ka D/\App P w u v z te.ks.length (e8 xs lo hi).length news/\rh E σ w c te b ak (e8 xs lo hi) D news gx:=by
  intro n xs lo hi hg Mt hv;obtain⟨⟨t2,q1,q2,q3⟩,q4,q5⟩:=cj.obj n _ hg;obtain rfl:te=t2:=aF (ht.symm.trans q1);obtain⟨t3,r1,r2,r3⟩:=yG cj hg hv;obtain rfl:te=t3:=aF (ht.symm.trans r1);let D:az (aC×Obj):=[(n, .fV el xs)]
  have kin:∀i j,gp xs i j->(c.G n i j).nil=ak->K1 σ c D (c.G n i j).blk:=λi j hh hn=> .inr ⟨n,el,xs,_,aZ.2 rfl,hg, .inr ⟨rfl,i,j,hh,hn,rfl⟩⟩;have gk:jg w (c.P n) xs (λ_ _ u x=>dg E w (K1 σ c D) u x):=q4.frame (λ_=>rfl) (λi j y x u hy hx hr=>by rw[bB rfl]at hr;exact yV hr (λhl hn=>kin i j ⟨y,x,hy,hx,hl⟩ hn));have Fg:oe w v (e8 xs lo hi) te.ks.length (λ_ _ u x=>dg E w (K1 σ c D) u x):=by have:=Nc gk hv;rwa[q2]at this
  obtain⟨news,n1,n2⟩:=rI (P:=P) (z:=z) hu k8 Fg r2 (λi j u x hr=>hr.one);refine⟨D,news,λ_ _=>⟨ai,0,0,0,0,0⟩,rfl,n1,r2,λh=>(by cases h),λ_=>n2,λh=>(by cases h),λh=>(by cases h),λm y hm=> ?_⟩
  rw[aZ]at hm;cases hm;exact⟨Mt,⟨_,hg⟩, .inr ⟨rfl,el,xs,rfl,p9 ht q2 q3 gk (λhn=> .inr ⟨n,el,xs,_,aZ.2 rfl,hg, .inl ⟨hn,rfl⟩⟩),q4.n,te,ht,q2⟩⟩
 cases x with
 |s s=>
  obtain⟨h1,h⟩:=cR h;obtain⟨rfl,rfl,rfl⟩:=sM h;have hk:te.ks=[.i .u8]:=by
   unfold u8s at h1;split at h1
   ·assumption
   ·cases h1
  have hv:v= .string s:=hx.1;subst hv;refine⟨[],(s.data.map λb=>Value.int .u8 b.toNat).toList,λ_ _=>⟨ai,0,0,0,0,0⟩,rfl,⟨.inl ⟨hu, ?_, ?_, ?_⟩, ?_, ?_⟩,by rw[hk];exact KM s,λ_ i y j x hy hx=> ?_,λh=>(by cases h),λ_ i j _ hn=>(by cases hn),λ_ i j _ _ _ _ hn=>(by cases hn),λn x hn=>(by cases hn)⟩
  ·simp[pB,l8]
  ·simp[fA,l8];apply sC;simp
  ·simp[fA,l8];apply sC;simp
  ·rw[hk,l8];simp
  ·intro v hv;have hv:∃b,b∈s.data/\Value.int ba (b.toNat:aw)=v:=by simpa using hv
   obtain⟨b,_,rfl⟩:=hv;rfl
  ·obtain⟨rfl,b,hb,rfl⟩:=IK hy hx;refine⟨.int .u8 b.toNat, ?_,rfl,trivial⟩
   rw[hk];simp[hb]
 |nl=>obtain⟨rfl,rfl,rfl⟩:=sM h;have hv:v= .slice aj 0 0:=hx;subst hv;refine⟨[],[],λ_ _=>⟨ai,0,0,0,0,0⟩,rfl,⟨.inl ⟨hu,by simp[pB],run_firstCells_none _ _ _ _ _,run_firstCells_none _ _ _ _ _⟩,by simp,λv hv=>(by cases hv)⟩,λy hy=>(by cases hy),λ_ i y j x hy=>(by simp at hy),λh=>(by cases h),λ_ i j _ hn=>(by cases hn),λ_ i j _ _ _ _ hn=>(by cases hn),λn x hn=>(by cases hn)⟩
 |sh e' xs=>obtain⟨h1,h9⟩:=cR h;have:=aU h1;subst this;have h:=h9;obtain⟨rfl,rfl,rfl⟩:=sM h;exact HP xs hx rfl
 |own n=>
  obtain⟨ob,hg,h⟩:=Rd.bind_some h;have hg:=dy hg;have hv:v=lO (c.P n):=hx;cases ob with
  |row e' ex xs=>
   obtain⟨h1,h9⟩:=cR h;have:=aU h1;subst this;have h:=h9;have Kk:(mv E (.own n)).val σ=ah (el,xs):=by simp[mv,jI,hg]
   have hvw:xE (c.P n) 0 xs.length v:=by rw[hv];exact wG cj hg
   cases hp:plain te.ks with
   |true=>rw[xG (by rw[hp];rfl)]at h;obtain⟨rfl,rfl,rfl⟩:=sM h;rw[hp];exact PLr hp xs Kk
   |false=>
    cases ex with
    |false=>rw[xG (by simp)]at h;obtain⟨rfl,rfl,rfl⟩:=sM h;rw[hp];obtain⟨t3,r1,r2,r3⟩:=yG cj hg hvw;obtain rfl:te=t3:=aF (ht.symm.trans r1);rw[qO]at r2 r3;exact SH xs (r3.imp λi y j x u _ _ hr=>by simpa using hr) r2
    |true=>
     rw[F2 (by rw[hp];rfl)]at h;cases hm:mC n b with
     |true=>rw[hm]at h;simp at h
     |false=>
      have Mt:=qm hm;rw[hm]at h;cases Io:E.tk tH with
      |true=>rw[Io]at h;obtain⟨rfl,rfl,rfl⟩:=sM h;have:=FZ n xs 0 xs.length hg Mt hvw;rwa[qO]at this
      |false=>
       rw[Io]at h;obtain⟨rfl,rfl,rfl⟩:=sM h;obtain⟨t3,r1,r2,r3⟩:=yG cj hg hvw;obtain rfl:te=t3:=aF (ht.symm.trans r1);rw[qO]at r2 r3;have r3':=r3.imp (R':=λi j u x=>XC E w (c.G n) i j u x) (λi y j x u _ _ hr=>by rw[bB rfl,bT]at hr;exact hr);obtain⟨news,n1,n2⟩:=rI (P:=P) (z:=z) hu k8 r3' r2 (λi j u x hr=>hr.one);refine⟨[(n, .dead)],news,c.G n,rfl,n1,r2,λ_=>n2,λh=>(by cases h),λ_ i j hh hn=>⟨n,_,aZ.2 rfl,hg, .inr ⟨rfl,i,j,hh,hn,rfl⟩⟩,λ_=>((cj.obj n _ hg).mU rfl).one,λm y hm=> ?_⟩
       rw[aZ]at hm;cases hm;exact⟨Mt,⟨_,hg⟩, .inl rfl⟩
  |fV e' xs=>obtain⟨h1,h9⟩:=cR h;have:=aU h1;subst this;have h:=h9;obtain⟨rfl,rfl,rfl⟩:=sM h;refine HP xs ?_ (by simp[mv,jI,hg]);rw[hv];exact(cj.obj n _ hg).1
  |_=>simp at h
 |vw n lo hi=>
  obtain⟨ob,hg,h⟩:=Rd.bind_some h;have hg:=dy hg;cases ob with
  |row e' ex xs=>
   obtain⟨h1,h9⟩:=cR h;have:=aU h1;subst this;have h:=h9;have Kk:(mv E (.vw n lo hi)).val σ=ah (el,e8 xs lo hi):=by simp[mv,jI,hg]
   cases hp:plain te.ks with
   |true=>rw[xG (by rw[hp];rfl)]at h;obtain⟨rfl,rfl,rfl⟩:=sM h;rw[hp];exact PLr hp _ Kk
   |false=>
    cases ex with
    |false=>rw[xG (by simp)]at h;obtain⟨rfl,rfl,rfl⟩:=sM h;rw[hp];obtain⟨t3,r1,r2,r3⟩:=yG cj hg hx;obtain rfl:te=t3:=aF (ht.symm.trans r1);exact SH _ (r3.imp λi y j x u _ _ hr=>by simpa using hr) r2
    |true=>
     rw[F2 (by rw[hp];rfl)]at h;cases hm:mC n b with
     |true=>rw[hm]at h;simp at h
     |false=>
      have Mt:=qm hm;rw[hm]at h;cases Io:E.tk tH with
      |true=>rw[Io]at h;obtain⟨rfl,rfl,rfl⟩:=sM h;exact FZ n xs lo hi hg Mt hx
      |false=>rw[Io]at h;simp at h
  |fV e' xs=>obtain⟨h1,h9⟩:=cR h;have:=aU h1;subst this;have h:=h9;obtain⟨rfl,rfl,rfl⟩:=sM h;exact HP _ (po cj hg hx) (by simp[mv,jI,hg])
  |_=>simp at h
 |mU n i j=>obtain⟨h1,h⟩:=cR h;obtain⟨⟨e',xs⟩,h2,h⟩:=Rd.bind_some h;obtain⟨h3,h9⟩:=cR h;have:=aU h3;subst this;have h:=h9;obtain⟨rfl,rfl,rfl⟩:=sM h;exact PLr h1 xs h2
 |_=>simp[Vf]at h
theorem QY(hE:eH P E)(cj:Ok E σ w c)(dI:fC E σ a w c)(hd:∀d,o.dst=ah d->d<a.tmps.size){cl:Call}(ho:o.op= .call cl)(hb:cl.callee= .builtin .append)(h:(l_ E nm o).val σ=ah e)(hc:e.cond=ai):gV P E σ a w c o e.ws:=by
 simp only[l_,ho,hb]at h;split at h
 ·rename_i s x t u sk ahr;obtain⟨ku,h1,h⟩:=Rd.bind_some h;obtain⟨sv,h2,h⟩:=Rd.bind_some h;obtain⟨xv,h3,h⟩:=Rd.bind_some h;obtain⟨es,_⟩:=iW dI h2;obtain⟨ex,_⟩:=iW dI h3;have sk:=Eh sk;have ahr:=Eh ahr;have exec:∀{r w'},(iv #[t,u] o.type #[a.eval s,a.eval x]).run P w= .ok r w'->(execOp a.eval o).run P w= .ok (.value r) w':=by intro r w' hr;obtain⟨cs,Jh⟩:=mP (P:=P) (a:=a) (w:=w) ho hb;rw[Jh,sk,ahr];simp only[builtin,EJ,eC,CY];exact iT hr
  have APP:((∃e',P.underlying u=ah (.slice e'))\/P.underlying u=ah .string)->∀b v wl,(HV E nm t sv xv).val σ=ah (b,v,wl)->b=ai->gV P E σ a w c o (wl++dw o (.v ak [v])):=by
   intro hu b v wl h hbt;obtain⟨ti,k1,h⟩:=Rd.bind_some h;have k1:=dZ k1;split at h
   ·rename_i el uw B6;obtain⟨te,k2,h⟩:=Rd.bind_some h;have k2:=dZ k2;obtain⟨AL,h⟩:=cR h;obtain⟨⟨Eu,xs,bl⟩,k3,h⟩:=Rd.bind_some h;obtain⟨⟨B2,ys,w2⟩,k4,h⟩:=Rd.bind_some h;obtain⟨_,k5,h⟩:=Rd.bind_some h;obtain⟨rfl,rfl,rfl⟩:=sM h;obtain⟨hf,jb⟩:=kF k5;have ht:=pd hE k1 uw B6;obtain⟨inf,hi,fZ,hby,k8,hz⟩:=hE.info el te k2;obtain⟨z,Lb,Fj,_⟩:=hz AL;obtain⟨p,g,hB⟩:=Dd cj k2 es k3;obtain⟨D,news,gx,rfl,hA,hM⟩:=Vg (P:=P) (z:=z.cells) hE cj k2 k8 hu ex k4;simp only[cC,aK,bj]at hbt;obtain⟨p',w',hr,hAd⟩:=tQ (P:=P) (w:=w) (ty:=o.type) (p:=p) (x:=a.eval x) ht hi Lb (by rw[Fj,hB.sz];simp) (by rw[fZ,hB.sz]) (λhn=>by rw[hB.at_.n,(hB.at_.nil hn).1];rfl) (λhn=>by obtain⟨vals,m1,m2,m3,m4,_⟩:=hB.at_.mem hn;exact⟨vals,m1,m2,m3,m4⟩) (by rw[hB.sz];exact hA) (by rw[hB.at_.n,hby];exact hbt.1) (by rw[hB.at_.n];exact hbt.2);rw[<-hB.v]at hr;exact Gh cj dI hd k2 hf jb hB hM hAd (exec hr)
   ·simp at h
  have ZER:∀k,P.underlying u=ah (.int k)->∀(kn:nh) (n:aw),a.eval x= .int kn n->∀b v wl,(Xm E nm t sv n).val σ=ah (b,v,wl)->b=ai->gV P E σ a w c o (wl++dw o (.v ak [v])):=by
   intro k hu kn n hxn b v wl h hbt;obtain⟨ti,k1,h⟩:=Rd.bind_some h;have k1:=dZ k1;split at h
   ·rename_i el uw B6;obtain⟨te,k2,h⟩:=Rd.bind_some h;have k2:=dZ k2;obtain⟨RE,h⟩:=cR h;simp only[aK]at RE;obtain⟨AL,QE⟩:=RE;obtain⟨⟨Eu,xs,bl⟩,k3,h⟩:=Rd.bind_some h;obtain⟨_,k5,h⟩:=Rd.bind_some h;obtain⟨rfl,rfl,rfl⟩:=sM h;obtain⟨hf,jb⟩:=kF k5;have ht:=pd hE k1 uw B6;obtain⟨inf,hi,fZ,hby,k8,hz⟩:=hE.info el te k2;obtain⟨z,Lb,Fj,_⟩:=hz AL;obtain⟨p,g,hB⟩:=Dd cj k2 es k3;simp only[cC,aK,bj]at hbt;obtain⟨⟨c0,c1,c2⟩,c3⟩:=hbt;have My:(aN te.ks n.toNat).length=n.toNat:=by simp[aN]
    have hzc:fO z.cells n.toNat=madeCells (te.ks.map iH).toArray (n.toNat*te.ks.length):=by rw[Fj];show madeCells _ (n.toNat*(te.ks.map iH).toArray.size)=_;simp
    have hA:App P w u (a.eval x) z.cells te.ks.length (aN te.ks n.toNat).length (fO z.cells n.toNat).toList:=by
     refine⟨.inr ⟨⟨k,hu⟩,⟨kn, ?_⟩, ?_⟩, ?_,λv hv=> ?_⟩
     ·rw[hxn,My,Int.toNat_of_nonneg c0]
     ·rw[My]
     ·rw[My,dW,size_zeroCells,Fj];simp
     ·rw[hzc]at hv;obtain⟨q,hq⟩:=b7 hv;have YU:q<n.toNat*te.ks.length:=by have:=(aT.1 hq).1;simpa [size_madeCells]using this
      have h1:q/te.ks.length<n.toNat:=by rw[yZ k8];exact YU
      have h2:q%te.ks.length<te.ks.length:=Et _ k8;have:=lP (n:=n.toNat) h1 (show te.ks[q%te.ks.length]? =ah te.ks[q%te.ks.length]by simp[h2]);rw[show q/te.ks.length*te.ks.length+q%te.ks.length=q by have:=K8 q te.ks.length;rw[FF]at this;exact this]at this;rw[cZ,this]at hq;cases hq;cases te.ks[q%te.ks.length]<;>rfl
    have hM:rh E σ w c te bl ai (aN te.ks n.toNat) [] (fO z.cells n.toNat).toList (MJ E te.ks):=by
     refine⟨yW AL _,λ_ i y j x hy hx=> ?_,λh=>(by cases h),λ_ i j _ hn=>(by cases hn),λ_ i j _ _ _ _ hn=>(by cases hn),λn x hn=>(by cases hn)⟩
     obtain⟨fP,k,hk,rfl⟩:=uM hy hx;refine⟨iH k, ?_,P3 QE AL hk⟩
     rw[hzc,cZ];exact lP fP hk
    obtain⟨p',w',hr,hAd⟩:=tQ (P:=P) (w:=w) (ty:=o.type) (p:=p) (x:=a.eval x) ht hi Lb (by rw[Fj,hB.sz];simp) (by rw[fZ,hB.sz]) (λhn=>by rw[hB.at_.n,(hB.at_.nil hn).1];rfl) (λhn=>by obtain⟨vals,m1,m2,m3,m4,_⟩:=hB.at_.mem hn;exact⟨vals,m1,m2,m3,m4⟩) (by rw[hB.sz];exact hA) (by rw[hB.at_.n,hby,My];exact c1) (by rw[hB.at_.n,My];exact c2);rw[<-hB.v]at hr;have:=Gh cj dI hd k2 hf jb hB hM hAd (exec hr);rw[j4]at this;exact this
   ·simp at h
  cases ku with
  |i k=>
   cases xv with
   |i k' n=>obtain⟨⟨b,v,wl⟩,h4,h⟩:=Rd.bind_some h;obtain rfl:=aF h;exact ZER k (AP hE h1) k' n ex b v wl h4 hc
   |_=>simp at h
  |l e'=>obtain⟨⟨b,v,wl⟩,h4,h⟩:=Rd.bind_some h;obtain rfl:=aF h;exact APP (.inl ⟨e',kI hE h1⟩) b v wl h4 hc
  |s=>obtain⟨⟨b,v,wl⟩,h4,h⟩:=Rd.bind_some h;obtain rfl:=aF h;exact APP (.inr (k_ hE h1)) b v wl h4 hc
  |b=>simp at h
  |o=>simp at h
 ·simp at h
end
end Go.FG

namespace Go.FG
section
variable {P:c6} {E:fS} {σ:St} {a:Act} {w:bJ} {c:e9} {o:fB} {nm:aC} {e:sV}
theorem Yp:∀{xs:az AV} {cs:az CV},(TR.agH xs).val σ=ah cs->cs.length=xs.length/\∀(vals:dp bn),gf E w c vals xs->∀(q:aC) (x:CV),cs[q]? =ah x->∃u:bn,vals[q]? =ah u/\dg E w c.K u x:=by
 intro xs;induction xs with
 |nil=>intro cs h;obtain rfl:=aF h;exact⟨rfl,λ_ _ q x hq=>by simp at hq⟩
 |cons a xs ih=>
  intro cs h;obtain⟨l,h1,h⟩:=Rd.bind_some h;obtain⟨i1,i2⟩:=ih h1;have main:∀cv,(∀u,eL E w c a u->dg E w c.K u cv)->cs=cv::l->cs.length=(a::xs).length/\∀(vals:dp bn),gf E w c vals (a::xs)->∀(q:aC) (x:CV),cs[q]? =ah x->∃u:bn,vals[q]? =ah u/\dg E w c.K u x:=by
   rintro cv hcv rfl;refine⟨by simp[i1],λvals hv q x hq=> ?_⟩
   cases q with
   |zero=>cases hq;obtain⟨u,hu,ha⟩:=hv.2 0 a rfl;exact⟨u,hu,hcv u ha⟩
   |succ q=>
    have OQ:gf E w c (vals.extract 1 vals.size) xs:=by
     refine⟨by simp;have:=hv.1;simp at this;omega,λj b hj=> ?_⟩
     obtain⟨u,hu,hb⟩:=hv.2 (j+1) b hj;refine⟨u, ?_,hb⟩
     have:=(dY.1 hu).1;rw[eh,bB (by omega),iY];exact hu
    obtain⟨u,r1,r2⟩:=i2 _ OQ q x hq;refine⟨u, ?_,r2⟩
    rw[eh]at r1;split at r1
    ·rw[iY];exact r1
    ·cases r1
  cases a with
  |i k n=>exact main (.i k n) (λu hu=>by rw[show u=_ from hu];exact .i _ _) (aF h).symm
  |b x=>exact main (.b x) (λu hu=>by rw[show u=_ from hu];exact .b _) (aF h).symm
  |s x=>exact main (.s x) (λu hu=>by rw[show u=_ from hu.1];exact .s _ hu.2) (aF h).symm
  |sh e xs=>exact main (.l e xs) (λu hu=>hu) (aF h).symm
  |_=>simp at h
def ajP(E:fS)(σ:St)(w:bJ)(c:e9)(D:az (aC×Obj))(cs:az CV)(v:bn):Prop:=
 ∃n,v= .pointer (ah (ad (c.P n).blk 0))/\(((n,Obj.n5 cs)∈D)\/σ (db n)= .o (.n5 cs))
theorem Yq(cj:Ok E σ w c)(dI:fC E σ a w c):∀{xs:az dx} {l:az (az CV)} {ws:az (aC×eR)},(TR xs).val σ=ah (l,ws)->l.length=xs.length/\∃D,ws=ka D/\
  (∀n x,(n,x)∈D->∃cs ys,x= .n5 cs/\σ (db n)= .o (.box ys)/\∀(q:aC) (y:CV),cs[q]? =ah y->∃u:bn,w.cell? (ad (c.P n).blk q)=ah u/\dg E w c.K u y)/\
  ∀(q:aC) (cs:az CV),l[q]? =ah cs->∃x,xs[q]? =ah x/\ajP E σ w c D cs (a.eval x):=by
 intro xs;induction xs with
 |nil=>intro l ws h;obtain⟨rfl,rfl⟩:=bV (aF h);exact⟨rfl,[],rfl,λn x h=>(by cases h),λq cs h=>by simp at h⟩
 |cons x xs ih=>
  intro l ws h;obtain⟨v,h1,h⟩:=Rd.bind_some h;have hv:=(iW dI h1).1;split at h
  ·rename_i n;obtain⟨ob,hg,h⟩:=Rd.bind_some h;have hg:=dy hg;have hv:a.eval x= .pointer (ah (ad (c.P n).blk 0)):=hv;cases ob with
   |box ys=>
    obtain⟨cs,h2,h⟩:=Rd.bind_some h;obtain⟨⟨l',Ft⟩,h3,h⟩:=Rd.bind_some h;obtain⟨rfl,rfl⟩:=bV (aF h);obtain⟨i1,D,rfl,i2,i3⟩:=ih h3;obtain⟨_,c2⟩:=Yp (E:=E) (w:=w) (c:=c) h2;obtain⟨vals,hb,fZ,hcv⟩:=cj.obj n _ hg;refine⟨by simp[i1],(n, .n5 cs)::D,rfl,λm y hm=> ?_,λq cs' hq=> ?_⟩
    ·rcases cB.1 hm with hm|hm
     ·cases hm;refine⟨cs,ys,rfl,hg,λq y hq=> ?_⟩
      obtain⟨u,hu,hh⟩:=c2 vals ⟨fZ,hcv⟩ q y hq;exact⟨u,(hb.cell q).trans hu,hh⟩
     ·exact i2 m y hm
    ·cases q with
     |zero=>cases hq;exact⟨x,rfl,n,hv, .inl (dL ..)⟩
     |succ q=>obtain⟨x',pE,m,e1,e2⟩:=i3 q cs' hq;exact⟨x',pE,m,e1,e2.imp (c9 _) id⟩
   |n5 cs=>
    obtain⟨⟨l',Ft⟩,h3,h⟩:=Rd.bind_some h;obtain⟨rfl,rfl⟩:=bV (aF h);obtain⟨i1,D,rfl,i2,i3⟩:=ih h3;refine⟨by simp[i1],D,rfl,i2,λq cs' hq=> ?_⟩
    cases q with
    |zero=>cases hq;exact⟨x,rfl,n,hv, .inr hg⟩
    |succ q=>exact i3 q cs' hq
   |_=>simp at h
  ·simp at h
theorem KD(cj:Ok E σ w c)(dI:fC E σ a w c)(hd:∀d,o.dst=ah d->d<a.tmps.size){fn:Fn}{first iQ:dp dx}(ho:o.op= .makeFunc fn first iQ)(h:(l_ E nm o).val σ=ah e):gV P E σ a w c o e.ws:=by
 cases fn with
 |func f=>
  simp only[l_,ho]at h;obtain⟨h1,h⟩:=cR h;obtain⟨⟨l,ws⟩,h2,h⟩:=Rd.bind_some h;obtain rfl:=aF h;obtain⟨hl,D,rfl,hD,QD⟩:=Yq cj dI h2;have OM:first= #[]:=by simpa using h1
  let K':aC->Prop:=λb=>c.K b\/∃n x,(n,x)∈D/\b=(c.P n).blk;let c':e9:=⟨c.P,c.G,K'⟩
  have kin:∀b,c.K b->K' b:=λb h=> .inl h;have own:∀n x,(n,x)∈D->j5 (uN D) σ c (c.P n).blk:=λn x hm=>by obtain⟨cs,ys,_,hg,_⟩:=hD n x hm;exact⟨n,_,⟨x,hm⟩,hg,rfl⟩
  have fb:∀n cs,(n,Obj.n5 cs)∈D->FB E w K' (c.P n).blk cs:=λn cs hm=>by obtain⟨cs',ys,hx,hg,hc⟩:=hD n _ hm;cases hx;exact⟨.inr ⟨n,_,hm,rfl⟩,λq x hq=>by obtain⟨u,hu,hh⟩:=hc q x hq;exact⟨u,hu,hh.frame (λ_ _=>rfl) kin⟩⟩
  refine Mg cj dI hd (c':=c') (w':=w) (v:= .func (.func f) #[] (iQ.map a.eval)) (λm _=>⟨rfl,rfl⟩) ?_ ?_ ?_ ?_ kin ?_ ?_ (λb _ _=>rfl) (cJ _) rfl rfl rfl ?_ ?_ ?_
  ·intro n x hm;obtain⟨cs,ys,rfl,hg,hc⟩:=hD n x hm;exact fb n cs hm
  ·intro n x b hm hf;obtain⟨cs,ys,rfl,_⟩:=hD n x hm;exact hf.elim
  ·intro n x n' x' b hm _ hf;obtain⟨cs,ys,rfl,_⟩:=hD n x hm;exact hf.elim
  ·intro n xs hm;obtain⟨cs,ys,hx,_⟩:=hD n _ hm;cases hx
  ·rintro b (h|⟨n,x,hm,rfl⟩)
   ·exact .inl h
   ·exact .inr (.inl (own n x hm))
  ·rintro b (h|⟨n,x,hm,rfl⟩)
   ·exact cj.lt b h
   ·exact wW.lt cj (own n x hm).own
  ·refine⟨iQ.map a.eval,rfl,by simp[hl],λq cs hq=> ?_⟩
   obtain⟨x,hx,n,hv,hor⟩:=QD q cs hq;rw[cZ]at hx;refine⟨(c.P n).blk,by rw[P5,hx,<-hv];rfl, ?_⟩
   rcases hor with hm|hg
   ·exact fb n cs hm
   ·exact FB.frame (cj.obj n _ hg) (λ_ _=>rfl) kin
  ·intro n hn;simp[cM,bN]at hn
  ·unfold execOp;rw[ho,OM];refine iT (s:=Xq (.func f) ((#[]:dp dx).map a.eval) (iQ.map a.eval)) ?_;simp[Xq]
 |_=>simp[l_,ho]at h
end
end Go.FG

namespace Go.FG
theorem nT:∀{l:az (aC×eR)} {k:aC} {c:eR},fN l k=c->c≠ .jZ->(k,c)∈l:=by
 intro l;induction l with
 |nil=>intro k c h hc;exact cS h.symm hc
 |cons d l ih=>
  obtain⟨k',c'⟩:=d;intro k c h hc;unfold fN at h;cases hb:bD k k' with
  |true=>rw[hb]at h;have:=aU hb;subst this;have:c'=c:=h;subst this;exact dL ..
  |false=>rw[hb]at h;exact c9 _ (ih h hc)
theorem rZ:∀{l:az (aC×eR)} {k:aC} {c:eR},(k,c)∈l->(∀d∈l,d.2≠ .jZ)->fN l k≠ .jZ:=by
 intro l;induction l with
 |nil=>intro k c h;cases h
 |cons d l ih=>
  obtain⟨k',c'⟩:=d;intro k c h hn;unfold fN;cases hb:bD k k' with
  |true=>exact hn _ (dL ..)
  |false=>
   rcases cB.1 h with h|h
   ·cases h;simp at hb
   ·exact ih h (λd hd=>hn d (c9 _ hd))
theorem QV{nm:aC}{a:AA}{k:aC}{c:eR}:(k,c)∈Gm nm a↔∃e ex xs,a= .ow e ex xs/\k=db nm/\c= .o (.row e ex xs):=by
 cases a with
 |ow e ex xs=>simp only[Gm,aZ,jd];exact⟨λ⟨h1,h2⟩=>⟨e,ex,xs,rfl,h1,h2⟩,λ⟨e',uv,Nm,h,h1,h2⟩=>by cases h;exact⟨h1,h2⟩⟩
 |_=>simp[Gm]
theorem DE:∀{xs:az AA} {nm:aC} {k:aC} {c:eR},(k,c)∈tB nm xs↔∃j e ex ys,xs[j]? =ah (.ow e ex ys)/\k=db (nm+j)/\c= .o (.row e ex ys):=by
 intro xs;induction xs with
 |nil=>intro nm k c;simp[tB]
 |cons a xs ih=>
  intro nm k c;simp only[tB,bf,QV,ih];constructor
  ·rintro (⟨e,ex,ys,rfl,h1,h2⟩|⟨j,e,ex,ys,h0,h1,h2⟩)
   ·exact⟨0,e,ex,ys,rfl,h1,h2⟩
   ·exact⟨j+1,e,ex,ys,h0,by rw[h1];congr 1;omega,h2⟩
  ·rintro ⟨j,e,ex,ys,h0,h1,h2⟩;cases j with
   |zero=>cases h0;exact .inl ⟨e,ex,ys,rfl,h1,h2⟩
   |succ j=>exact .inr ⟨j,e,ex,ys,h0,by rw[h1];congr 1;omega,h2⟩
theorem iB{p:aC}{a:fj}{k:aC}{c:eR}:(k,c)∈vu p a↔(∃xs,a= .pt xs/\k=db (dX p 900)/\c= .o (.box (gE (dX p 0) xs)))\/∃xs j e ex ys,((∃g,a= .v g xs)\/a= .pt xs)/\xs[j]? =ah (.ow e ex ys)/\k=db (dX p j)/\c= .o (.row e ex ys):=by
 have hn:∀j,dX p 0+j=dX p j:=λj=>by unfold dX;omega
 cases a with
 |v g xs=>
  simp only[vu,DE,hn];constructor
  ·rintro ⟨j,e,ex,ys,h⟩;exact .inr ⟨xs,j,e,ex,ys, .inl ⟨g,rfl⟩,h⟩
  ·rintro (⟨Nm,h,_⟩|⟨Nm,j,e,ex,ys,h,h'⟩)
   ·cases h
   ·rcases h with ⟨g',h⟩|h<;>cases h;exact⟨j,e,ex,ys,h'⟩
 |pt xs=>
  simp only[vu,cB,DE,hn,jd];constructor
  ·rintro (⟨h1,h2⟩|⟨j,e,ex,ys,h⟩)
   ·exact .inl ⟨xs,rfl,h1,h2⟩
   ·exact .inr ⟨xs,j,e,ex,ys, .inr rfl,h⟩
  ·rintro (⟨Nm,h,h1,h2⟩|⟨Nm,j,e,ex,ys,h,h'⟩)
   ·cases h;exact .inl ⟨h1,h2⟩
   ·rcases h with ⟨g',h⟩|h<;>cases h;exact .inr ⟨j,e,ex,ys,h'⟩
 |fb xs=>
  simp only[vu,lK,false_iff];rintro (⟨Nm,h,_⟩|⟨Nm,j,e,ex,ys,h,h'⟩)
  ·cases h
  ·rcases h with ⟨g',h⟩|h<;>cases h
theorem lQ:∀{l:az fj} {q:aC} {k:aC} {c:eR},(k,c)∈Mz q l↔∃p a,l[p]? =ah a/\((k=qn (q+p)/\c= .v (tC (q+p) a))\/(k,c)∈vu (q+p) a):=by
 intro l;induction l with
 |nil=>intro q k c;simp[Mz]
 |cons a l ih=>
  intro q k c;simp only[Mz,cB,bf,ih,jd];constructor
  ·rintro ((⟨h1,h2⟩|h)|⟨p,b,h0,h⟩)
   ·exact⟨0,a,rfl, .inl ⟨h1,h2⟩⟩
   ·exact⟨0,a,rfl, .inr h⟩
   ·exact⟨p+1,b,h0,by rw[show q+(p+1)=q+1+p by omega];exact h⟩
  ·rintro ⟨p,b,h0,h⟩;cases p with
   |zero=>
    cases h0;rcases h with ⟨h1,h2⟩|h
    ·exact .inl (.inl ⟨h1,h2⟩)
    ·exact .inl (.inr h)
   |succ p=>exact .inr (⟨p,b,h0,by rw[show q+1+p=q+(p+1)by omega];exact h⟩)
theorem Kn{l:az fj}{q:aC}:∀d∈Mz q l,d.2≠ .jZ:=by
 rintro ⟨k,c⟩ h;obtain⟨p,a,_,h⟩:=lQ.1 h;rcases h with ⟨_,h⟩|h
 ·rw[h];simp
 ·rcases iB.1 h with ⟨_,_,_,h⟩|⟨_,_,_,_,_,_,_,_,h⟩<;>rw[h]<;>simp
theorem Cz{args:az fj}{m:aC}{ob:Obj}(h:inj args (db m)= .o ob):∃p a,args[p]? =ah a/\((∃xs,a= .pt xs/\m=dX p 900/\ob= .box (gE (dX p 0) xs))\/∃xs j e ex ys,((∃g,a= .v g xs)\/a= .pt xs)/\xs[j]? =ah (.ow e ex ys)/\m=dX p j/\ob= .row e ex ys):=by
 obtain⟨p,a,h0,h⟩:=lQ.1 (nT h (by simp));rw[bT]at h;refine⟨p,a,h0, ?_⟩
 rcases h with ⟨h,_⟩|h
 ·exact cS h (mh _ _)
 ·rcases iB.1 h with ⟨xs,h1,h2,h3⟩|⟨xs,j,e,ex,ys,h1,h2,h3,h4⟩
  ·cases h3;exact .inl ⟨xs,h1,jW h2,rfl⟩
  ·cases h4;exact .inr ⟨xs,j,e,ex,ys,h1,h2,jW h3,rfl⟩
theorem Kp{args:az fj}{n:aC}:(∃a,args[n]? =ah a/\slot (inj args) n=tC n a)\/slot (inj args) n= .un:=by
 unfold slot;cases h:inj args (qn n)with
 |v x=>
  obtain⟨p,a,h0,h⟩:=lQ.1 (nT h (by simp));rw[bT]at h;rcases h with ⟨h1,h2⟩|h
  ·have:=IU h1;subst this;cases h2;exact .inl ⟨a,h0,rfl⟩
  ·rcases iB.1 h with ⟨_,_,h,_⟩|⟨_,_,_,_,_,_,_,h,_⟩<;>exact cS h (rX _ _)
 |o=>exact .inr rfl
 |jZ=>exact .inr rfl
theorem qG{args:az fj}{p:aC}{a:fj}(h:args[p]? =ah a):(∀xs,a= .pt xs->inj args (db (dX p 900))≠ .jZ)/\∀xs j e ex ys,((∃g,a= .v g xs)\/a= .pt xs)->xs[j]? =ah (.ow e ex ys)->inj args (db (dX p j))≠ .jZ:=by
 constructor
 ·intro xs hx;exact rZ (lQ.2 ⟨p,a,h, .inr (iB.2 (.inl ⟨xs,hx,by rw[bT],rfl⟩))⟩) Kn
 ·intro xs j e ex ys hx hj;exact rZ (lQ.2 ⟨p,a,h, .inr (iB.2 (.inr ⟨xs,j,e,ex,ys,hx,hj,by rw[bT],rfl⟩))⟩) Kn
theorem iD:∀{xs:az AA} {nm j:aC},(gE nm xs)[j]? =(xs[j]?).map (lk (nm+j)):=by
 intro xs;induction xs with
 |nil=>intro nm j;simp[gE]
 |cons a xs ih=>
  intro nm j;cases j with
  |zero=>rfl
  |succ j=>simp only[gE,dO,ih];congr 2;omega
theorem iP:∀{xs:az AA} {nm:aC},(gE nm xs).length=xs.length:=by
 intro xs;induction xs with
 |nil=>intro nm;rfl
 |cons a xs ih=>intro nm;simp[gE,ih]
theorem tG{nm:aC}{a:AA}{n:aC}(h:n∈bN (lk nm a)):n=nm/\∃e ex ys,a= .ow e ex ys:=by cases a<;>simp[lk,bN]at h;exact⟨h,_,_,_,rfl⟩
theorem Ko{args:az fj}(n:aC):mJ (inj args) (slot (inj args) n):=by
 rcases Kp (args:=args) (n:=n)with ⟨a,h0,h⟩|h
 ·rw[h];intro m hm;have cells:∀xs,((∃g,a= .v g xs)\/a= .pt xs)->m∈(gE (dX n 0) xs).flatMap bN->inj args (db m)≠ .jZ:=by
   intro xs hx hm;obtain⟨v,hv,hm⟩:=bL.1 hm;obtain⟨j,hj⟩:=b7 hv;rw[iD]at hj;cases hy:xs[j]? with
   |none=>rw[hy]at hj;cases hj
   |some y=>
    rw[hy]at hj;cases hj;obtain⟨rfl,e,ex,ys,rfl⟩:=tG hm;have:=(qG h0).2 xs j e ex ys hx hy;have hn:dX n 0+j=dX n j:=by unfold dX;omega
    rw[hn];exact this
  cases a with
  |v g xs=>exact cells xs (.inl ⟨g,rfl⟩) hm
  |pt xs=>
   have:m=dX n 900:=by simpa [tC,cM,bN]using hm
   rw[this];exact(qG h0).1 xs rfl
  |fb xs=>simp[tC,cM,bN]at hm
 ·rw[h];intro m hm;simp[cM]at hm
theorem Ip{args:az fj}{nm:aC}{xs:az AV}(h:inj args (db nm)= .o (.box xs)):∀a∈xs,jf (inj args) a:=by
 obtain⟨p,a,h0,hh⟩:=Cz h;rcases hh with ⟨ys,rfl,_,hb⟩|⟨_,_,_,_,_,_,_,_,hb⟩
 ·cases hb;intro v hv m hm;obtain⟨j,hj⟩:=b7 hv;rw[iD]at hj;cases hy:ys[j]? with
  |none=>rw[hy]at hj;cases hj
  |some y=>
   rw[hy]at hj;cases hj;obtain⟨rfl,e,ex,zs,rfl⟩:=tG hm;have:=(qG h0).2 ys j e ex zs (.inr rfl) hy;have hn:dX p 0+j=dX p j:=by unfold dX;omega
   rw[hn];exact this
 ·cases hb
end Go.FG

namespace Go.FG
theorem uD{p j:aC}(h:j<1000):(dX p j-900000000)/1000=p/\(dX p j-900000000)%1000=j:=by unfold dX;omega
theorem DL(p j:aC):900000000<=dX p j:=by unfold dX;omega
theorem uE{p j p' j':aC}(h:j<1000)(h':j'<1000)(e:dX p j=dX p' j'):p=p'/\j=j':=by unfold dX at e;omega
section
variable {P:c6} {E:fS} {σ:St} {a:Act} {w:bJ} {c:e9} {o:fB} {nm:aC} {e:sV}
theorem rW(cj:Ok E σ w c){n el:aC}{ex:aY}{xs:aQ}(hg:σ (db n)= .o (.row el ex xs)){K:aC->Prop}(hK:∀b,c.K b->K b)(hF:∀b,fM c n (.row el ex xs) b->K b):dg E w K (lO (c.P n)) (.l el xs):=by
 obtain⟨⟨t2,q1,q2,q3⟩,q4,q5⟩:=cj.obj n _ hg;refine p9 q1 q2 q3 (q4.frame (λ_=>rfl) (λi j y x u hy hx hr=> ?_)) (λhn=>hF _ (.inl ⟨hn,rfl⟩));split at hr
 ·rename_i pE;exact yV hr (λhl hn=>hF _ (.inr ⟨pE,i,j,⟨y,x,hy,hx,hl⟩,hn,rfl⟩))
 ·exact hr.frame (λ_ _=>rfl) hK
theorem GK(cj:Ok E σ w c){n el:aC}{ex:aY}{xs:aQ}(hg:σ (db n)= .o (.row el ex xs)){K:aC->Prop}(hK:∀b,c.K b->K b)(hF:∀b,fM c n (.row el ex xs) b->K b){lo hi:aC}{v:bn}(hv:xE (c.P n) lo hi v):dg E w K v (.l el (e8 xs lo hi)):=by obtain⟨⟨t2,q1,q2,q3⟩,q4,q5⟩:=cj.obj n _ hg;exact Ki q1 (rW cj hg hK hF) q4.n q2 hv
def K1r(σ:St)(c:e9)(nH:az aC)(b:aC):Prop:=c.K b\/∃n∈nH,∃o,σ (db n)= .o o/\fM c n o b
def vQ(T:Tab)(σ:St)(w:bJ)(c:e9)(nH:az aC)(k:Pk)(u:bn):Prop:=
 match k.src with
 | .own nm e ex=>∃xs,σ (db nm)= .o (.row e ex xs)/\k.a= .ow e ex xs/\u=lO (c.P nm)
 | .no=>(∀c1:e9,(∀b,K1r σ c nH b->c1.K b)->∀nm,eL T w c1 (lk nm k.a) u)/\∀e ex xs,k.a≠ .ow e ex xs
theorem vQ.mono{T:Tab}{nH V_:az aC}{k:Pk}{u:bn}(h:vQ T σ w c nH k u)(hs:∀n∈nH,n∈V_):vQ T σ w c V_ k u:=by
 unfold vQ at h⊢;split
 ·rename_i hk;rw[hk]at h;exact h
 ·rename_i hk;rw[hk]at h;exact⟨λc1 h1=>h.1 c1 (λb hb=>h1 b (hb.imp id (λ⟨n,hn,hh⟩=>⟨n,hs n hn,hh⟩))),h.2⟩
theorem DY(cj:Ok E σ w c){mt:aY}{x:AV}{k:Pk}{u:bn}(h:(Bw E mt x).val σ=ah k)(hx:eL E w c x u):vQ E σ w c k.rd k u:=by
 have rd:∀{n el:aC} {ex:aY} {xs:aQ},σ (db n)= .o (.row el ex xs)->∀c1:e9,(∀b,K1r σ c [n] b->c1.K b)->(∀b,c.K b->c1.K b)/\∀b,fM c n (.row el ex xs) b->c1.K b:=λhg c1 h=>⟨λb hb=>h b (.inl hb),λb hb=>h b (.inr ⟨_,aZ.2 rfl,_,hg,hb⟩)⟩
 cases x with
 |i=>obtain rfl:=aF h;exact⟨λc1 _ _=>hx,λ_ _ _ hh=>by cases hh⟩
 |b=>obtain rfl:=aF h;exact⟨λc1 _ _=>hx,λ_ _ _ hh=>by cases hh⟩
 |s=>obtain rfl:=aF h;exact⟨λc1 _ _=>hx,λ_ _ _ hh=>by cases hh⟩
 |nl=>obtain rfl:=aF h;exact⟨λc1 _ _=>hx,λ_ _ _ hh=>by cases hh⟩
 |sh e xs=>obtain rfl:=aF h;exact⟨λc1 h1 _=>dg.frame hx (λ_ _=>rfl) (λb hb=>h1 b (.inl hb)),λ_ _ _ hh=>by cases hh⟩
 |fn f iQ=>obtain rfl:=aF h;exact⟨λc1 h1 _=>eL.frame (a:= .fn f iQ) hx (λ_ _=>rfl) (λb hb=>h1 b (.inl hb)) (λn hn=>by simp[bN]at hn),λ_ _ _ hh=>by cases hh⟩
 |own n=>
  obtain⟨ob,hg,h⟩:=Rd.bind_some h;have hg:=dy hg;have hx:u=lO (c.P n):=hx;cases ob with
  |row el ex xs=>
   cases mt with
   |true=>obtain rfl:=aF h;exact⟨xs,hg,rfl,hx⟩
   |false=>
    obtain rfl:=aF h;refine⟨λc1 h1 _=> ?_,λ_ _ _ hh=>by cases hh⟩
    obtain⟨r1,r2⟩:=rd hg c1 h1;rw[hx];exact rW cj hg r1 r2
  |fV el xs=>
   obtain rfl:=aF h;refine⟨λc1 h1 _=> ?_,λ_ _ _ hh=>by cases hh⟩
   rw[hx];exact dg.frame (cj.obj n _ hg).1 (λ_ _=>rfl) (λb hb=>h1 b (.inl hb))
  |_=>simp at h
 |vw n lo hi=>
  cases mt with
  |true=>simp[Bw]at h
  |false=>
  obtain⟨ob,hg,h⟩:=Rd.bind_some h;have hg:=dy hg;cases ob with
  |row el ex xs=>
   obtain rfl:=aF h;refine⟨λc1 h1 _=> ?_,λ_ _ _ hh=>by cases hh⟩
   obtain⟨r1,r2⟩:=rd hg c1 h1;exact GK cj hg r1 r2 hx
  |fV el xs=>
   obtain rfl:=aF h;refine⟨λc1 h1 _=> ?_,λ_ _ _ hh=>by cases hh⟩
   exact dg.frame (po cj hg hx) (λ_ _=>rfl) (λb hb=>h1 b (.inl hb))
  |_=>simp at h
 |mU n i j=>
  obtain⟨ob,hg,h⟩:=Rd.bind_some h;have hg:=dy hg;cases ob with
  |row el ex xs=>
   cases ex with
   |false=>simp at h
   |true=>
   obtain⟨te,ht,h⟩:=Rd.bind_some h;have ht:=dZ ht;split at h
   ·rename_i e2 zA;obtain⟨t2,Im,h⟩:=Rd.bind_some h;obtain⟨_,h⟩:=cR h;obtain rfl:=aF h;obtain⟨⟨hi,hx⟩,_⟩:=hx;obtain⟨zs,y,t3,q1,q2,q3,q4,q5,q6,q7,q8⟩:=CA cj hg ht zA hi;refine⟨λc1 h1 _=> ?_,λ_ _ _ hh=>by cases hh⟩
    show dg E w c1.K u (.l e2 (gD (ar xs i j)));rw[fD q1 q2,hx];obtain⟨r1,r2⟩:=rd hg c1 h1;exact p9 q3 q5 q6 (q7.frame (λ_=>rfl) (λi' j' y' x' u' hy' pE hr=>kM (im q4 (q6 y' (aR hy')) pE) hr)) (λhn=>r2 _ (.inr ⟨rfl,i,j,⟨y,_,q1,q2,rfl⟩,hn,rfl⟩))
   ·simp at h
  |_=>simp at h
 |_=>simp[Bw]at h
theorem Gy(cj:Ok E σ w c){mt:aY}:∀{xs:az AV} {l:az Pk},(DZ E mt xs).val σ=ah l->l.length=xs.length/\∀(j:aC) (k:Pk),l[j]? =ah k->∃x,xs[j]? =ah x/\(Bw E mt x).val σ=ah k:=by
 intro xs;induction xs with
 |nil=>intro l h;obtain rfl:=aF h;exact⟨rfl,λj k h=>by simp at h⟩
 |cons x xs ih=>
  intro l h;obtain⟨k,h1,h⟩:=Rd.bind_some h;obtain⟨l',h2,h⟩:=Rd.bind_some h;obtain rfl:=aF h;obtain⟨i1,i2⟩:=ih h2;refine⟨by simp[i1],λj k' hj=> ?_⟩
  cases j with
  |zero=>cases hj;exact⟨x,rfl,h1⟩
  |succ j=>exact i2 j k' hj
structure BK (T:Tab) (σ:St) (w:bJ) (c:e9) (nH:az aC) (pa:Pa) (v:bn):Prop where
 len:pa.cs.length<=100
 val:pa.box=aj->∃agg,pa.arg= .v agg (pa.cs.map (·.a))/\((agg=ak/\∃k,pa.cs=[k]/\vQ T σ w c nH k v)\/(agg=ai/\∃vals:dp bn,v= .agg vals/\vals.size=pa.cs.length/\∀(j:aC) (k:Pk),pa.cs[j]? =ah k->∃u:bn,vals[j]? =ah u/\vQ T σ w c nH k u))
 box:∀n xs,pa.box=ah (n,xs)->pa.arg= .pt (pa.cs.map (·.a))/\v= .pointer (ah (ad (c.P n).blk 0))/\σ (db n)= .o (.box xs)/\pa.cs.length=xs.length/\
  (∃vals,nV w (c.P n).blk vals/\vals.size=xs.length/\∀(j:aC) (k:Pk),pa.cs[j]? =ah k->∃u:bn,vals[j]? =ah u/\vQ T σ w c nH k u)/\
  ∀(j:aC) (k:Pk) (nm e:aC) (ex:aY),pa.cs[j]? =ah k->k.src= .own nm e ex->xs[j]? =ah (.own nm)
theorem Iv{pa:Pa}{j:aC}{k:Pk}(h:pa.cs[j]? =ah k):∀n∈k.rd,n∈pa.nH:=λn hn=>bL.2 ⟨k,aR h,hn⟩
theorem Q4{mt:aY}{x:AV}{k:Pk}(h:(Bw E mt x).val σ=ah k){nm e:aC}{ex:aY}(hs:k.src= .own nm e ex):x= .own nm:=by
 cases x with
 |own n=>
  obtain⟨ob,hg,h⟩:=Rd.bind_some h;cases ob with
  |row el uv xs=>
   cases mt with
   |true=>obtain rfl:=aF h;cases hs;rfl
   |false=>obtain rfl:=aF h;cases hs
  |fV el xs=>obtain rfl:=aF h;cases hs
  |_=>simp at h
 |vw n lo hi=>
  cases mt with
  |true=>simp[Bw]at h
  |false=>
  obtain⟨ob,hg,h⟩:=Rd.bind_some h;cases ob with
  |row=>obtain rfl:=aF h;cases hs
  |fV=>obtain rfl:=aF h;cases hs
  |_=>simp at h
 |mU n i j=>
  obtain⟨ob,hg,h⟩:=Rd.bind_some h;cases ob with
  |row el ex xs=>
   cases ex with
   |false=>simp at h
   |true=>
   obtain⟨te,ht,h⟩:=Rd.bind_some h;split at h
   ·obtain⟨t2,Im,h⟩:=Rd.bind_some h;obtain⟨_,h⟩:=cR h;obtain rfl:=aF h;cases hs
   ·simp at h
  |_=>simp at h
 |i=>obtain rfl:=aF h;cases hs
 |b=>obtain rfl:=aF h;cases hs
 |s=>obtain rfl:=aF h;cases hs
 |nl=>obtain rfl:=aF h;cases hs
 |sh=>obtain rfl:=aF h;cases hs
 |fn=>obtain rfl:=aF h;cases hs
 |_=>simp[Bw]at h
theorem Ym(cj:Ok E σ w c){mt:aY}{x:SV}{pa:Pa}{v:bn}(h:(agA E mt x).val σ=ah pa)(hl:pa.cs.length<=100)(hx:jh E w c x v):BK E σ w c pa.nH pa v:=by
 have gen:∀agg xs,x= .v agg xs->((DZ E mt xs).bind λl=>Rd.ret (⟨.v agg (l.map (·.a)),aj,l⟩:Pa)).val σ=ah pa->BK E σ w c pa.nH pa v:=by
  rintro agg xs rfl h;obtain⟨l,h1,h⟩:=Rd.bind_some h;obtain rfl:=aF h;obtain⟨i1,i2⟩:=Gy cj h1;refine⟨hl,λ_=>⟨agg,rfl, ?_⟩,λn ys hb=>by cases hb⟩
  replace hx:qi E w c agg xs v:=hx;unfold qi at hx;split at hx
  ·rename_i y;left;obtain⟨k,rfl⟩:=gX.1 (i1.trans rfl);obtain⟨y',hy,hk⟩:=i2 0 k rfl;cases hy;exact⟨rfl,k,rfl,(DY cj hk hx).mono (Iv (j:=0) (pa:=⟨.v ak ([k].map (·.a)),aj,[k]⟩) rfl)⟩
  ·obtain⟨vals,rfl,hs,hv⟩:=hx;right;refine⟨rfl,vals,rfl,by rw[hs];exact i1.symm,λj k hj=> ?_⟩
   obtain⟨y,hy,hk⟩:=i2 j k hj;obtain⟨u,hu,ha⟩:=hv j y hy;exact⟨u,hu,(DY cj hk ha).mono (Iv (j:=j) (pa:=⟨.v ai (l.map (·.a)),aj,l⟩) hj)⟩
  ·exact hx.elim
 unfold agA at h;split at h
 ·rename_i n;obtain⟨_,h⟩:=cR h;obtain⟨ob,hg,h⟩:=Rd.bind_some h;have hg:=dy hg;cases ob with
  |box xs=>
   obtain⟨l,h1,h⟩:=Rd.bind_some h;obtain rfl:=aF h;obtain⟨i1,i2⟩:=Gy cj h1;obtain⟨vals,hb,hs,hv⟩:=cj.obj n _ hg;refine⟨hl,λhb=>(by cases hb),λm ys RD=> ?_⟩
   cases RD;refine⟨rfl,hx,hg,i1,⟨vals,hb,hs,λj k hj=> ?_⟩,λj k nm e ex hj Fg=> ?_⟩
   ·obtain⟨y,hy,hk⟩:=i2 j k hj;obtain⟨u,hu,ha⟩:=hv j y hy;exact⟨u,hu,(DY cj hk ha).mono (Iv (j:=j) (pa:=⟨.pt (l.map (·.a)),ah (n,xs),l⟩) hj)⟩
   ·obtain⟨y,hy,hk⟩:=i2 j k hj;rw[hy,Q4 hk Fg]
  |_=>simp at h
 ·rename_i agg xs _;exact gen _ _ rfl h
 ·simp at h
theorem O5{T:Tab}{k:Ck}{y:AV}{u:bn}(h:eL T w c y u):eL T w c (aaw k y) u:=by
 unfold aaw;split
 ·rename_i e;have:u= .slice aj 0 0:=h;subst this;exact .nl _ _ _
 ·exact h
theorem Kz:∀(ks:az Ck) (xs:az AV),(DK ks xs).length=xs.length
 |[],[]=>rfl
 |[],_::_=>rfl
 |_::_,[]=>rfl
 |k::ks,y::r=>by simp[DK,Kz ks r]
theorem O6{T:Tab}:∀(ks:az Ck) (xs:az AV) (j:aC) (y:AV),(DK ks xs)[j]? =ah y->∃z,xs[j]? =ah z/\∀u,eL T w c z u->eL T w c y u
 |[],xs,j,y,h=>⟨y,by simpa [DK]using h,λ_ h=>h⟩
 |_::_,[],j,y,h=>by simp[DK]at h
 |k::ks,x::r,0,y,h=>by
  simp only[DK,sD,jw]at h;subst h;exact⟨x,rfl,λu hu=>O5 hu⟩
 |k::ks,x::r,j+1,y,h=>by simp only[DK,dO]at h;exact O6 ks r j y h
theorem aic{T:Tab}{t:ay aC}{s:SV}{v:bn}(h:jh T w c s v):jh T w c (nlz T t s) v:=by
 unfold nlz;split
 ·exact h
 ·split
  ·rename_i ti g xs _;have h:qi T w c g xs v:=h;show qi T w c g (DK ti.ks xs) v;unfold qi at h;split at h
   ·rename_i y;cases hk:ti.ks with
    |nil=>exact h
    |cons k ks=>
     have e:∀z,DK (k::ks) [z]=[aaw k z]:=λz=>by cases ks<;>rfl
     rw[e];exact O5 h
   ·obtain⟨vals,h1,h2,h3⟩:=h;refine⟨vals,h1,by rw[Kz];exact h2,λj y hj=> ?_⟩
    obtain⟨z,hz,hy⟩:=O6 (T:=T) (w:=w) (c:=c) ti.ks _ j y hj;obtain⟨u,hu,ha⟩:=h3 j z hz;exact⟨u,hu,hy u ha⟩
   ·cases h
  ·exact h
theorem TK(cj:Ok E σ w c)(dI:fC E σ a w c){f:aC}{RK:ay (az aC)}:∀{xs:az dx} {p:aC} {ps:az Pa},(TJ E f RK p xs).val σ=ah ps->ps.length=xs.length/\∀(q:aC) (pa:Pa),ps[q]? =ah pa->∃x,xs[q]? =ah x/\BK E σ w c pa.nH pa (a.eval x):=by
 intro xs;induction xs with
 |nil=>intro p ps h;obtain rfl:=aF h;exact⟨rfl,λq pa h=>by simp at h⟩
 |cons x xs ih=>
  intro p ps h;obtain⟨v,h1,h⟩:=Rd.bind_some h;obtain⟨pa,h2,h⟩:=Rd.bind_some h;obtain⟨hl,h⟩:=cR h;obtain⟨l,h3,h⟩:=Rd.bind_some h;obtain rfl:=aF h;obtain⟨i1,i2⟩:=ih h3;refine⟨by simp[i1],λq pa' hq=> ?_⟩
  cases q with
  |zero=>
   cases hq;refine⟨x,rfl,Ym cj h2 (cL hl) ?_⟩
   cases E.mode f p with
   |true=>exact(mi dI h1).1
   |false=>exact aic (mi dI h1).1
  |succ q=>exact i2 q pa' hq
theorem BK.mono{T:Tab}{nH V_:az aC}{pa:Pa}{v:bn}(h:BK T σ w c nH pa v)(hs:∀n∈nH,n∈V_):BK T σ w c V_ pa v:=by
 refine⟨h.len,λhb=> ?_,λn xs hb=> ?_⟩
 ·obtain⟨agg,h1,h2⟩:=h.val hb;refine⟨agg,h1, ?_⟩
  rcases h2 with ⟨h3,k,h4,h5⟩|⟨h3,vals,h4,h5,h6⟩
  ·exact .inl ⟨h3,k,h4,h5.mono hs⟩
  ·exact .inr ⟨h3,vals,h4,h5,λj k hj=>by obtain⟨u,hu,hk⟩:=h6 j k hj;exact⟨u,hu,hk.mono hs⟩⟩
 ·obtain⟨h1,h2,h3,h4,⟨vals,h5,h6,h7⟩,h8⟩:=h.box n xs hb;exact⟨h1,h2,h3,h4,⟨vals,h5,h6,λj k hj=>by obtain⟨u,hu,hk⟩:=h7 j k hj;exact⟨u,hu,hk.mono hs⟩⟩,h8⟩
end
end Go.FG

namespace Go.FG
theorem lR{α:Type}{f:α->az aC}:∀{l:az α},(l.flatMap f).Nodup->(∀(i j:aC) (x y:α) (z:aC),l[i]? =ah x->l[j]? =ah y->z∈f x->z∈f y->i=j)/\∀x∈l,(f x).Nodup:=by
 intro l;induction l with
 |nil=>intro _;exact⟨λi j x y z h=>by simp at h,λx h=>by cases h⟩
 |cons a l ih=>
  intro h;rw[zM]at h;obtain⟨h1,h2,h3⟩:=eB.1 h;obtain⟨i1,i2⟩:=ih h2;refine⟨λi j x y z hi hj hx hy=> ?_,λx hx=> ?_⟩
  ·cases i with
   |zero=>
    cases hi;cases j with
    |zero=>rfl
    |succ j=>exact cS rfl (h3 z hx z (bL.2 ⟨y,aR hj,hy⟩))
   |succ i=>
    cases j with
    |zero=>cases hj;exact cS rfl (h3 z hy z (bL.2 ⟨x,aR hi,hx⟩))
    |succ j=>rw[i1 i j x y z hi hj hx hy]
  ·rcases cB.1 hx with rfl|hx
   ·exact h1
   ·exact i2 x hx
def loc(ps:az Pa)(m:aC):ay aC:=
 match ps[(m-900000000)/1000]? with
 |none=>aj
 |some pa=>if(m-900000000)%1000=900 then pa.box.map (·.1)else(pa.cs[(m-900000000)%1000]?).bind λk=>match k.src with| .own nm _ _=>ah nm| .no=>aj
theorem Is{ps:az Pa}{p j:aC}{pa:Pa}{k:Pk}{nm e:aC}{ex:aY}(hp:ps[p]? =ah pa)(hj:pa.cs[j]? =ah k)(hs:k.src= .own nm e ex)(hl:j<900):loc ps (dX p j)=ah nm:=by obtain⟨h1,h2⟩:=uD (p:=p) (j:=j) (by omega);unfold loc;rw[h1,h2,hp];simp only;rw[bH (by omega),hj];simp only[Option.bind_some,hs]
theorem CB{ps:az Pa}{p n:aC}{pa:Pa}{xs:az AV}(hp:ps[p]? =ah pa)(hb:pa.box=ah (n,xs)):loc ps (dX p 900)=ah n:=by obtain⟨h1,h2⟩:=uD (p:=p) (j:=900) (by omega);unfold loc;rw[h1,h2,hp];simp[hb]
def qD(σ:St)(c:e9)(ps:az Pa):e9:=
 ⟨λm=>match loc ps m with|some n=>c.P n|none=>⟨ai,0,0,0,0,0⟩,λm=>match loc ps m with|some n=>c.G n|none=>λ_ _=>⟨ai,0,0,0,0,0⟩,K1r σ c (ps.flatMap (·.nH))⟩
theorem uq{σ:St}{c:e9}{ps:az Pa}{m n:aC}(h:loc ps m=ah n):(qD σ c ps).P m=c.P n/\(qD σ c ps).G m=c.G n:=by unfold qD;simp only[h];exact⟨trivial,trivial⟩
section
variable {P:c6} {E:fS} {σ:St} {a:Act} {w:bJ} {c:e9} {o:fB} {nm:aC} {e:sV}
structure Handed (T:Tab) (σ:St) (w:bJ) (c:e9) (ps:az Pa) (Cu:az (az CV)) (vs:dp bn):Prop where
 size:vs.size=ps.length+Cu.length
 at_:∀(q:aC) (pa:Pa),ps[q]? =ah pa->∃v,vs[q]? =ah v/\BK T σ w c (ps.flatMap (·.nH)) pa v
 fb:∀(q:aC) (cs:az CV),Cu[q]? =ah cs->∃b,vs[ps.length+q]? =ah (.pointer (ah (ad b 0)))/\FB T w c.K b cs
 nd:(ps.flatMap (·.uC)).Nodup
 ap:∀n∈ps.flatMap (·.uC),n∉ps.flatMap (·.nH)
def jH(ps:az Pa)(Cu:az (az CV)):az fj:=ps.map (·.arg)++Cu.map fj.fb
theorem v_{ps:az Pa}{Cu:az (az CV)}{p:aC}{x:fj}(h:(jH ps Cu)[p]? =ah x):(∃pa,ps[p]? =ah pa/\x=pa.arg)\/(ps.length<=p/\∃cs,Cu[p-ps.length]? =ah cs/\x= .fb cs):=by
 unfold jH at h;by_cases hp:p<ps.length
 ·rw[dC (by simpa using hp),bI]at h;cases hq:ps[p]? with
  |none=>rw[hq]at h;cases h
  |some pa=>rw[hq]at h;cases h;exact .inl ⟨pa,rfl,rfl⟩
 ·rw[c8 (by simp;omega),bI,bR]at h;cases hq:Cu[p-ps.length]? with
  |none=>rw[hq]at h;cases h
  |some cs=>rw[hq]at h;cases h;exact .inr ⟨by omega,cs,rfl,rfl⟩
theorem VY{T:Tab}{ps:az Pa}{p j:aC}{pa:Pa}{k:Pk}{u:bn}(hp:ps[p]? =ah pa)(hj:pa.cs[j]? =ah k)(hl:j<900)(h:vQ T σ w c (ps.flatMap (·.nH)) k u):eL T w (qD σ c ps) (lk (dX p j) k.a) u:=by
 unfold vQ at h;split at h
 ·rename_i n e ex hs;obtain⟨xs,h1,h2,h3⟩:=h;rw[h2];show u=lO ((qD σ c ps).P (dX p j));rw[(uq (Is hp hj hs hl)).1];exact h3
 ·exact h.1 _ (λb hb=>hb) _
theorem VX{T:Tab}{nH:az aC}{pa:Pa}{v:bn}(h:BK T σ w c nH pa v){xs:az AA}(hx:(∃g,pa.arg= .v g xs)\/pa.arg= .pt xs):xs=pa.cs.map (·.a)/\∀(j:aC) (k:Pk),pa.cs[j]? =ah k->∃u,vQ T σ w c nH k u:=by
 cases hb:pa.box with
 |none=>
  obtain⟨agg,h1,h2⟩:=h.val hb;rw[h1]at hx;have:xs=pa.cs.map (·.a):=by rcases hx with ⟨g,hx⟩|hx<;>cases hx;rfl
  refine⟨this,λj k hj=> ?_⟩
  rcases h2 with ⟨_,k',hk,hp⟩|⟨_,vals,_,_,hp⟩
  ·rw[hk]at hj;cases j with
   |zero=>cases hj;exact⟨_,hp⟩
   |succ j=>simp at hj
  ·obtain⟨u,_,hu⟩:=hp j k hj;exact⟨u,hu⟩
 |some nx=>
  obtain⟨n,ys⟩:=nx;obtain⟨h1,_,_,_,⟨vals,_,_,hp⟩,_⟩:=h.box n ys hb;rw[h1]at hx;have:xs=pa.cs.map (·.a):=by rcases hx with ⟨g,hx⟩|hx<;>cases hx;rfl
  exact⟨this,λj k hj=>by obtain⟨u,_,hu⟩:=hp j k hj;exact⟨u,hu⟩⟩
theorem xV(cj:Ok E σ w c){ps:az Pa}{Cu:az (az CV)}{vs:dp bn}(hh:Handed E σ w c ps Cu vs){m:aC}{ob:Obj}(h:inj (jH ps Cu) (db m)= .o ob):
  ∃n o p pa,loc ps m=ah n/\ps[p]? =ah pa/\n∈pa.uC/\σ (db n)= .o o/\pR E w (qD σ c ps) m ob/\(∀b,fM (qD σ c ps) m ob b->fM c n o b)/\
   ((m=dX p 900/\∃xs,pa.box=ah (n,xs))\/∃j k e ex,m=dX p j/\j<900/\pa.cs[j]? =ah k/\k.src= .own n e ex):=by
 obtain⟨p,x,h0,h⟩:=Cz h;have ayK:∀cs xs,x= .fb cs->¬((∃g,x= .v g xs)\/x= .pt xs):=by rintro cs xs rfl (⟨g,h⟩|h)<;>cases h
 rcases v_ h0 with ⟨pa,hp,rfl⟩|⟨_,cs,_,hx⟩
 ·obtain⟨v,hv,Mu⟩:=hh.at_ p pa hp;rcases h with ⟨xs,hx,rfl,rfl⟩|⟨xs,j,e,ex,ys,hx,hj,rfl,rfl⟩
  ·cases hb:pa.box with
   |none=>obtain⟨agg,h1,_⟩:=Mu.val hb;rw[h1]at hx;cases hx
   |some nx=>
    obtain⟨n,zs⟩:=nx;obtain⟨h1,h2,h3,h4,⟨vals,h5,h6,h7⟩,_⟩:=Mu.box n zs hb;rw[h1]at hx;cases hx;have Uj:=CB hp hb;obtain⟨e1,e2⟩:=uq (σ:=σ) (c:=c) Uj;refine⟨n,_,p,pa,Uj,hp,by simp[Pa.uC,hb],h3, ?_,λb hf=>by rw[show b=_ from hf,e1];rfl, .inl ⟨rfl,zs,hb⟩⟩
    refine⟨vals,by rw[e1];exact h5,by rw[iP,bR,h6];exact h4.symm,λj y hj=> ?_⟩
    rw[iD,bI]at hj;cases hk:pa.cs[j]? with
    |none=>rw[hk]at hj;cases hj
    |some k=>
     rw[hk]at hj;cases hj;obtain⟨u,hu,YS⟩:=h7 j k hk;have kg:j<900:=by have:=(aT.1 hk).1;have:=Mu.len;omega
     refine⟨u,hu, ?_⟩
     have hn:dX p 0+j=dX p j:=by unfold dX;omega
     rw[hn];exact VY hp hk kg YS
  ·obtain⟨hxs,YS⟩:=VX Mu hx;rw[hxs,bI]at hj;cases hk:pa.cs[j]? with
   |none=>rw[hk]at hj;cases hj
   |some k=>
    rw[hk]at hj;have hka:k.a= .ow e ex ys:=by simpa using hj
    obtain⟨u,hu⟩:=YS j k hk;have kg:j<900:=by have:=(aT.1 hk).1;have:=Mu.len;omega
    unfold vQ at hu;split at hu
    ·rename_i n e' uv hs;obtain⟨zs,q1,q2,q3⟩:=hu;rw[hka]at q2;cases q2;have Uj:=Is hp hk hs kg;obtain⟨e1,e2⟩:=uq (σ:=σ) (c:=c) Uj;refine⟨n,_,p,pa,Uj,hp, ?_,q1, ?_,λb hf=>by rw[mf (c:=⟨λ_=>c.P n,λ_=>c.G n,c.K⟩) (c':=qD σ c ps) ⟨e1,e2⟩]at hf;exact hf, .inr ⟨j,k,e,ex,rfl,kg,hk,hs⟩⟩
     ·refine bO _ (bL.2 ⟨k,aR hk, ?_⟩);simp[Pk.uC,hs]
     ·have mS:=cj.obj n _ q1;obtain⟨⟨t2,r1,r2,r3⟩,r4,r5⟩:=mS;refine⟨⟨t2,r1,by rw[e1];exact r2,r3⟩, ?_,λhx=>by rw[e1,e2];exact r5 hx⟩
      rw[e1,e2];refine r4.frame (λ_=>rfl) (λi j y x u hy hx hr=> ?_);split at hr
      ·rename_i pE;rw[bB pE];exact hr
      ·rename_i pE;rw[bH pE];exact hr.frame (λ_ _=>rfl) (λb hb=> .inl hb)
    ·exact cS hka (hu.2 _ _ _)
 ·rcases h with ⟨xs,h,_⟩|⟨xs,j,e,ex,ys,h,_⟩
  ·rw[hx]at h;cases h
  ·exact cS h (ayK cs xs hx)
theorem enter(cj:Ok E σ w c){ps:az Pa}{Cu:az (az CV)}{vs:dp bn}(hh:Handed E σ w c ps Cu vs):
  Ok E (inj (jH ps Cu)) w (qD σ c ps)/\(∀(p:aC) (x:fj),(jH ps Cu)[p]? =ah x->∃v,vs[p]? =ah v/\jh E w (qD σ c ps) (tC p x) v)/\
  ∀b,wW (inj (jH ps Cu)) (qD σ c ps) b->∃n∈ps.flatMap (·.uC),∃o,σ (db n)= .o o/\fM c n o b:=by
 have Ky:∀{p:aC} {pa:Pa} {n:aC},ps[p]? =ah pa->n∈pa.uC->n∈ps.flatMap (·.uC):=λhp hn=>bL.2 ⟨_,aR hp,hn⟩;obtain⟨nd1,nd2⟩:=lR hh.nd;refine⟨⟨λm ob h=> ?_,λm ob m' ob' b h h' hf vn=> ?_,λm ob b h hf hk=> ?_,λb hb=> ?_,λm xs h=>Ip h⟩,λp x hx=> ?_, ?_⟩
 ·obtain⟨n,o,p,pa,_,_,_,_,h,_⟩:=xV cj hh h;exact h
 ·obtain⟨n,o,p,pa,_,hp,hn,ho,_,pV,k8⟩:=xV cj hh h;obtain⟨n',o',p',pa',_,mB,kG,vt,_,Uh,acv⟩:=xV cj hh h';have:=cj.sep n o n' o' b ho vt (pV b hf) (Uh b vn);subst this;have:=nd1 p p' pa pa' n hp mB hn kG;subst this;rw[hp]at mB;cases mB;have ndm:=nd2 pa (aR hp);unfold Pa.uC at ndm;obtain⟨_,m2,m3⟩:=eB.1 ndm;have alL:∀(j:aC) (k:Pk) (e:aC) (ex:aY),pa.cs[j]? =ah k->k.src= .own n e ex->n∈pa.cs.flatMap (·.uC):=λj k e ex hk hs=>bL.2 ⟨k,aR hk,by simp[Pk.uC,hs]⟩;rcases k8 with ⟨rfl,xs,hb⟩|⟨j,k,e,ex,rfl,hj,hk,hs⟩
  ·rcases acv with ⟨rfl,_⟩|⟨j',k',e',uv,rfl,La,vq,hs'⟩
   ·rfl
   ·exact cS rfl (m3 n (by simp[hb]) n (alL _ _ _ _ vq hs'))
  ·rcases acv with ⟨rfl,xs,hb⟩|⟨j',k',e',uv,rfl,La,vq,hs'⟩
   ·exact cS rfl (m3 n (by simp[hb]) n (alL _ _ _ _ hk hs))
   ·have:=(lR m2).1 j j' k k' n hk vq (by simp[Pk.uC,hs]) (by simp[Pk.uC,hs']);rw[this]
 ·obtain⟨n,o,p,pa,_,hp,hn,ho,_,pV,_⟩:=xV cj hh h;rcases hk with hk|⟨n',kG,o',vt,vn⟩
  ·exact cj.kk n o b ho (pV b hf) hk
  ·have:=cj.sep n o n' o' b ho vt (pV b hf) vn;subst this;exact hh.ap n (Ky hp hn) kG
 ·rcases hb with hb|⟨n',kG,o',vt,vn⟩
  ·exact cj.lt b hb
  ·exact wW.lt cj ⟨n',o',vt,vn⟩
 ·rcases v_ hx with ⟨pa,hp,rfl⟩|⟨hle,cs,Jh,rfl⟩
  ·obtain⟨v,hv,Mu⟩:=hh.at_ p pa hp;refine⟨v,hv, ?_⟩
   have small:∀{j:aC} {k:Pk},pa.cs[j]? =ah k->j<900:=λhj=>by have:=(aT.1 hj).1;have:=Mu.len;omega
   cases hb:pa.box with
   |none=>
    obtain⟨agg,h1,h2⟩:=Mu.val hb;rw[h1];rcases h2 with ⟨rfl,k,hk,YS⟩|⟨rfl,vals,rfl,hs,hc⟩
    ·rw[hk];have:=VY (j:=0) hp (by rw[hk];rfl) (by omega) YS;exact this
    ·refine⟨vals,rfl,by rw[iP,bR];exact hs,λj y hj=> ?_⟩
     rw[iD,bI]at hj;cases hk:pa.cs[j]? with
     |none=>rw[hk]at hj;cases hj
     |some k=>
      rw[hk]at hj;cases hj;obtain⟨u,hu,YS⟩:=hc j k hk;refine⟨u,hu, ?_⟩
      have hn:dX p 0+j=dX p j:=by unfold dX;omega
      rw[hn];exact VY hp hk (small hk) YS
   |some nx=>obtain⟨n,zs⟩:=nx;obtain⟨h1,h2,_⟩:=Mu.box n zs hb;rw[h1];show v= .pointer (ah (ad ((qD σ c ps).P (dX p 900)).blk 0));rw[(uq (CB hp hb)).1];exact h2
  ·obtain⟨b,hv,hf⟩:=hh.fb (p-ps.length) cs Jh;rw[show ps.length+(p-ps.length)=p by omega]at hv;exact⟨_,hv,b,rfl,hf.frame (λ_ _=>rfl) (λb hb=> .inl hb)⟩
 ·rintro b ⟨m,ob,h,hf⟩;obtain⟨n,o,p,pa,_,hp,hn,ho,_,pV,_⟩:=xV cj hh h;exact⟨n,Ky hp hn,o,ho,pV b hf⟩
end
end Go.FG

namespace Go.FG
def tK(p j:aC)(a:AA):AV:=match a with| .kp _=> .own (dX p j)|a=>lk (dX p (100+j)) a
def n8(p:aC):aC->az AA->az AV
 |_,[]=>[]|j,a::r=>tK p j a::n8 p (j+1) r
def KI(p j:aC)(a b:AA):az (aC×eR):=
 match b with
 | .kp ys=>(match a with| .ow e ex _=>[(db (dX p j), .o (.row e ex ys))]|_=>[])
 | .ow e ex ys=>[(db (dX p (100+j)), .o (.row e ex ys))]
 |_=>[]
def tL(p:aC):aC->az AA->az AA->az (aC×eR)
 |_,_,[]=>[]|j,as,b::r=>KI p j (as.headD .nl) b++tL p (j+1) as.tail r
def DV(p:aC)(a:fj)(l:az AA):az (aC×eR):=
 match a with
 | .v _ xs=>tL p 0 xs l
 | .pt xs=>(db (dX p 900), .o (.box (n8 p 0 l)))::tL p 0 xs l
 | .fb _=>[]
def MR:aC->az fj->az (az AA)->az (aC×eR)
 |_,[],_=>[]|p,a::r,l=>DV p a (l.headD [])++MR (p+1) r l.tail
def MX:aC->az fj->az (aC×eR)
 |_,[]=>[]|q,a::r=>vu q a++MX (q+1) r
def oj(args:az fj)(r:dj):St:=fN (MX 500 r.rs++MR 0 args r.outs)
def HW(q:aC)(a:fj):aY×az AV:=match a with| .v g xs=>(g,gE (dX q 0) xs)| .pt _=>(ak,[.bp (dX q 900) 0])| .fb xs=>(ak,[.fp xs 0])
def lr:aC->az fj->az (aY×az AV)
 |_,[]=>[]|q,a::r=>HW q a::lr (q+1) r
def aaT(rs:az fj):SV:=sw (lr 500 rs)
def Tx(T:Tab)(args:az fj)(r:dj)(c1:e9)(w:bJ)(v:bn)(w':bJ):Prop:=
 ∃c3,Ok T (oj args r) w' c3/\ot (inj args) c1 w (oj args r) c3 w'/\(∀m,inj args (db m)≠ .jZ->c3.P m=c1.P m/\c3.G m=c1.G m)/\jh T w' c3 (aaT r.rs) v
def bX(P:c6)(T:Tab)(g:aC)(spec:az fj->ay (aY×dj)):Prop:=
 ∀args r,spec args=ah (ai,r)->∀(w:bJ) (c1:e9) (vs:dp bn),Ok T (inj args) w c1->vs.size=args.length->(∀(p:aC) (x:fj),args[p]? =ah x->∃v,vs[p]? =ah v/\jh T w c1 (tC p x) v)->
  (∃fn,P.funcs[g]? =ah fn/\fn.body.isSome=ai/\(fn.name== "runtime.NumGoroutine")=ak)/\Calls P g vs w (λ| .returned v,w'=>Tx T args r c1 w v w'|_,_=>False)
abbrev EF:=aC×ay aC×Obj
def find(L:az EF)(m:aC):ay aC:=
 match L with
 |[]=>aj
 |(n,t,_)::r=>if m=n then t else find r m
theorem J7{L:az EF}{m x:aC}(h:find L m=ah x):∃ob,(m,ah x,ob)∈L:=by
 induction L with
 |nil=>cases h
 |cons d L ih=>
  obtain⟨n,t,ob⟩:=d;unfold find at h;split at h
  ·rename_i hm;subst hm;rw[h];exact⟨ob,dL ..⟩
  ·obtain⟨ob,h⟩:=ih h;exact⟨ob,c9 _ h⟩
theorem YE{L:az EF}{m:aC}{t:ay aC}{ob:Obj}(h:(m,t,ob)∈L)(hn:(L.map (·.1)).Nodup):find L m=t:=by
 induction L with
 |nil=>cases h
 |cons d L ih=>
  obtain⟨n,t',ob'⟩:=d;rw[eC,kE]at hn;unfold find;rcases cB.1 h with h'|h'
  ·cases h';rw[bB rfl]
  ·have iy:m≠n:=λe=>hn.1 (cw.2 ⟨_,h',e⟩);rw[bH iy];exact ih h' hn.2
def lW(ok:aY)(L:az EF)(v v3:AV):Prop:=
 (v=v3/\match v with| .i _ _=>True| .b _=>True| .s _=>True| .nl=>True| .sh _ _=>ok=ai|_=>False)\/∃n x ob,v= .own n/\v3= .own x/\(n,ah x,ob)∈L
def abp(L:az EF)(v v3:AV):Prop:=∃n x ob,v= .bp n 0/\v3= .bp x 0/\(n,ah x,ob)∈L
def nL(ok:aY)(L:az EF)(vs vs3:az AV):Prop:=vs.length=vs3.length/\∀(j:aC) (v v3:AV),vs[j]? =ah v->vs3[j]? =ah v3->lW ok L v v3
def ArgRel(ok:aY)(L:az EF)(s s3:aY×az AV):Prop:=s.1=s3.1/\s.2.length=s3.2.length/\∀(j:aC) (v v3:AV),s.2[j]? =ah v->s3.2[j]? =ah v3->lW ok L v v3\/abp L v v3
def GP(ok:aY)(L:az EF)(s s3:az (aY×az AV)):Prop:=s.length=s3.length/\∀(j:aC) (x x3:aY×az AV),s[j]? =ah x->s3[j]? =ah x3->ArgRel ok L x x3
structure aby (σ σ3:St) (c c3:e9) (ok:aY) (uC:az aC) (L:az EF) (n:aC) (t:ay aC) (ob:Obj):Prop where
 old:σ (db n)≠ .jZ->n∈uC
 new:σ (db n)= .jZ->n<900000000
 dead:t=aj->ob= .dead
 some_:∀x,t=ah x->(σ (db n)≠ .jZ->c3.P x=c.P n/\c3.G x=c.G n)/\
  ((∃e ex ys,ob= .row e ex ys/\σ3 (db x)= .o (.row e ex ys)/\(ex=ai\/ok=ai))\/∃vs vs3,ob= .box vs/\σ3 (db x)= .o (.box vs3)/\nL ok L vs vs3)
section
variable {P:c6} {E:fS} {σ:St} {a:Act} {w:bJ} {c:e9} {o:fB} {nm:aC} {e:sV}
theorem leave(cj:Ok E σ w c)(dI:fC E σ a w c)(hd:∀d,o.dst=ah d->d<a.tmps.size){ps:az Pa}{Cu:az (az CV)}{vs:dp bn}(hh:Handed E σ w c ps Cu vs)
  {r:dj} {v:bn} {w':bJ} {c3:e9} (Ik:Ok E (oj (jH ps Cu) r) w' c3) (y_:ot (inj (jH ps Cu)) (qD σ c ps) w (oj (jH ps Cu) r) c3 w') (zC:jh E w' c3 (aaT r.rs) v)
  {ok:aY} {L:az EF} {Fz:az (aC×Obj)} (hL:∀n t ob,(n,t,ob)∈L->aby σ (oj (jH ps Cu) r) c c3 ok (ps.flatMap (·.uC)) L n t ob) (Kh:(L.map (·.1)).Nodup)
  (avy:∀n n' x ob ob',(n,ah x,ob)∈L->(n',ah x,ob')∈L->n=n') (nS:∀n∈ps.flatMap (·.uC),∃t ob,(n,t,ob)∈L)
  (hFz:∀n x,(n,x)∈Fz->ok=ai/\n∈ps.flatMap (·.nH)/\∃el ex xs,σ (db n)= .o (.row el ex xs)/\x= .fV el xs) (hFa:ok=ai->∀n∈ps.flatMap (·.nH),∃x,(n,x)∈Fz)
  {ss:az (aY×az AV)} (hss:GP ok L ss (lr 500 r.rs)):
  ∃c',Ok E (wr σ (ka (Fz++L.map λt=>(t.1,t.2.2))++dw o (sw ss))) w' c'/\fC E (wr σ (ka (Fz++L.map λt=>(t.1,t.2.2))++dw o (sw ss))) (a.put o.dst v) w' c'/\ot σ c w (wr σ (ka (Fz++L.map λt=>(t.1,t.2.2))++dw o (sw ss))) c' w'/\jz σ c c':=by
 obtain⟨Um,_,alC⟩:=enter cj hh;let D:az (aC×Obj):=Fz++L.map λt=>(t.1,t.2.2)
 have Vd:∀n x,(n,x)∈D->(n,x)∈Fz\/∃t,(n,t,x)∈L:=by
  intro n x hm;rcases bf.1 hm with h|h
  ·exact .inl h
  ·obtain⟨⟨n',t,ob⟩,h1,h2⟩:=cw.1 h;cases h2;exact .inr ⟨t,h1⟩
 have inD:∀n t ob,(n,t,ob)∈L->(n,ob)∈D:=λn t ob h=>bO _ (cw.2 ⟨_,h,rfl⟩);have ayI:∀n,n∈ps.flatMap (·.uC)->uN D n:=λn hn=>by obtain⟨t,ob,h⟩:=nS n hn;exact⟨ob,inD n t ob h⟩
 have MU:∀b,wW (inj (jH ps Cu)) (qD σ c ps) b->j5 (uN D) σ c b:=λb hb=>by obtain⟨n,hn,ob,h1,h2⟩:=alC b hb;exact⟨n,ob,ayI n hn,h1,h2⟩
 let K':aC->Prop:=λb=>if ok=ai then c3.K b else c.K b
 let c':e9:=⟨λm=>match find L m with|some x=>c3.P x|none=>c.P m,λm=>match find L m with|some x=>c3.G x|none=>c.G m,K'⟩
 have at_:∀n x ob,(n,ah x,ob)∈L->c'.P n=c3.P x/\c'.G n=c3.G x:=λn x ob h=>by have:=YE h Kh;simp only[c',this];exact⟨trivial,trivial⟩
 have amj:∀n,find L n=aj->c'.P n=c.P n/\c'.G n=c.G n:=λn h=>by simp only[c',h];exact⟨trivial,trivial⟩
 have hA:jz σ c c':=by
  intro m hm;cases hf:find L m with
  |none=>exact amj m hf
  |some x=>
   obtain⟨ob,hx⟩:=J7 hf;obtain⟨e1,e2⟩:=at_ m x ob hx;have he:=hL m _ ob hx;rw[e1,e2];by_cases hn:σ (db m)= .jZ
   ·have:=he.new hn;rcases hm with h|h
    ·exact cS hn h
    ·omega
   ·exact(he.some_ x rfl).1 hn
 have Kok:ok=ai->∀b,K' b↔c3.K b:=λh b=>by simp only[K',h,if_true]
 have Kno:ok=ak->∀b,K' b↔c.K b:=λh b=>by simp only[K',h];simp
 have K13:∀b,(qD σ c ps).K b->c3.K b:=y_.K;have cK1:∀b,c.K b->(qD σ c ps).K b:=λb hb=> .inl hb;have hK:∀b,c.K b->K' b:=λb hb=>by
  cases h:ok with
  |true=>exact(Kok h b).2 (K13 b (cK1 b hb))
  |false=>exact(Kno h b).2 hb
 have XH:∀b,K' b->c.K b\/j5 (uN D) σ c b\/w.heap.size<=b:=λb hb=>by
  cases h:ok with
  |true=>
   rcases y_.kn b ((Kok h b).1 hb)with h1|h1|h1
   ·rcases h1 with h1|⟨n,hn,ob,h2,h3⟩
    ·exact .inl h1
    ·obtain⟨x,hx⟩:=hFa h n hn;exact .inr (.inl ⟨n,ob,⟨x,bW _ hx⟩,h2,h3⟩)
   ·exact .inr (.inl (MU b h1))
   ·exact .inr (.inr h1)
  |false=>exact .inl ((Kno h b).1 hb)
 have Ih:∀b,K' b->b<w'.heap.size:=λb hb=>by
  cases h:ok with
  |true=>exact Ik.lt b ((Kok h b).1 hb)
  |false=>exact js (cj.lt b ((Kno h b).1 hb)) y_.size
 have Ua:∀n x ob b,(n,ah x,ob)∈L->fM c' n ob b->∃o3,oj (jH ps Cu) r (db x)= .o o3/\fM c3 x o3 b:=by
  intro n x ob b hm hf;obtain⟨e1,e2⟩:=at_ n x ob hm;rcases((hL n _ ob hm).some_ x rfl).2 with ⟨e,ex,ys,rfl,h3,_⟩|⟨us,us3,rfl,h3,_⟩
  ·refine⟨_,h3, ?_⟩
   simp only[fM,e1,e2]at hf⊢;exact hf
  ·refine⟨_,h3, ?_⟩
   simp only[fM,e1]at hf⊢;exact hf
 have TU:∀{v v3:AV} {u:bn},lW ok L v v3->eL E w' c3 v3 u->eL E w' c' v u/\∀n∈bN v,uN D n:=by
  rintro v v3 u (⟨rfl,h⟩|⟨n,x,ob,rfl,rfl,hm⟩) hu
  ·cases v with
   |sh e xs=>exact⟨dg.frame hu (λ_ _=>rfl) (λb hb=>(Kok h b).2 hb),λn hn=>by simp[bN]at hn⟩
   |i=>exact⟨hu,λn hn=>by simp[bN]at hn⟩
   |b=>exact⟨hu,λn hn=>by simp[bN]at hn⟩
   |s=>exact⟨hu,λn hn=>by simp[bN]at hn⟩
   |nl=>exact⟨hu,λn hn=>by simp[bN]at hn⟩
   |_=>exact h.elim
  ·refine⟨?_,λm xT=> ?_⟩
   ·show u=lO (c'.P n);rw[(at_ n x ob hm).1];exact hu
   ·have:m=n:=by simpa [bN]using xT
    subst this;exact⟨ob,inD _ _ _ hm⟩
 have auX:∀{v v3:AV} {u:bn},abp L v v3->eL E w' c3 v3 u->eL E w' c' v u/\∀n∈bN v,uN D n:=by
  rintro v v3 u ⟨n,x,ob,rfl,rfl,hm⟩ hu;refine⟨?_,λm xT=> ?_⟩
  ·show u= .pointer (ah (ad (c'.P n).blk 0));rw[(at_ n x ob hm).1];exact hu
  ·have:m=n:=by simpa [bN]using xT
   subst this;exact⟨ob,inD _ _ _ hm⟩
 have ab8:∀{s s3:aY×az AV} {u:bn},ArgRel ok L s s3->qi E w' c3 s3.1 s3.2 u->qi E w' c' s.1 s.2 u/\∀n∈s.2.flatMap bN,uN D n:=by
  rintro ⟨g,xs⟩ ⟨g3,xs3⟩ u ⟨h1,h2,h3⟩ hu;have h1:g=g3:=h1;subst h1;have one:∀(j:aC) (y:AV) (uu:bn),xs[j]? =ah y->(∀y3,xs3[j]? =ah y3->eL E w' c3 y3 uu)->eL E w' c' y uu/\∀n∈bN y,uN D n:=by
   intro j y uu hj hu3;have kg:j<xs3.length:=by rw[<-h2];exact(aT.1 hj).1
   have OJ:=h3 j y xs3[j] hj (by simp[kg]);have sq:=hu3 xs3[j] (by simp[kg]);rcases OJ with h|h
   ·exact TU h sq
   ·exact auX h sq
  replace hu:qi E w' c3 g xs3 u:=hu;unfold qi at hu;split at hu
  ·rename_i y3;obtain⟨y,rfl⟩:=gX.1 (show xs.length=1 from h2);obtain⟨k1,k2⟩:=one 0 y u rfl (λy3' h=>by cases h;exact hu);exact⟨k1,λn hn=>k2 n (by simpa using hn)⟩
  ·obtain⟨vals,rfl,hs,hv⟩:=hu;have cell:∀(j:aC) (y:AV),xs[j]? =ah y->∃uu:bn,vals[j]? =ah uu/\eL E w' c' y uu/\∀n∈bN y,uN D n:=by
    intro j y hj;have kg:j<xs3.length:=by rw[<-h2];exact(aT.1 hj).1
    obtain⟨uu,hu,ha⟩:=hv j xs3[j] (by simp[kg]);obtain⟨k1,k2⟩:=one j y uu hj (λy3' h=>by simp[kg]at h;rw[<-h];exact ha);exact⟨uu,hu,k1,k2⟩
   refine⟨⟨vals,rfl,by rw[hs];exact h2.symm,λj y hj=> ?_⟩,λn hn=> ?_⟩
   ·obtain⟨uu,k1,k2,_⟩:=cell j y hj;exact⟨uu,k1,k2⟩
   ·obtain⟨y,hy,hn⟩:=bL.1 hn;obtain⟨j,hj⟩:=b7 hy;obtain⟨uu,_,_,k3⟩:=cell j y hj;exact k3 n hn
  ·exact hu.elim
 have aph:jh E w' c' (sw ss) v/\∀n∈cM (sw ss),uN D n:=by
  obtain⟨hl,hr⟩:=hss;have j_:∀(l l3:az (aY×az AV)),l=ss->l3=lr 500 r.rs->jh E w' c3 (.j_ l3) v->jh E w' c' (.j_ l) v/\∀n∈cM (.j_ l),uN D n:=by
   rintro l l3 rfl rfl ⟨us,rfl,hs,hv⟩;have cell:∀(j:aC) (x:aY×az AV),l[j]? =ah x->∃u:bn,us[j]? =ah u/\qi E w' c' x.1 x.2 u/\∀n∈x.2.flatMap bN,uN D n:=by
    intro j x hj;have kg:j<(lr 500 r.rs).length:=by rw[<-hl];exact(aT.1 hj).1
    have h3:(lr 500 r.rs)[j]? =ah ((lr 500 r.rs)[j].1,(lr 500 r.rs)[j].2):=by simp[kg]
    obtain⟨u,hu,ha⟩:=hv j _ _ h3;obtain⟨k1,k2⟩:=ab8 (hr j x _ hj h3) ha;exact⟨u,hu,k1,k2⟩
   refine⟨⟨us,rfl,by rw[hs];exact hl.symm,λj g xs hj=> ?_⟩,λn hn=> ?_⟩
   ·obtain⟨u,k1,k2,_⟩:=cell j (g,xs) hj;exact⟨u,k1,k2⟩
   ·obtain⟨x,hx,hn⟩:=bL.1 hn;obtain⟨j,hj⟩:=b7 hx;obtain⟨u,_,_,k3⟩:=cell j x hj;exact k3 n hn
  unfold aaT at zC;cases h3:lr 500 r.rs with
  |nil=>rw[h3]at zC hl;have:ss=[]:=gj hl;subst this;exact j_ [] [] rfl h3.symm zC
  |cons x l=>
   cases l with
   |nil=>obtain⟨g,xs⟩:=x;rw[h3]at zC hl;obtain⟨⟨g',Nm⟩,rfl⟩:=gX.1 (show ss.length=1 from hl);exact ab8 (s3:=(g,xs)) (hr 0 _ _ rfl (by rw[h3];rfl)) zC
   |cons y l=>
    rw[h3]at zC hl;match ss,hl with
    |s1::s2::st,_=>exact j_ _ (x::y::l) rfl h3.symm zC
    |[_],hl=>simp at hl
    |[],hl=>simp at hl
 refine⟨c', ?_⟩
 have:=JO cj dI hd (D:=D) (s:=sw ss) (v:=v) (w':=w') (c':=c') hA ?_ ?_ ?_ ?_ hK XH Ih ?_ y_.size y_.os y_.tape y_.output aph.1 (λn hn=> .inr (aph.2 n hn))
 ·exact⟨this.1,this.2.1,this.2.2,hA⟩
 ·intro n x hm;rcases Vd n x hm with hm|⟨t,hm⟩
  ·obtain⟨Un,hn,el,ex,xs,hg,rfl⟩:=hFz n x hm;have alz:find L n=none:=by
    cases hf:find L n with
    |none=>rfl
    |some x=>obtain⟨ob,hx⟩:=J7 hf;have:=(hL n _ ob hx).old (by rw[hg];simp);exact cS hn (hh.ap n this)
   obtain⟨e1,_⟩:=amj n alz;obtain⟨h1,h2,ti,h3,h4⟩:=ld cj hg;show dg E w' K' (lO (c'.P n)) _/\(c'.P n).n=_/\_;rw[e1];refine⟨?_,h1,ti,h3,h4.1⟩
   have:=rW cj hg (K:=(qD σ c ps).K) cK1 (λb hb=> .inr ⟨n,hn,_,hg,hb⟩);exact this.frame (y_.abB Um) (λb hb=>(Kok Un b).2 (K13 b hb))
  ·have he:=hL n t x hm;cases t with
   |none=>rw[he.dead rfl];trivial
   |some y=>
    obtain⟨e1,e2⟩:=at_ n y x hm;rcases(he.some_ y rfl).2 with ⟨el,ex,ys,rfl,h3,hor⟩|⟨us,us3,rfl,h3,hl,hc⟩
    ·obtain⟨⟨t2,r1,r2,r3⟩,r4,r5⟩:=Ik.obj y _ h3;refine⟨⟨t2,r1,by rw[e1];exact r2,r3⟩, ?_,λhx=>by rw[e1,e2];exact r5 hx⟩
     rw[e1,e2];refine r4.frame (λ_=>rfl) (λi j yy xx u hy hx hr=> ?_);split at hr
     ·rename_i pE;rw[bB pE];exact hr
     ·rename_i pE;rw[bH pE];have Un:=hor.resolve_left pE;exact hr.frame (λ_ _=>rfl) (λb hb=>(Kok Un b).2 hb)
    ·obtain⟨vals,hb,hs,hv⟩:=Ik.obj y _ h3;refine⟨vals,by rw[e1];exact hb,by rw[hs];exact hl.symm,λj yy hj=> ?_⟩
     have kg:j<us3.length:=by rw[<-hl];exact(aT.1 hj).1
     obtain⟨u,hu,ha⟩:=hv j us3[j] (by simp[kg]);exact⟨u,hu,(TU (hc j yy us3[j] hj (by simp[kg])) ha).1⟩
 ·intro n x b hm hf;rcases Vd n x hm with hm|⟨t,hm⟩
  ·obtain⟨_,_,el,ex,xs,_,rfl⟩:=hFz n x hm;exact hf.elim
  ·cases t with
   |none=>rw[(hL n _ x hm).dead rfl]at hf;exact hf.elim
   |some y=>
    obtain⟨o3,h3,hf3⟩:=Ua n y x b hm hf;have wy:j5 (uN D) σ c b\/w.heap.size<=b:=(y_.own b ⟨y,o3,h3,hf3⟩).imp (MU b) id;refine⟨wy,λhk=> ?_⟩
    cases h:ok with
    |true=>exact Ik.kk y o3 b h3 hf3 ((Kok h b).1 hk)
    |false=>
     have hk:=(Kno h b).1 hk;rcases wy with wy|wy
     ·exact cj.KB wy.own hk
     ·have:=cj.lt b hk;omega
 ·intro n x n' x' b hm xT hf vn;rcases Vd n x hm with hm|⟨t,hm⟩
  ·obtain⟨_,_,el,ex,xs,_,rfl⟩:=hFz n x hm;exact hf.elim
  ·rcases Vd n' x' xT with xT|⟨t',xT⟩
   ·obtain⟨_,_,el,ex,xs,_,rfl⟩:=hFz n' x' xT;exact vn.elim
   ·cases t with
    |none=>rw[(hL n _ x hm).dead rfl]at hf;exact hf.elim
    |some y=>
     cases t' with
     |none=>rw[(hL n' _ x' xT).dead rfl]at vn;exact vn.elim
     |some y'=>obtain⟨o3,h3,hf3⟩:=Ua n y x b hm hf;obtain⟨o3',OJ,avm⟩:=Ua n' y' x' b xT vn;have:=Ik.sep y o3 y' o3' b h3 OJ hf3 avm;subst this;exact avy n n' y x x' hm xT
 ·intro n xs hm y hy m hmm;rcases Vd n _ hm with hm|⟨t,hm⟩
  ·obtain⟨_,_,el,ex,zs,_,h⟩:=hFz n _ hm;cases h
  ·have he:=hL n t _ hm;cases t with
   |none=>have:=he.dead rfl;cases this
   |some z=>
    rcases(he.some_ z rfl).2 with ⟨el,ex,ys,h,_⟩|⟨us,us3,h,h3,hl,hc⟩
    ·cases h
    ·cases h;obtain⟨j,hj⟩:=b7 hy;have kg:j<us3.length:=by rw[<-hl];exact(aT.1 hj).1
     rcases hc j y us3[j] hj (by simp[kg])with ⟨h1,h2⟩|⟨n',x',ob',h1,_,h2⟩
     ·exfalso;subst h1;cases h:us3[j]<;>rw[h]at hmm h2<;>first|(simp[bN]at hmm;done)|exact h2
     ·rw[h1]at hmm;have:m=n':=by simpa [bN]using hmm
      subst this;exact .inr ⟨ob',inD _ _ _ h2⟩
 ·intro b hb YQ;exact y_.same b hb (λho=>YQ (MU b ho))
end
end Go.FG

namespace Go.FG
def Nw(a:fj)(xs:az AA):Prop:=(∃g,a= .v g xs)\/a= .pt xs
inductive CO (args:az fj) (r:dj):aC->eR->Prop
 |rb (q xs):r.rs[q]? =ah (.pt xs)->CO args r (dX (500+q) 900) (.o (.box (gE (dX (500+q) 0) xs)))
 |rr (q a xs j e ex ys):r.rs[q]? =ah a->Nw a xs->xs[j]? =ah (.ow e ex ys)->CO args r (dX (500+q) j) (.o (.row e ex ys))
 |ob (p xs):args[p]? =ah (.pt xs)->CO args r (dX p 900) (.o (.box (n8 p 0 (r.outs.getD p []))))
 |kp (p a xs j e ex z ys):args[p]? =ah a->Nw a xs->xs[j]? =ah (.ow e ex z)->(r.outs.getD p [])[j]? =ah (.kp ys)->CO args r (dX p j) (.o (.row e ex ys))
 |nw (p a xs j e ex ys):args[p]? =ah a->Nw a xs->(r.outs.getD p [])[j]? =ah (.ow e ex ys)->CO args r (dX p (100+j)) (.o (.row e ex ys))
theorem Kx:∀{l:az fj} {q:aC} {k:aC} {c:eR},(k,c)∈MX q l↔∃i a,l[i]? =ah a/\(k,c)∈vu (q+i) a:=by
 intro l;induction l with
 |nil=>intro q k c;simp[MX]
 |cons a l ih=>
  intro q k c;simp only[MX,bf,ih];constructor
  ·rintro (h|⟨i,b,h0,h⟩)
   ·exact⟨0,a,rfl,h⟩
   ·exact⟨i+1,b,h0,by rw[show q+(i+1)=q+1+i by omega];exact h⟩
  ·rintro ⟨i,b,h0,h⟩;cases i with
   |zero=>cases h0;exact .inl h
   |succ i=>exact .inr ⟨i,b,h0,by rw[show q+1+i=q+(i+1)by omega];exact h⟩
theorem Kw:∀{l:az fj} {p:aC} {os:az (az AA)} {k:aC} {c:eR},(k,c)∈MR p l os↔∃i a,l[i]? =ah a/\(k,c)∈DV (p+i) a (os.getD i []):=by
 intro l;induction l with
 |nil=>intro p os k c;simp[MR]
 |cons a l ih=>
  intro p os k c;have h0:os.headD []=os.getD 0 []:=by cases os<;>rfl
  have h1:∀i,os.tail.getD i []=os.getD (i+1) []:=λi=>by cases os<;>simp
  simp only[MR,bf,ih,h0,h1];constructor
  ·rintro (h|⟨i,b,hb,h⟩)
   ·exact⟨0,a,rfl,h⟩
   ·exact⟨i+1,b,hb,by rw[show p+(i+1)=p+1+i by omega];exact h⟩
  ·rintro ⟨i,b,hb,h⟩;cases i with
   |zero=>cases hb;exact .inl h
   |succ i=>exact .inr ⟨i,b,hb,by rw[show p+1+i=p+(i+1)by omega];exact h⟩
theorem AU{p j:aC}{a b:AA}{k:aC}{c:eR}:(k,c)∈KI p j a b↔(∃e ex z ys,a= .ow e ex z/\b= .kp ys/\k=db (dX p j)/\c= .o (.row e ex ys))\/∃e ex ys,b= .ow e ex ys/\k=db (dX p (100+j))/\c= .o (.row e ex ys):=by
 cases b with
 |kp ys=>
  cases a with
  |ow e ex z=>
   constructor
   ·intro h;have h:=aZ.1 h;cases h;exact .inl ⟨e,ex,z,ys,rfl,rfl,rfl,rfl⟩
   ·rintro (⟨e',uv,z',ED,h1,h2,h3,h4⟩|⟨_,_,_,h,_⟩)
    ·cases h1;cases h2;rw[h3,h4];exact aZ.2 rfl
    ·cases h
  |_=>simp[KI]
 |ow e ex ys=>
  constructor
  ·intro h;have h:=aZ.1 h;cases h;exact .inr ⟨e,ex,ys,rfl,rfl,rfl⟩
  ·rintro (⟨_,_,_,_,_,h,_⟩|⟨e',uv,ED,h2,h3,h4⟩)
   ·cases h
   ·cases h2;rw[h3,h4];exact aZ.2 rfl
 |_=>simp[KI]
theorem MG{p:aC}:∀{l:az AA} {j:aC} {as:az AA} {k:aC} {c:eR},(k,c)∈tL p j as l↔∃i b,l[i]? =ah b/\(k,c)∈KI p (j+i) (as.getD i .nl) b:=by
 intro l;induction l with
 |nil=>intro j as k c;simp[tL]
 |cons b l ih=>
  intro j as k c;have h0:as.headD .nl=as.getD 0 .nl:=by cases as<;>rfl
  have h1:∀i,as.tail.getD i .nl=as.getD (i+1) .nl:=λi=>by cases as<;>simp
  simp only[tL,bf,ih,h0,h1];constructor
  ·rintro (h|⟨i,b',hb,h⟩)
   ·exact⟨0,b,rfl,h⟩
   ·exact⟨i+1,b',hb,by rw[show j+(i+1)=j+1+i by omega];exact h⟩
  ·rintro ⟨i,b',hb,h⟩;cases i with
   |zero=>cases hb;exact .inl h
   |succ i=>exact .inr ⟨i,b',hb,by rw[show j+1+i=j+(i+1)by omega];exact h⟩
theorem Ie{xs:az AA}{i e:aC}{ex:aY}{z:aQ}:xs.getD i .nl= .ow e ex z↔xs[i]? =ah (.ow e ex z):=by
 rw[d_];cases h:xs[i]? with
 |none=>simp
 |some x=>simp
theorem qH{p:aC}{a:fj}{l:az AA}{k:aC}{c:eR}:(k,c)∈DV p a l↔(∃xs,a= .pt xs/\k=db (dX p 900)/\c= .o (.box (n8 p 0 l)))\/∃xs,Nw a xs/\((∃j e ex z ys,xs[j]? =ah (.ow e ex z)/\l[j]? =ah (.kp ys)/\k=db (dX p j)/\c= .o (.row e ex ys))\/∃j e ex ys,l[j]? =ah (.ow e ex ys)/\k=db (dX p (100+j))/\c= .o (.row e ex ys)):=by
 have cells:∀xs,(k,c)∈tL p 0 xs l↔((∃j e ex z ys,xs[j]? =ah (.ow e ex z)/\l[j]? =ah (.kp ys)/\k=db (dX p j)/\c= .o (.row e ex ys))\/∃j e ex ys,l[j]? =ah (.ow e ex ys)/\k=db (dX p (100+j))/\c= .o (.row e ex ys)):=by
  intro xs;rw[MG];constructor
  ·rintro ⟨i,b,hb,h⟩;rw[bT]at h;rcases AU.1 h with ⟨e,ex,z,ys,h1,rfl,h2,h3⟩|⟨e,ex,ys,rfl,h2,h3⟩
   ·exact .inl ⟨i,e,ex,z,ys,Ie.1 h1,hb,h2,h3⟩
   ·exact .inr ⟨i,e,ex,ys,hb,h2,h3⟩
  ·rintro (⟨i,e,ex,z,ys,h1,hb,h2,h3⟩|⟨i,e,ex,ys,hb,h2,h3⟩)
   ·exact⟨i,_,hb,AU.2 (.inl ⟨e,ex,z,ys,Ie.2 h1,rfl,by rw[bT];exact h2,h3⟩)⟩
   ·exact⟨i,_,hb,AU.2 (.inr ⟨e,ex,ys,rfl,by rw[bT];exact h2,h3⟩)⟩
 cases a with
 |v g xs=>
  simp only[DV,cells];constructor
  ·intro h;exact .inr ⟨xs, .inl ⟨g,rfl⟩,h⟩
  ·rintro (⟨ys,h,_⟩|⟨ys,h|h,h'⟩)
   ·cases h
   ·obtain⟨g',h⟩:=h;cases h;exact h'
   ·cases h
 |pt xs=>
  simp only[DV,cB,cells,jd];constructor
  ·rintro (⟨h1,h2⟩|h)
   ·exact .inl ⟨xs,rfl,h1,h2⟩
   ·exact .inr ⟨xs, .inr rfl,h⟩
  ·rintro (⟨ys,h,h1,h2⟩|⟨ys,h|h,h'⟩)
   ·exact .inl ⟨h1,h2⟩
   ·obtain⟨g',h⟩:=h;cases h
   ·cases h;exact .inr h'
 |fb xs=>
  simp only[DV,lK,false_iff];rintro (⟨ys,h,_⟩|⟨ys,h|h,_⟩)
  ·cases h
  ·obtain⟨g',h⟩:=h;cases h
  ·cases h
theorem xM{args:az fj}{r:dj}{m:aC}{c:eR}:(db m,c)∈MX 500 r.rs++MR 0 args r.outs↔CO args r m c:=by
 rw[bf,Kx,Kw];constructor
 ·rintro (⟨q,a,h0,h⟩|⟨p,a,h0,h⟩)
  ·rcases iB.1 h with ⟨xs,rfl,h1,rfl⟩|⟨xs,j,e,ex,ys,hx,hj,h1,rfl⟩
   ·rw[jW h1];exact .rb q xs h0
   ·rw[jW h1];exact .rr q a xs j e ex ys h0 hx hj
  ·rw[bT]at h;rcases qH.1 h with ⟨xs,rfl,h1,rfl⟩|⟨xs,hx,⟨j,e,ex,z,ys,h2,h3,h1,rfl⟩|⟨j,e,ex,ys,h3,h1,rfl⟩⟩
   ·rw[jW h1];exact .ob p xs h0
   ·rw[jW h1];exact .kp p a xs j e ex z ys h0 hx h2 h3
   ·rw[jW h1];exact .nw p a xs j e ex ys h0 hx h3
 ·intro h;cases h with
  |rb q xs h0=>exact .inl ⟨q,_,h0,iB.2 (.inl ⟨xs,rfl,rfl,rfl⟩)⟩
  |rr q a xs j e ex ys h0 hx hj=>exact .inl ⟨q,a,h0,iB.2 (.inr ⟨xs,j,e,ex,ys,hx,hj,rfl,rfl⟩)⟩
  |ob p xs h0=>exact .inr ⟨p,_,h0,qH.2 (.inl ⟨xs,rfl,by rw[bT],by rw[bT]⟩)⟩
  |kp p a xs j e ex z ys h0 hx h2 h3=>exact .inr ⟨p,a,h0,qH.2 (.inr ⟨xs,hx, .inl ⟨j,e,ex,z,ys,h2,h3,by rw[bT],rfl⟩⟩)⟩
  |nw p a xs j e ex ys h0 hx h3=>exact .inr ⟨p,a,h0,qH.2 (.inr ⟨xs,hx, .inr ⟨j,e,ex,ys,h3,by rw[bT],rfl⟩⟩)⟩
def aaV:ay AA->ay eR
 |some (.ow e ex ys)=>ah (.o (.row e ex ys))|_=>aj
def kpC(a b:ay AA):ay eR:=
 match a,b with|some (.ow e ex _),ah (.kp ys)=>ah (.o (.row e ex ys))|_,_=>aj
def TG:fj->az AA| .v _ xs=>xs| .pt xs=>xs| .fb _=>[]
theorem Nw.eq{a:fj}{xs:az AA}(h:Nw a xs):TG a=xs:=by rcases h with ⟨g,rfl⟩|rfl<;>rfl
def Gb(args:az fj)(r:dj)(P J:aC):ay eR:=
 if 500<=P then(match r.rs[P-500]? with
  |some a=>if J=900 then ah (.o (.box (gE (dX P 0) (TG a))))else aaV (TG a)[J]?
  |none=>aj)
 else(match args[P]? with
  |some a=>if J=900 then ah (.o (.box (n8 P 0 (r.outs.getD P []))))else if J<100 then kpC (TG a)[J]? (r.outs.getD P [])[J]? else aaV (r.outs.getD P [])[J-100]?
  |none=>aj)
structure Small (args:az fj) (r:dj):Prop where
 a:∀(p:aC) (a:fj) (xs:az AA),args[p]? =ah a->Nw a xs->p<500
 rl:∀(q:aC) (a:fj) (xs:az AA),r.rs[q]? =ah a->Nw a xs->xs.length<=100
 o:∀p:aC,(r.outs.getD p []).length<=100
theorem J0{args:az fj}{r:dj}(hs:Small args r){m:aC}{c:eR}(h:CO args r m c):∃P J,m=dX P J/\J<1000/\Gb args r P J=ah c:=by
 cases h with
 |rb q xs h0=>exact⟨500+q,900,rfl,by omega,by simp[Gb,h0,TG]⟩
 |rr q a xs j e ex ys h0 hx hj=>
  have:=hs.rl q a xs h0 hx;have kg:=(aT.1 hj).1;refine⟨500+q,j,rfl,by omega, ?_⟩
  have:j≠900:=by omega
  simp[Gb,h0,hx.eq,hj,this,aaV]
 |ob p xs h0=>
  have:=hs.a p _ xs h0 (.inr rfl);have:¬500<=p:=by omega
  exact⟨p,900,rfl,by omega,by simp[Gb,h0,this]⟩
 |kp p a xs j e ex z ys h0 hx h2 h3=>
  have:=hs.a p _ xs h0 hx;have h5:¬500<=p:=by omega
  have kg:=(aT.1 h3).1;have:=hs.o p;have QG:j≠900:=by omega
  have hj2:j<100:=by omega
  refine⟨p,j,rfl,by omega, ?_⟩
  simp only[Gb,h0,hx.eq,h2,h3,QG,hj2,h5,if_false,if_true,kpC]
 |nw p a xs j e ex ys h0 hx h3=>
  have:=hs.a p _ xs h0 hx;have h5:¬500<=p:=by omega
  have kg:=(aT.1 h3).1;have:=hs.o p;have QG:¬100+j=900:=by omega
  have hj2:¬100+j<100:=by omega
  refine⟨p,100+j,rfl,by omega, ?_⟩
  have hj3:100+j-100=j:=by omega
  simp only[Gb,h0,h3,QG,hj2,hj3,h5,if_false,aaV]
theorem Bd:∀{l:az (aC×eR)} {k:aC} {c:eR},(k,c)∈l->(∀c',(k,c')∈l->c'=c)->fN l k=c:=by
 intro l;induction l with
 |nil=>intro k c h;cases h
 |cons d l ih=>
  obtain⟨k',c'⟩:=d;intro k c h hu;unfold fN;cases hb:bD k k' with
  |true=>have:=aU hb;subst this;exact hu c' (dL ..)
  |false=>
   rcases cB.1 h with h|h
   ·cases h;simp at hb
   ·exact ih h (λc'' h''=>hu c'' (c9 _ h''))
theorem xL{args:az fj}{r:dj}(hs:Small args r){m:aC}{c:eR}(h:CO args r m c):oj args r (db m)=c:=by refine Bd (xM.2 h) (λc' h'=> ?_);obtain⟨P,J,h1,h2,h3⟩:=J0 hs h;obtain⟨P',J',Mh,QA,OJ⟩:=J0 hs (xM.1 h');obtain⟨rfl,rfl⟩:=uE h2 QA (h1.symm.trans Mh);rw[h3]at OJ;cases OJ;rfl
theorem qE{args:az fj}{r:dj}{m:aC}{o:Obj}(h:oj args r (db m)= .o o):CO args r m (.o o):=xM.1 (nT h (by simp))
theorem wE{p:aC}:∀{xs:az AA} {j i:aC},(n8 p j xs)[i]? =(xs[i]?).map (tK p (j+i)):=by
 intro xs;induction xs with
 |nil=>intro j i;simp[n8]
 |cons a xs ih=>
  intro j i;cases i with
  |zero=>rfl
  |succ i=>simp only[n8,dO,ih];congr 2;omega
theorem vx{p:aC}:∀{xs:az AA} {j:aC},(n8 p j xs).length=xs.length:=by
 intro xs;induction xs with
 |nil=>intro j;rfl
 |cons a xs ih=>intro j;simp[n8,ih]
theorem GC:∀{l:az fj} {q i:aC},(lr q l)[i]? =(l[i]?).map (HW (q+i)):=by
 intro l;induction l with
 |nil=>intro q i;simp[lr]
 |cons a l ih=>
  intro q i;cases i with
  |zero=>rfl
  |succ i=>simp only[lr,dO,ih];congr 2;omega
theorem xY:∀{l:az fj} {q:aC},(lr q l).length=l.length:=by
 intro l;induction l with
 |nil=>intro q;rfl
 |cons a l ih=>intro q;simp[lr,ih]
end Go.FG

namespace Go.FG
def mm(L:az EF):az (aC×eR):=ka (L.map λt=>(t.1,t.2.2))
theorem iN(L R:az EF):mm (L++R)=mm L++mm R:=by simp[mm,ka]
def RW(ok:aY)(σ:St)(n:aC)(a:AA):Prop:=
 match a with
 | .ow _ ex _=>(ex=ai\/ok=ai)/\σ (db n)= .jZ/\n<900000000
 | .sh _ _=>ok=ai| .kp _=>False| .fn _ _=>False|_=>True
def QX(n x:aC)(a:AA):az EF:=match a with| .ow e ex ys=>[(n,ah x, .row e ex ys)]|_=>[]
theorem Kv{n x:aC}{a:AA}{m:aC}{t:ay aC}{ob:Obj}:(m,t,ob)∈QX n x a↔∃e ex ys,a= .ow e ex ys/\m=n/\t=ah x/\ob= .row e ex ys:=by
 cases a with
 |ow e ex ys=>
  constructor
  ·intro h;have h:=aZ.1 h;cases h;exact⟨e,ex,ys,rfl,rfl,rfl,rfl⟩
  ·rintro ⟨e',uv,ED,h,rfl,rfl,rfl⟩;cases h;exact aZ.2 rfl
 |_=>simp[QX]
theorem lW.mono{ok:aY}{L L':az EF}{v v3:AV}(h:lW ok L v v3)(hs:∀e∈L,e∈L'):lW ok L' v v3:=h.imp id (λ⟨n,x,ob,h1,h2,h3⟩=>⟨n,x,ob,h1,h2,hs _ h3⟩)
theorem nL.mono{ok:aY}{L L':az EF}{v v3:az AV}(h:nL ok L v v3)(hs:∀e∈L,e∈L'):nL ok L' v v3:=⟨h.1,λj x y hx hy=>(h.2 j x y hx hy).mono hs⟩
section
variable {P:c6} {E:fS} {σ:St} {a:Act} {w:bJ} {c:e9} {o:fB} {nm:aC} {e:sV}
theorem FX{ok:aY}{n:aC}{a:AA}{v:AV}{ws:az (aC×eR)}(h:(rJ ok n a).val σ=ah (v,ws)):RW ok σ n a/\v=lk n a/\∀x,ws=mm (QX n x a)/\lW ok (QX n x a) v (lk x a):=by
 cases a with
 |i=>obtain⟨rfl,rfl⟩:=bV (aF h);exact⟨trivial,rfl,λx=>⟨rfl, .inl ⟨rfl,trivial⟩⟩⟩
 |b=>obtain⟨rfl,rfl⟩:=bV (aF h);exact⟨trivial,rfl,λx=>⟨rfl, .inl ⟨rfl,trivial⟩⟩⟩
 |s=>obtain⟨rfl,rfl⟩:=bV (aF h);exact⟨trivial,rfl,λx=>⟨rfl, .inl ⟨rfl,trivial⟩⟩⟩
 |nl=>obtain⟨rfl,rfl⟩:=bV (aF h);exact⟨trivial,rfl,λx=>⟨rfl, .inl ⟨rfl,trivial⟩⟩⟩
 |sh e xs=>obtain⟨h1,h⟩:=cR h;obtain⟨rfl,rfl⟩:=bV (aF h);exact⟨h1,rfl,λx=>⟨rfl, .inl ⟨rfl,h1⟩⟩⟩
 |ow e ex xs=>obtain⟨h1,h⟩:=cR h;obtain⟨u,h2,h⟩:=Rd.bind_some h;obtain⟨rfl,rfl⟩:=bV (aF h);obtain⟨f1,f2⟩:=kF h2;exact⟨⟨by simpa using h1,f1,f2⟩,rfl,λx=>⟨rfl, .inr ⟨n,x,_,rfl,rfl,aZ.2 rfl⟩⟩⟩
 |kp=>simp[rJ]at h
 |fn=>simp[rJ]at h
theorem Db{ok:aY}{P:aC}:∀{xs:az AA} {n j:aC} {vs:az AV} {ws:az (aC×eR)},(Co ok n xs).val σ=ah (vs,ws)->vs=gE n xs/\(∀(i:aC) (a:AA),xs[i]? =ah a->RW ok σ (n+i) a)/\
  ∃L,ws=mm L/\(∀m t ob,(m,t,ob)∈L↔∃i e ex ys,xs[i]? =ah (.ow e ex ys)/\m=n+i/\t=ah (dX P (j+i))/\ob= .row e ex ys)/\∀(i:aC) (v:AV) (a:AA),vs[i]? =ah v->xs[i]? =ah a->lW ok L v (lk (dX P (j+i)) a):=by
 intro xs;induction xs with
 |nil=>intro n j vs ws h;obtain⟨rfl,rfl⟩:=bV (aF h);exact⟨rfl,λi a h=>by simp at h,[],rfl,λm t ob=>by simp,λi v a h=>by simp at h⟩
 |cons a xs ih=>
  intro n j vs ws h;obtain⟨⟨v,w1⟩,h1,h⟩:=Rd.bind_some h;obtain⟨⟨vr,w2⟩,h2,h⟩:=Rd.bind_some h;obtain⟨rfl,rfl⟩:=bV (aF h);obtain⟨b1,rfl,b2⟩:=FX h1;obtain⟨rfl,b3⟩:=b2 (dX P j);obtain⟨i1,i2,L,rfl,i3,i4⟩:=ih (j:=j+1) h2;refine⟨by rw[i1];rfl,λi a' hi=> ?_,QX n (dX P j) a++L,by rw[iN],λm t ob=> ?_,λi v' a' hv ha=> ?_⟩
  ·cases i with
   |zero=>cases hi;exact b1
   |succ i=>have:=i2 i a' hi;rwa[show n+1+i=n+(i+1)by omega]at this
  ·rw[bf,Kv,i3];constructor
   ·rintro (⟨e,ex,ys,rfl,rfl,rfl,rfl⟩|⟨i,e,ex,ys,h1,rfl,rfl,rfl⟩)
    ·exact⟨0,e,ex,ys,rfl,rfl,rfl,rfl⟩
    ·exact⟨i+1,e,ex,ys,h1,by omega,by rw[show j+1+i=j+(i+1)by omega],rfl⟩
   ·rintro ⟨i,e,ex,ys,h1,rfl,rfl,rfl⟩;cases i with
    |zero=>cases h1;exact .inl ⟨e,ex,ys,rfl,rfl,rfl,rfl⟩
    |succ i=>exact .inr ⟨i,e,ex,ys,h1,by omega,by rw[show j+1+i=j+(i+1)by omega],rfl⟩
  ·cases i with
   |zero=>cases hv;cases ha;exact b3.mono (λe he=>bW _ he)
   |succ i=>have:=(i4 i v' a' hv ha).mono (L':=QX n (dX P j) a++L) (λe he=>bO _ he);rwa[show j+1+i=j+(i+1)by omega]at this
def Jt(σ:St)(ok:aY)(b P:aC)(x:fj)(L:az EF)(n:aC)(t:ay aC)(ob:Obj):Prop:=
 (∃xs j e ex ys,Nw x xs/\xs[j]? =ah (.ow e ex ys)/\n=b+j/\t=ah (dX P j)/\ob= .row e ex ys/\(ex=ai\/ok=ai)/\σ (db n)= .jZ/\n<900000000)\/
 ∃xs,x= .pt xs/\n=b+30/\t=ah (dX P 900)/\ob= .box (gE b xs)/\σ (db n)= .jZ/\n<900000000/\nL ok L (gE b xs) (gE (dX P 0) xs)
theorem LO{ok:aY}{b P:aC}{x:fj}{s:aY×az AV}{ws:az (aC×eR)}(h:(HY ok b x).val σ=ah (s,ws)):∃L,ws=mm L/\(∀n t ob,(n,t,ob)∈L->Jt σ ok b P x L n t ob)/\ArgRel ok L s (HW P x):=by
 have tH:∀j,dX P (0+j)=dX P 0+j:=λj=>by unfold dX;omega
 cases x with
 |v g xs=>
  obtain⟨⟨vs,w1⟩,h1,h⟩:=Rd.bind_some h;obtain⟨rfl,rfl⟩:=bV (aF h);obtain⟨rfl,i2,L,rfl,i3,i4⟩:=Db (P:=P) (j:=0) h1;refine⟨L,rfl,λn t ob hm=> ?_,rfl,by simp[HW,iP],λj v v3 hv Fh=> .inl ?_⟩
  ·obtain⟨i,e,ex,ys,h1,rfl,rfl,rfl⟩:=(i3 n t ob).1 hm;have:=i2 i _ h1;exact .inl ⟨xs,i,e,ex,ys, .inl ⟨g,rfl⟩,h1,rfl,by rw[bT],rfl,this⟩
  ·have Fh:(gE (dX P 0) xs)[j]? =ah v3:=Fh;rw[iD]at Fh;cases hx:xs[j]? with
   |none=>rw[hx]at Fh;cases Fh
   |some a=>rw[hx]at Fh;cases Fh;have:=i4 j v a hv hx;rwa[tH]at this
 |pt xs=>
  obtain⟨⟨vs,w1⟩,h1,h⟩:=Rd.bind_some h;obtain⟨u,h2,h⟩:=Rd.bind_some h;obtain⟨rfl,rfl⟩:=bV (aF h);obtain⟨f1,f2⟩:=kF h2;obtain⟨rfl,i2,L,rfl,i3,i4⟩:=Db (P:=P) (j:=0) h1;have cr:nL ok L (gE b xs) (gE (dX P 0) xs):=by
   refine⟨by rw[iP,iP],λj v v3 hv Fh=> ?_⟩
   rw[iD]at Fh;cases hx:xs[j]? with
   |none=>rw[hx]at Fh;cases Fh
   |some a=>rw[hx]at Fh;cases Fh;have:=i4 j v a hv hx;rwa[tH]at this
  refine⟨L++[(b+30,ah (dX P 900), .box (gE b xs))],by rw[iN];rfl,λn t ob hm=> ?_,rfl,rfl,λj v v3 hv Fh=> .inr ?_⟩
  ·rcases bf.1 hm with hm|hm
   ·obtain⟨i,e,ex,ys,h1,rfl,rfl,rfl⟩:=(i3 n t ob).1 hm;have:=i2 i _ h1;exact .inl ⟨xs,i,e,ex,ys, .inr rfl,h1,rfl,by rw[bT],rfl,this⟩
   ·rw[aZ]at hm;cases hm;exact .inr ⟨xs,rfl,rfl,rfl,rfl,f1,f2,cr.mono (λe he=>bW _ he)⟩
  ·cases j with
   |zero=>cases hv;cases Fh;exact⟨_,_,_,rfl,rfl,bO _ (aZ.2 rfl)⟩
   |succ j=>simp at hv
 |fb xs=>simp[HY]at h
theorem ArgRel.mono{ok:aY}{L L':az EF}{s s3:aY×az AV}(h:ArgRel ok L s s3)(hs:∀e∈L,e∈L'):ArgRel ok L' s s3:=⟨h.1,h.2.1,λj x y hx hy=>(h.2.2 j x y hx hy).imp (λh=>h.mono hs) (λ⟨n,x,ob,h1,h2,h3⟩=>⟨n,x,ob,h1,h2,hs _ h3⟩)⟩
theorem Jt.mono{ok:aY}{b P:aC}{x:fj}{L L':az EF}{n:aC}{t:ay aC}{ob:Obj}(h:Jt σ ok b P x L n t ob)(hs:∀e∈L,e∈L'):Jt σ ok b P x L' n t ob:=h.imp id (λ⟨xs,h1,h2,h3,h4,h5,h6,h7⟩=>⟨xs,h1,h2,h3,h4,h5,h6,h7.mono hs⟩)
theorem JF{ok:aY}:∀{l:az fj} {b P:aC} {ss:az (aY×az AV)} {ws:az (aC×eR)},(Dc ok b l).val σ=ah (ss,ws)->∃L,ws=mm L/\(∀n t ob,(n,t,ob)∈L->∃q x,l[q]? =ah x/\Jt σ ok (b+40*q) (P+q) x L n t ob)/\GP ok L ss (lr P l):=by
 intro l;induction l with
 |nil=>intro b P ss ws h;obtain⟨rfl,rfl⟩:=bV (aF h);exact⟨[],rfl,λn t ob h=>(by cases h),rfl,λj x x3 h=>by simp at h⟩
 |cons x l ih=>
  intro b P ss ws h;obtain⟨⟨v,w1⟩,h1,h⟩:=Rd.bind_some h;obtain⟨⟨vr,w2⟩,h2,h⟩:=Rd.bind_some h;obtain⟨rfl,rfl⟩:=bV (aF h);obtain⟨L1,rfl,a1,a2⟩:=LO (P:=P) h1;obtain⟨L2,rfl,b1,b2,b3⟩:=ih (P:=P+1) h2;refine⟨L1++L2,by rw[iN],λn t ob hm=> ?_,by simp[lr,b2],λj s s3 hs hs3=> ?_⟩
  ·rcases bf.1 hm with hm|hm
   ·exact⟨0,x,rfl,(a1 n t ob hm).mono (λe he=>bW _ he)⟩
   ·obtain⟨q,y,hq,hr⟩:=b1 n t ob hm;refine⟨q+1,y,hq, ?_⟩
    rw[show b+40*(q+1)=b+40+40*q by omega,show P+(q+1)=P+1+q by omega];exact hr.mono (λe he=>bO _ he)
  ·cases j with
   |zero=>cases hs;cases hs3;exact a2.mono (λe he=>bW _ he)
   |succ j=>exact(b3 j s s3 hs hs3).mono (λe he=>bO _ he)
end
end Go.FG

namespace Go.FG
section
variable {P:c6} {E:fS} {σ:St} {a:Act} {w:bJ} {c:e9} {o:fB} {nm:aC} {e:sV}
def qW(σ:St)(ok bx:aY)(b p j:aC)(k:Pk)(a:AA)(n:aC)(t:ay aC)(ob:Obj):Prop:=
 (∃e ex,k.src= .own n e ex/\t=aj/\ob= .dead)\/
 (∃e ex ys,k.src= .own n e ex/\a= .kp ys/\t=ah (dX p j)/\ob= .row e ex ys/\(ex=ai\/ok=ai))\/
 ∃e ex ys,bx=ai/\a= .ow e ex ys/\n=b+j/\t=ah (dX p (100+j))/\ob= .row e ex ys/\(ex=ai\/ok=ai)/\σ (db n)= .jZ/\n<900000000
theorem VV{ok:aY}{b p j:aC}{k:Pk}{a:AA}{ws:az (aC×eR)}(h:(Gx ok k a).val σ=ah ws):∃L,ws=mm L/\(∀n t ob,(n,t,ob)∈L->qW σ ok ak b p j k a n t ob)/\∀n e ex,k.src= .own n e ex->∃t ob,(n,t,ob)∈L:=by
 cases hs:k.src with
 |no=>
  have h:(Rd.ret []:Rd (az (aC×eR))).val σ=ah ws:=by unfold Gx at h;rw[hs]at h;exact h
  obtain rfl:=aF h;exact⟨[],rfl,λn t ob h=>(by cases h),λn e ex h=>by cases h⟩
 |own n e ex=>
  cases a with
  |kp ys=>
   have h:(bif ex||ok then Rd.ret [(db n,eR.o (.row e ex ys))]else .fail).val σ=ah ws:=by unfold Gx at h;rw[hs]at h;exact h
   obtain⟨h1,h⟩:=cR h;obtain rfl:=aF h;refine⟨[(n,ah (dX p j), .row e ex ys)],rfl,λm t ob hm=> ?_,λm e' uv h=> ?_⟩
   ·rw[aZ]at hm;cases hm;exact .inr (.inl ⟨e,ex,ys,hs,rfl,rfl,rfl,by simpa using h1⟩)
   ·cases h;exact⟨_,_,aZ.2 rfl⟩
  |nl=>
   have h:(Rd.ret [(db n,eR.o .dead)]:Rd (az (aC×eR))).val σ=ah ws:=by unfold Gx at h;rw[hs]at h;exact h
   obtain rfl:=aF h;refine⟨[(n,aj, .dead)],rfl,λm t ob hm=> ?_,λm e' uv h=> ?_⟩
   ·rw[aZ]at hm;cases hm;exact .inl ⟨e,ex,hs,rfl,rfl⟩
   ·cases h;exact⟨_,_,aZ.2 rfl⟩
  |_=>unfold Gx at h;rw[hs]at h;simp at h
theorem Q2{ok:aY}{b p:aC}:∀{r:az Pk} {l:az AA} {j:aC} {ws:az (aC×eR)},(MT ok r l).val σ=ah ws->∃L,ws=mm L/\(∀n t ob,(n,t,ob)∈L->∃i k,r[i]? =ah k/\qW σ ok ak b p (j+i) k (l.getD i .nl) n t ob)/\
  ∀(i:aC) (k:Pk) (n e:aC) (ex:aY),r[i]? =ah k->k.src= .own n e ex->∃t ob,(n,t,ob)∈L:=by
 intro r;induction r with
 |nil=>intro l j ws h;obtain rfl:=aF h;exact⟨[],rfl,λn t ob h=>(by cases h),λi k n e ex h=>by simp at h⟩
 |cons k r ih=>
  intro l j ws h;obtain⟨w1,h1,h⟩:=Rd.bind_some h;obtain⟨w2,h2,h⟩:=Rd.bind_some h;obtain rfl:=aF h;obtain⟨L1,rfl,a1,a2⟩:=VV (b:=b) (p:=p) (j:=j) h1;obtain⟨L2,rfl,b1,b2⟩:=ih (j:=j+1) h2;have e0:l.headD .nl=l.getD 0 .nl:=by cases l<;>rfl
  have e1:∀i,l.tail.getD i .nl=l.getD (i+1) .nl:=λi=>by cases l<;>simp
  refine⟨L1++L2,by rw[iN],λn t ob hm=> ?_,λi k' n e ex hk hs=> ?_⟩
  ·rcases bf.1 hm with hm|hm
   ·exact⟨0,k,rfl,by rw[<-e0];exact a1 n t ob hm⟩
   ·obtain⟨i,k',hk,hc⟩:=b1 n t ob hm;rw[e1]at hc;exact⟨i+1,k',hk,by rw[show j+(i+1)=j+1+i by omega];exact hc⟩
  ·cases i with
   |zero=>cases hk;obtain⟨t,ob,h⟩:=a2 n e ex hs;exact⟨t,ob,bW _ h⟩
   |succ i=>obtain⟨t,ob,h⟩:=b2 i k' n e ex hk hs;exact⟨t,ob,bO _ h⟩
theorem Q0{ok:aY}{b p j:aC}{k:Pk}{v v':AV}{a:AA}{ws:az (aC×eR)}(hv:∀n e ex,k.src= .own n e ex->v= .own n)(h:(DU ok (b+j) k v a).val σ=ah (v',ws)):
  ∃L,ws=mm L/\(∀n t ob,(n,t,ob)∈L->qW σ ok ai b p j k a n t ob)/\(∀n e ex,k.src= .own n e ex->∃t ob,(n,t,ob)∈L)/\lW ok L v' (tK p j a):=by
 have new:∀{v':AV} {ws:az (aC×eR)},(rJ ok (b+j) a).val σ=ah (v',ws)->∃L,ws=mm L/\(∀n t ob,(n,t,ob)∈L->qW σ ok ai b p j k a n t ob)/\lW ok L v' (tK p j a):=by
  intro v' ws h;obtain⟨b1,rfl,b2⟩:=FX h;obtain⟨rfl,b3⟩:=b2 (dX p (100+j));refine⟨_,rfl,λn t ob hm=> ?_, ?_⟩
  ·obtain⟨e,ex,ys,rfl,rfl,rfl,rfl⟩:=Kv.1 hm;exact .inr (.inr ⟨e,ex,ys,rfl,rfl,rfl,rfl,rfl,b1⟩)
  ·have:tK p j a=lk (dX p (100+j)) a:=by cases a<;>first|rfl|exact b1.elim
   rw[this];exact b3
 cases hs:k.src with
 |no=>
  have h:(rJ ok (b+j) a).val σ=ah (v',ws):=by unfold DU at h;rw[hs]at h;exact h
  obtain⟨L,rfl,a1,a2⟩:=new h;exact⟨L,rfl,a1,λm e' uv h=>(by cases h),a2⟩
 |own n e ex=>
  have other:((rJ ok (b+j) a).bind λ(x:AV×az (aC×eR))=>Rd.ret (x.1,(db n,eR.o .dead)::x.2)).val σ=ah (v',ws)->∃L,ws=mm L/\(∀n t ob,(n,t,ob)∈L->qW σ ok ai b p j k a n t ob)/\(∀n' e' uv,Src.own n e ex= .own n' e' uv->∃t ob,(n',t,ob)∈L)/\lW ok L v' (tK p j a):=by
   intro h;obtain⟨⟨v1,w1⟩,h1,h⟩:=Rd.bind_some h;obtain⟨rfl,rfl⟩:=bV (aF h);obtain⟨L,rfl,a1,a2⟩:=new h1;refine⟨(n,aj, .dead)::L,rfl,λm t ob hm=> ?_,λm e' uv h=> ?_,a2.mono (λe he=>c9 _ he)⟩
   ·rcases cB.1 hm with hm|hm
    ·cases hm;exact .inl ⟨e,ex,hs,rfl,rfl⟩
    ·exact a1 m t ob hm
   ·cases h;exact⟨_,_,dL ..⟩
  cases a with
  |kp ys=>
   have h:(bif ex||ok then Rd.ret (v,[(db n,eR.o (.row e ex ys))])else .fail).val σ=ah (v',ws):=by unfold DU at h;rw[hs]at h;exact h
   obtain⟨h1,h⟩:=cR h;obtain⟨rfl,rfl⟩:=bV (aF h);refine⟨[(n,ah (dX p j), .row e ex ys)],rfl,λm t ob hm=> ?_,λm e' uv h=> ?_, .inr ⟨n,dX p j,_,hv n e ex hs,rfl,aZ.2 rfl⟩⟩
   ·rw[aZ]at hm;cases hm;exact .inr (.inl ⟨e,ex,ys,hs,rfl,rfl,rfl,by simpa using h1⟩)
   ·cases h;exact⟨_,_,aZ.2 rfl⟩
  |_=>exact other (by unfold DU at h;rw[hs]at h;exact h)
theorem MQ{ok:aY}{b p:aC}:∀{r:az Pk} {vs:az AV} {l:az AA} {j:aC} {Le:az AV} {ws:az (aC×eR)},(∀(i:aC) (k:Pk) (n e:aC) (ex:aY),r[i]? =ah k->k.src= .own n e ex->vs[i]? =ah (.own n))->(rT ok (b+j) r vs l).val σ=ah (Le,ws)->
  l.length=r.length/\∃L,ws=mm L/\(∀n t ob,(n,t,ob)∈L->∃i k,r[i]? =ah k/\qW σ ok ai b p (j+i) k (l.getD i .nl) n t ob)/\
  (∀(i:aC) (k:Pk) (n e:aC) (ex:aY),r[i]? =ah k->k.src= .own n e ex->∃t ob,(n,t,ob)∈L)/\Le.length=l.length/\∀(i:aC) (v:AV) (a:AA),Le[i]? =ah v->l[i]? =ah a->lW ok L v (tK p (j+i) a):=by
 intro r;induction r with
 |nil=>
  intro vs l j Le ws hv h;cases vs with
  |cons=>cases l<;>simp[rT]at h
  |nil=>
   cases l with
   |cons=>simp[rT]at h
   |nil=>obtain⟨rfl,rfl⟩:=bV (aF h);exact⟨rfl,[],rfl,λn t ob h=>(by cases h),λi k n e ex h=>by simp at h,rfl,λi v a h=>by simp at h⟩
 |cons k r ih=>
  intro vs l j Le ws hv h;cases vs with
  |nil=>cases l<;>simp[rT]at h
  |cons v vs=>
   cases l with
   |nil=>simp[rT]at h
   |cons a l=>
    obtain⟨⟨v1,w1⟩,h1,h⟩:=Rd.bind_some h;obtain⟨⟨vr,w2⟩,h2,h⟩:=Rd.bind_some h;obtain⟨rfl,rfl⟩:=bV (aF h);obtain⟨L1,rfl,a1,a2,a3⟩:=Q0 (p:=p) (λn e ex hs=>by have:=hv 0 k n e ex rfl hs;simpa using this) h1;obtain⟨i0,L2,rfl,b1,b2,b3,b4⟩:=ih (j:=j+1) (λi k' n e ex hk hs=>hv (i+1) k' n e ex hk hs) h2;refine⟨by simp[i0],L1++L2,by rw[iN],λn t ob hm=> ?_,λi k' n e ex hk hs=> ?_,by simp[b3],λi v' a' hv' ha'=> ?_⟩
    ·rcases bf.1 hm with hm|hm
     ·exact⟨0,k,rfl,a1 n t ob hm⟩
     ·obtain⟨i,k',hk,hc⟩:=b1 n t ob hm;exact⟨i+1,k',hk,by rw[show j+(i+1)=j+1+i by omega];exact hc⟩
    ·cases i with
     |zero=>cases hk;obtain⟨t,ob,h⟩:=a2 n e ex hs;exact⟨t,ob,bW _ h⟩
     |succ i=>obtain⟨t,ob,h⟩:=b2 i k' n e ex hk hs;exact⟨t,ob,bO _ h⟩
    ·cases i with
     |zero=>cases hv';cases ha';exact a3.mono (λe he=>bW _ he)
     |succ i=>have:=(b4 i v' a' hv' ha').mono (L':=L1++L2) (λe he=>bO _ he);rwa[show j+1+i=j+(i+1)by omega]at this
def Jr(σ:St)(ok:aY)(b p:aC)(pa:Pa)(l:az AA)(L:az EF)(n:aC)(t:ay aC)(ob:Obj):Prop:=
 (∃i k,pa.cs[i]? =ah k/\qW σ ok pa.box.isSome b p i k (l.getD i .nl) n t ob)\/∃xs Le,pa.box=ah (n,xs)/\t=ah (dX p 900)/\ob= .box Le/\nL ok L Le (n8 p 0 l)
theorem VU{T:Tab}{nH:az aC}{v:bn}{ok:aY}{b p:aC}{pa:Pa}(Mu:BK T σ w c nH pa v){l:az AA}{ws:az (aC×eR)}(h:(VT ok b pa l).val σ=ah ws):
  ∃L,ws=mm L/\(∀n t ob,(n,t,ob)∈L->Jr σ ok b p pa l L n t ob)/\∀n∈pa.uC,∃t ob,(n,t,ob)∈L:=by
 have cs:∀n,n∈pa.cs.flatMap (·.uC)->∃(i:aC) (k:Pk) (e:aC) (ex:aY),pa.cs[i]? =ah k/\k.src= .own n e ex:=by
  intro n hn;obtain⟨k,hk,hn⟩:=bL.1 hn;obtain⟨i,hi⟩:=b7 hk;unfold Pk.uC at hn;split at hn
  ·rename_i m e ex hs;have:=aZ.1 hn;subst this;exact⟨i,k,e,ex,hi,hs⟩
  ·cases hn
 unfold VT at h;split at h
 ·rename_i n xs hb;obtain⟨⟨Le,w1⟩,h1,h⟩:=Rd.bind_some h;obtain rfl:=aF h;obtain⟨_,_,_,hl,_,wy⟩:=Mu.box n xs hb;obtain⟨i0,L,rfl,a1,a2,a3,a4⟩:=MQ (b:=b) (p:=p) (j:=0) wy (by rw[zP];exact h1);have cr:nL ok L Le (n8 p 0 l):=by
   refine⟨by rw[vx,a3],λi v v3 hv Fh=> ?_⟩
   rw[wE]at Fh;cases hx:l[i]? with
   |none=>rw[hx]at Fh;cases Fh
   |some y=>rw[hx]at Fh;cases Fh;exact a4 i v y hv hx
  refine⟨L++[(n,ah (dX p 900), .box Le)],by rw[iN];rfl,λm t ob hm=> ?_,λm hm=> ?_⟩
  ·rcases bf.1 hm with hm|hm
   ·obtain⟨i,k,hk,hc⟩:=a1 m t ob hm;rw[bT]at hc;exact .inl ⟨i,k,hk,by rw[hb];exact hc⟩
   ·rw[aZ]at hm;cases hm;exact .inr ⟨xs,Le,hb,rfl,rfl,cr.mono (λe he=>bW _ he)⟩
  ·unfold Pa.uC at hm;rw[hb]at hm;rcases bf.1 hm with hm|hm
   ·have:=aZ.1 hm;subst this;exact⟨_,_,bO _ (aZ.2 rfl)⟩
   ·obtain⟨i,k,e,ex,hk,hs⟩:=cs m hm;obtain⟨t,ob,h⟩:=a2 i k m e ex hk hs;exact⟨t,ob,bW _ h⟩
 ·rename_i hb;obtain⟨L,rfl,a1,a2⟩:=Q2 (b:=b) (p:=p) (j:=0) h;refine⟨L,rfl,λm t ob hm=> ?_,λm hm=> ?_⟩
  ·obtain⟨i,k,hk,hc⟩:=a1 m t ob hm;rw[bT]at hc;exact .inl ⟨i,k,hk,by rw[hb];exact hc⟩
  ·unfold Pa.uC at hm;rw[hb,gG]at hm;obtain⟨i,k,e,ex,hk,hs⟩:=cs m hm;exact a2 i k m e ex hk hs
theorem Jr.mono{ok:aY}{b p:aC}{pa:Pa}{l:az AA}{L L':az EF}{n:aC}{t:ay aC}{ob:Obj}(h:Jr σ ok b p pa l L n t ob)(hs:∀e∈L,e∈L'):Jr σ ok b p pa l L' n t ob:=
 h.imp id (λ⟨xs,Le,h1,h2,h3,h4⟩=>⟨xs,Le,h1,h2,h3,h4.mono hs⟩)
theorem Q1{T:Tab}{nH:az aC}{ok:aY}:∀{ps:az Pa} {b p:aC} {os:az (az AA)} {ws:az (aC×eR)},(∀(q:aC) (pa:Pa),ps[q]? =ah pa->∃v,BK T σ w c nH pa v)->(MS ok b ps os).val σ=ah ws->
  ∃L,ws=mm L/\(∀n t ob,(n,t,ob)∈L->∃q pa,ps[q]? =ah pa/\Jr σ ok (b+40*q) (p+q) pa (os.getD q []) L n t ob)/\∀n∈ps.flatMap (·.uC),∃t ob,(n,t,ob)∈L:=by
 intro ps;induction ps with
 |nil=>intro b p os ws _ h;obtain rfl:=aF h;exact⟨[],rfl,λn t ob h=>(by cases h),λn h=>(by cases h)⟩
 |cons pa ps ih=>
  intro b p os ws Il h;obtain⟨w1,h1,h⟩:=Rd.bind_some h;obtain⟨w2,h2,h⟩:=Rd.bind_some h;obtain rfl:=aF h;obtain⟨v,Mu⟩:=Il 0 pa rfl;obtain⟨L1,rfl,a1,a2⟩:=VU (p:=p) Mu h1;obtain⟨L2,rfl,b1,b2⟩:=ih (p:=p+1) (λq pa' hq=>Il (q+1) pa' hq) h2;have e0:os.headD []=os.getD 0 []:=by cases os<;>rfl
  have e1:∀i,os.tail.getD i []=os.getD (i+1) []:=λi=>by cases os<;>simp
  refine⟨L1++L2,by rw[iN],λn t ob hm=> ?_,λn hn=> ?_⟩
  ·rcases bf.1 hm with hm|hm
   ·exact⟨0,pa,rfl,by rw[<-e0];exact(a1 n t ob hm).mono (λe he=>bW _ he)⟩
   ·obtain⟨q,pa',hq,hc⟩:=b1 n t ob hm;rw[e1]at hc;refine⟨q+1,pa',hq, ?_⟩
    rw[show b+40*(q+1)=b+40+40*q by omega,show p+(q+1)=p+1+q by omega];exact hc.mono (λe he=>bO _ he)
  ·rw[zM]at hn;rcases bf.1 hn with hn|hn
   ·obtain⟨t,ob,h⟩:=a2 n hn;exact⟨t,ob,bW _ h⟩
   ·obtain⟨t,ob,h⟩:=b2 n hn;exact⟨t,ob,bO _ h⟩
theorem Uc:∀{l:az aC} {ws:az (aC×eR)},(Ub l).val σ=ah ws->∃Fz:az (aC×Obj),ws=ka Fz/\(∀n x,(n,x)∈Fz->n∈l/\∃el ex xs,σ (db n)= .o (.row el ex xs)/\x= .fV el xs)/\∀n∈l,∃x,(n,x)∈Fz:=by
 intro l;induction l with
 |nil=>intro ws h;obtain rfl:=aF h;exact⟨[],rfl,λn x h=>(by cases h),λn h=>(by cases h)⟩
 |cons m l ih=>
  intro ws h;obtain⟨ob,hg,h⟩:=Rd.bind_some h;have hg:=dy hg;cases ob with
  |row el ex xs=>
   obtain⟨w1,h1,h⟩:=Rd.bind_some h;obtain rfl:=aF h;obtain⟨Fz,rfl,a1,a2⟩:=ih h1;refine⟨(m, .fV el xs)::Fz,rfl,λn x hm=> ?_,λn hn=> ?_⟩
   ·rcases cB.1 hm with hm|hm
    ·cases hm;exact⟨dL ..,el,ex,xs,hg,rfl⟩
    ·obtain⟨h1,h2⟩:=a1 n x hm;exact⟨c9 _ h1,h2⟩
   ·rcases cB.1 hn with rfl|hn
    ·exact⟨_,dL ..⟩
    ·obtain⟨x,h⟩:=a2 n hn;exact⟨x,c9 _ h⟩
  |_=>simp at h
end
end Go.FG

namespace Go.FG
section
variable {P:c6} {E:fS} {σ:St} {a:Act} {w:bJ} {c:e9} {o:fB} {nm:aC} {e:sV}
theorem aok{T:Tab}{nH:az aC}{pa:Pa}{v:bn}(h:BK T σ w c nH pa v):∃xs,Nw pa.arg xs/\xs=pa.cs.map (·.a)/\∀(j:aC) (k:Pk),pa.cs[j]? =ah k->∃u,vQ T σ w c nH k u:=by
 have h1:Nw pa.arg (pa.cs.map (·.a)):=by
  cases hb:pa.box with
  |none=>obtain⟨g,h1,_⟩:=h.val hb;exact .inl ⟨g,h1⟩
  |some nx=>obtain⟨n,xs⟩:=nx;exact .inr (h.box n xs hb).1
 exact⟨_,h1,rfl,(VX h h1).2⟩
theorem YH{l:az AA}{i:aC}{ys:aQ}(h:l.getD i .nl= .kp ys):l[i]? =ah (.kp ys):=by
 rw[d_]at h;cases hx:l[i]? with
 |none=>rw[hx]at h;cases h
 |some x=>rw[hx]at h;rw[<-h];rfl
theorem GF{f:aC}{fn:Func}{vs psv:dp bn}{cl:Call}{fx:dx}(ho:o.op= .call cl)(hc:cl.callee= .value fx)(hf:P.funcs[f]? =ah fn)(hb:fn.body.isSome=ai)(hn:(fn.name== "runtime.NumGoroutine")=ak)(he:a.eval fx= .func (.func f) #[] psv):
  (execOp a.eval o).run P w= .ok (.enter f (cl.args.map a.eval++psv)) w:=by
 have RD:fn.body.isNone=false:=by cases h:fn.body<;>simp_all
 unfold execOp;rw[ho];simp only[resolve,hc,he,Deferred.ofValue,cq,cU,bG,invoke,callFunc,program,ni,hf,hn,RD,dt,if_false,Array.empty_append]
def nameOf(nm:aC)(ps:az Pa)(P J:aC):ay aC:=
 if 500<=P then ah (if J=900 then nm+1+40*(P-500)+30 else nm+1+40*(P-500)+J)
 else if J<100\/J=900 then loc ps (dX P J)else ah (nm+400+40*P+(J-100))
theorem oO:∀{l r:az aC},rH l r=ai->∀n∈l,n∉r
 |[],_,_,n,h=>by cases h
 |m::l,r,h,n,hn=>by
  simp only[rH,aK,du]at h;rcases cB.1 hn with rfl|hn
  ·exact qm h.1
  ·exact oO h.2 n hn
theorem KC(hE:eH P E)(hF:∀g,bX P E g (E.call g))(cj:Ok E σ w c)(dI:fC E σ a w c)(hd:∀d,o.dst=ah d->d<a.tmps.size){cl:Call}{fx:dx}(ho:o.op= .call cl)(hb:cl.callee= .value fx){f:aC}{iQ:az (az CV)}(ef:eL E w c (.fn f iQ) (a.eval fx)){RK:ay (az aC)}(h:(H2 E nm o f cl.args.toList RK iQ).val σ=ah e)(hc:e.cond=ai):gV P E σ a w c o e.ws:=by
  obtain⟨psv,he,Il,ald⟩:=ef;unfold H2 at h;obtain⟨ps,h2,h⟩:=Rd.bind_some h;obtain⟨h3,h⟩:=cR h;simp only[aK]at h3;obtain⟨hlen,Mu⟩:=TK cj dI h2;split at h
  ·rename_i cnd r Kb;obtain⟨h4,h⟩:=cR h;simp only[aK]at h4;obtain⟨w0,h5,h⟩:=Rd.bind_some h;obtain⟨w1,h6,h⟩:=Rd.bind_some h;obtain⟨⟨ss,w2⟩,h7,h⟩:=Rd.bind_some h;obtain⟨h8,h⟩:=cR h;obtain rfl:=aF h;have hc:cnd=true:=hc;subst hc;have aC1:=cL h4.1.1;have avY:∀{q:aC} {pa:Pa},ps[q]? =ah pa->∀n∈pa.nH,n∈ps.flatMap (·.nH):=λhq n hn=>bL.2 ⟨_,aR hq,hn⟩;have hh:Handed E σ w c ps iQ (cl.args.map a.eval++psv):=by
    refine⟨by simp[Il,hlen],λq pa hq=> ?_,λq cs hq=> ?_,qI h3.1,oO h3.2⟩
    ·obtain⟨x,hx,hp⟩:=Mu q pa hq;rw[cZ]at hx;have YU:=(dY.1 hx).1;exact⟨a.eval x,by rw[Fv (by simpa using YU),P5,hx];rfl,hp.mono (avY hq)⟩
    ·obtain⟨b,RD,hf⟩:=ald q cs hq;refine⟨b, ?_,hf⟩
     rw[Array.getElem?_append_right (by simp[hlen]),<-RD];congr 1;simp[hlen]
   have ahn:∀(q:aC) (pa:Pa),ps[q]? =ah pa->∃v,BK E σ w c (ps.flatMap (·.nH)) pa v:=λq pa hq=>by obtain⟨v,_,h⟩:=hh.at_ q pa hq;exact⟨v,h⟩
   obtain⟨Um,avZ,_⟩:=enter cj hh;have fZ:(cl.args.map a.eval++psv).size=(jH ps iQ).length:=by simp[jH,Il,hlen]
   have ag8:E.call f (jH ps iQ)=ah (ai,r):=Kb;obtain⟨⟨fn,g1,g2,g3⟩,Mm⟩:=hF f _ r ag8 w (qD σ c ps) _ Um fZ avZ;obtain⟨Fz,rfl,z1,z2⟩:=Uc h5;obtain⟨Lo,rfl,l1,l2⟩:=Q1 (p:=0) ahn h6;obtain⟨Lr,rfl,m1,m2⟩:=JF (P:=500) h7;generalize alA:(E.tk nm||(ps.flatMap (·.nH)).isEmpty)=ok at l1 m1 m2;have hsm:Small (jH ps iQ) r:=by
    refine⟨λp x xs hp hx=> ?_,λq x xs hq hx=> ?_,λp=> ?_⟩
    ·rcases v_ hp with ⟨pa,hq,_⟩|⟨_,cs,_,rfl⟩
     ·have:=(aT.1 hq).1;omega
     ·rcases hx with ⟨g,hx⟩|hx<;>cases hx
    ·have:=bA.1 h4.1.2 x (aR hq);have:=cL this;rcases hx with ⟨g,rfl⟩|rfl<;>(simp only[nr]at this;omega)
    ·rw[d_];cases hx:r.outs[p]? with
     |none=>simp
     |some l=>have:=bA.1 h4.2 l (aR hx);exact cL this
   have JE:∀{q:aC} {pa:Pa},ps[q]? =ah pa->(jH ps iQ)[q]? =ah pa.arg:=λ{q} {pa} hq=>by have:=(aT.1 hq).1;unfold jH;rw[dC (by simpa using this),bI,hq];rfl
   have Ky:∀{q:aC} {pa:Pa} {n:aC},ps[q]? =ah pa->n∈pa.uC->n∈ps.flatMap (·.uC):=λhp hn=>bL.2 ⟨_,aR hp,hn⟩;have ak2:∀{q i n e:aC} {ex:aY} {pa:Pa} {k:Pk},ps[q]? =ah pa->pa.cs[i]? =ah k->k.src= .own n e ex->n∈ps.flatMap (·.uC):=λhq hk hs=>Ky hq (bO _ (bL.2 ⟨_,aR hk,by simp[Pk.uC,hs]⟩));have small:∀{q i:aC} {pa:Pa} {k:Pk},ps[q]? =ah pa->pa.cs[i]? =ah k->i<100:=λhq hk=>by obtain⟨v,hv⟩:=ahn _ _ hq;have:=(aT.1 hk).1;have:=hv.len;omega
   unfold gV;intro K Q hK;unfold P8;rw[GF (vs:=cl.args.map a.eval++psv) ho hb g1 g2 g3 he,Xr];refine Calls.mono Mm (λen w'' hR=> ?_);cases en with
   |panicked=>exact hR.elim
   |outgrown=>exact hR.elim
   |returned v=>
    obtain⟨c3,Ik,y_,uw,zC⟩:=hR;have gk:∀m,inj (jH ps iQ) (db m)≠ .jZ->c3.P m=(qD σ c ps).P m/\c3.G m=(qD σ c ps).G m:=uw;have hL:∀n t ob,(n,t,ob)∈Lo++Lr->aby σ (oj (jH ps iQ) r) c c3 ok (ps.flatMap (·.uC)) (Lo++Lr) n t ob/\∀x,t=ah x->∃PP J,x=dX PP J/\J<1000/\nameOf nm ps PP J=ah n:=by
     intro n t ob hm;rcases bf.1 hm with hm|hm
     ·obtain⟨q,pa,hq,vt⟩:=l1 n t ob hm;obtain⟨v0,RG⟩:=ahn q pa hq;obtain⟨xs,hx1,XO,hx3⟩:=aok RG;have YU:=(aT.1 hq).1;rw[bT]at vt;rcases vt with ⟨i,k,hk,hco⟩|⟨ys,Le,hbx,rfl,rfl,hcr⟩
      ·have hi:=small hq hk;rcases hco with ⟨e',ex,hs,rfl,rfl⟩|⟨e',ex,ys,hs,ha,rfl,rfl,hex⟩|⟨e',ex,ys,hbx,ha,rfl,rfl,rfl,hex,hf,jb⟩
       ·refine⟨⟨λ_=>ak2 hq hk hs,λhn=> ?_,λ_=>rfl,λx hx=>(by cases hx)⟩,λx hx=>(by cases hx)⟩
        obtain⟨u,hu⟩:=hx3 i k hk;unfold vQ at hu;rw[hs]at hu;obtain⟨zs,hg,_⟩:=hu;rw[hg]at hn;cases hn
       ·obtain⟨u,hu⟩:=hx3 i k hk;unfold vQ at hu;rw[hs]at hu;obtain⟨zs,hg,hka,_⟩:=hu;refine⟨⟨λ_=>ak2 hq hk hs,λhn=>(by rw[hg]at hn;cases hn),λhx=>(by cases hx),λx hx=> ?_⟩,λx hx=> ?_⟩
        ·cases hx;refine⟨λ_=> ?_, .inl ⟨e',ex,ys,rfl, ?_,hex⟩⟩
         ·obtain⟨q1,q2⟩:=gk (dX q i) ((qG (JE hq)).2 xs i e' ex zs hx1 (by rw[XO,bI,hk];simp[hka]));obtain⟨q3,q4⟩:=uq (σ:=σ) (c:=c) (Is hq hk hs (by omega));exact⟨q1.trans q3,q2.trans q4⟩
         ·exact xL hsm (.kp q pa.arg xs i e' ex zs ys (JE hq) hx1 (by rw[XO,bI,hk];simp[hka]) (YH ha))
        ·cases hx;refine⟨q,i,rfl,by omega, ?_⟩
         unfold nameOf;rw[bH (by omega),bB (.inl hi)];exact Is hq hk hs (by omega)
       ·have hla:=Ie.1 ha;refine⟨⟨λhn=>cS hf hn,λ_=>jb,λhx=>(by cases hx),λx hx=> ?_⟩,λx hx=> ?_⟩
        ·cases hx;exact⟨λhn=>cS hf hn, .inl ⟨e',ex,ys,rfl,xL hsm (.nw q pa.arg xs i e' ex ys (JE hq) hx1 hla),hex⟩⟩
        ·cases hx;refine⟨q,100+i,rfl,by omega, ?_⟩
         unfold nameOf;rw[bH (by omega),bH (by omega)];congr 1;omega
      ·obtain⟨p1,p2,p3,_⟩:=RG.box n ys hbx;refine⟨⟨λ_=>Ky hq (by simp[Pa.uC,hbx]),λhn=>(by rw[p3]at hn;cases hn),λhx=>(by cases hx),λx hx=> ?_⟩,λx hx=> ?_⟩
       ·cases hx;refine⟨λ_=> ?_, .inr ⟨Le,_,rfl,xL hsm (.ob q _ (by rw[JE hq,p1])),hcr.mono (λe he=>bW _ he)⟩⟩
        obtain⟨q1,q2⟩:=gk (dX q 900) ((qG (JE hq)).1 _ p1);obtain⟨q3,q4⟩:=uq (σ:=σ) (c:=c) (CB hq hbx);exact⟨q1.trans q3,q2.trans q4⟩
       ·cases hx;refine⟨q,900,rfl,by omega, ?_⟩
        unfold nameOf;rw[bH (by omega),bB (.inr rfl)];exact CB hq hbx
     ·obtain⟨q,x0,hq,hra⟩:=m1 n t ob hm;rcases hra with ⟨xs,j,e',ex,ys,hx,hj,rfl,rfl,rfl,hex,hf,jb⟩|⟨xs,rfl,rfl,rfl,rfl,hf,jb,hcr⟩
      ·have kg:=(aT.1 hj).1;have:=hsm.rl q x0 xs hq hx;refine⟨⟨λhn=>cS hf hn,λ_=>jb,λhx=>(by cases hx),λx pE=> ?_⟩,λx pE=> ?_⟩
       ·cases pE;exact⟨λhn=>cS hf hn, .inl ⟨e',ex,ys,rfl,xL hsm (.rr q x0 xs j e' ex ys hq hx hj),hex⟩⟩
       ·cases pE;refine⟨500+q,j,rfl,by omega, ?_⟩
        unfold nameOf;rw[bB (by omega),bH (by omega),show 500+q-500=q by omega]
      ·refine⟨⟨λhn=>cS hf hn,λ_=>jb,λhx=>(by cases hx),λx pE=> ?_⟩,λx pE=> ?_⟩
       ·cases pE;exact⟨λhn=>cS hf hn, .inr ⟨_,_,rfl,xL hsm (.rb q xs hq),hcr.mono (λe he=>bO _ he)⟩⟩
       ·cases pE;refine⟨500+q,900,rfl,by omega, ?_⟩
        unfold nameOf;rw[bB (by omega),bB rfl,show 500+q-500=q by omega]
    have Kh:((Lo++Lr).map (·.1)).Nodup:=by
     have:=qI h8;rw[<-iN]at this;unfold mm ka at this;rw[kl,kl]at this;have e1:(Lo++Lr).map (((λx:aC×eR=>x.1)∘λd:aC×Obj=>(db d.1,eR.o d.2))∘λt:EF=>(t.1,t.2.2))=((Lo++Lr).map (·.1)).map db:=by rw[kl];rfl
     rw[e1]at this;exact rP this
    have Un:ok=ai->∀n∈ps.flatMap (·.nH),∃x,(n,x)∈Fz:=by
     intro hk n hn;rw[<-alA]at hk;cases Io:E.tk nm with
     |true=>rw[Io]at z2;exact z2 n hn
     |false=>
      rw[Io]at hk;have:ps.flatMap (·.nH)=[]:=by simpa using hk
      rw[this]at hn;cases hn
    have hFz:∀n x,(n,x)∈Fz->ok=ai/\n∈ps.flatMap (·.nH)/\∃el ex xs,σ (db n)= .o (.row el ex xs)/\x= .fV el xs:=by
     intro n x hn;obtain⟨y1,y2⟩:=z1 n x hn;cases Io:E.tk nm with
     |true=>rw[Io]at y1;exact⟨by rw[<-alA,Io];rfl,y1,y2⟩
     |false=>rw[Io]at y1;cases y1
    have hws:ka Fz++(mm Lo++mm Lr)++dw o (sw ss)=ka (Fz++(Lo++Lr).map λt=>(t.1,t.2.2))++dw o (sw ss):=by rw[<-iN];simp only[mm,ka,cQ]
    obtain⟨c',k1,k2,k3,k4⟩:=leave cj dI hd hh Ik y_ zC (L:=Lo++Lr) (Fz:=Fz) (λn t ob hm=>(hL n t ob hm).1) Kh
     (λn n' x ob ob' h1 h2=>by obtain⟨P1,J1,e1,e2,e3⟩:=(hL n _ ob h1).2 x rfl;obtain⟨P2,J2,f1,f2,f3⟩:=(hL n' _ ob' h2).2 x rfl;obtain⟨rfl,rfl⟩:=uE e2 f2 (e1.symm.trans f1);rw[e3]at f3;exact aF f3)
     (λn hn=>by obtain⟨t,ob,h⟩:=l2 n hn;exact⟨t,ob,bW _ h⟩) hFz Un
     (show GP ok (Lo++Lr) ss (lr 500 r.rs)from⟨m2.1,λj x x3 hx hx3=>(m2.2 j x x3 hx hx3).mono (λe he=>bO _ he)⟩)
    show K (a.put o.dst v) w'';rw[<-hws]at k1 k2 k3;exact hK v w'' c' k1 k2 k3 k4.w
  ·simp at h
theorem IG(cj:Ok E σ w c)(dI:fC E σ a w c){o:fB}(hd:∀d,o.dst=ah d->d<a.tmps.size){nm:aC}{ob ob':Obj}{s:SV}{v:bn}{w':bJ}
  (hn:σ (db nm)= .o ob) (mS:pR E w' c nm ob') (pV:∀b,fM c nm ob' b->fM c nm ob b)
  (Kf:∀xs,ob'= .box xs->∀a∈xs,jf σ a)
  (zC:jh E w' c s v) (B6:mJ σ s)
  (hW:∀b,b<w.heap.size->¬fM c nm ob b->w'.heap[b]? =w.heap[b]?) (fZ:w.heap.size<=w'.heap.size) (QJ:w'.os=w.os) (YX:w'.tape=w.tape) (YR:w'.output=w.output):
  Ok E (wr σ ([(db nm, .o ob')]++dw o s)) w' c/\fC E (wr σ ([(db nm, .o ob')]++dw o s)) (a.put o.dst v) w' c/\ot σ c w (wr σ ([(db nm, .o ob')]++dw o s)) c w':=by
 let σ1:=pM σ (db nm) (.o ob');obtain⟨s1,s2,s3⟩:=rY σ1 o s;have key:∀m,wr σ1 (dw o s) (db m)=if m=nm then .o ob' else σ (db m):=λm=>by rw[s3];exact p_ _ _ _ _
 have iy:∀m,σ (db m)≠ .jZ->wr σ1 (dw o s) (db m)≠ .jZ:=λm hm=>by rw[key];split<;>simp_all
 have fP:∀b,fM c nm ob b->j5 (λm=>m=nm) σ c b:=λb hb=>⟨nm,ob,rfl,hn,hb⟩
 have hh:=cj.change (σ':=wr σ1 (dw o s)) (w':=w') (c':=c) (λm=>m=nm) (λm hm=>by rw[key,bH hm]) iy (jz.refl _ _)
  (λb hb YQ=>hW b hb (λhf=>YQ (fP b hf))) fZ (λ_ h=>h) (λ_ h=> .inl h) (λb hb=>js (cj.lt b hb) fZ)
  (λm x hm ho=>by subst hm;rw[key,bB rfl]at ho;cases ho;exact mS)
  (λm x b hm ho hf=>by subst hm;rw[key,bB rfl]at ho;cases ho;exact⟨.inl (fP b (pV b hf)),cj.kk _ _ b hn (pV b hf)⟩)
  (λm x m' x' b hm xT _ _ _ _=>by rw[hm,xT])
  (λm xs hm ho y hy n kG=>by subst hm;rw[key,bB rfl]at ho;cases ho;exact iy n (Kf xs rfl y hy n kG)) QJ YX YR
 refine⟨hh.1, ?_,hh.2⟩
 refine dI.change cj hh.2 (jz.refl _ _) iy o v (λn kG=>by rw[s1 n kG];exact jl _ _ _ _) (λd ho=>⟨hd d ho, ?_, ?_⟩)
 ·rw[s2 d ho];exact zC
 ·rw[s2 d ho];intro n kG;rw[key];split
  ·simp
  ·exact B6 n kG
theorem MN(hE:eH P E)(hF:∀g,bX P E g (E.call g))(cj:Ok E σ w c)(dI:fC E σ a w c)(hd:∀d,o.dst=ah d->d<a.tmps.size){cl:Call}{fx x y:dx}(ho:o.op= .call cl)(hb:cl.callee= .value fx)(sk:cl.args.toList=[x,y])
  {f n i j:aC} (ef:eL E w c (.fn f []) (a.eval fx)) (hx:eL E w c (.mU n i j) (a.eval x)) (h:(DC E o f n i j y).val σ=ah e) (hc:e.cond=ai):gV P E σ a w c o e.ws:=by
 unfold DC at h;obtain⟨⟨k,m⟩,h1,h⟩:=Rd.bind_some h;have ey:=pY dI h1;obtain⟨ob,h2,h⟩:=Rd.bind_some h;have hg:=dy h2;split at h
 ·rename_i el xs;obtain⟨te,h3,h⟩:=Rd.bind_some h;have h6:=dZ h3;split at h
  ·rename_i e2 zA;split at h
   ·rename_i cnd r Kb;split at h
    ·rename_i k2 m2 ED hrs Kk;obtain rfl:=aF h;have hc:cnd=true:=hc;subst hc;obtain⟨⟨hi,hxv⟩,_⟩:=hx;obtain⟨zs,yy,t2,r1,r2,r3,r4,r5,r6,r7,r8⟩:=CA cj hg h6 zA hi;rw[fD r1 r2]at Kb;simp only[gD]at Kb;obtain⟨⟨t1,q1,fZ,mE⟩,gk,fP⟩:=cj.obj n _ hg;obtain rfl:te=t1:=aF (h6.symm.trans q1);have lZ:i<xs.length:=(aT.1 r1).1;obtain⟨ju,pv,hpb⟩:=gk.pos hi;have Fa:gp xs i j:=⟨yy,_,r1,r2,rfl⟩
     generalize hq:c.G n i j=p at r5 r7 r8 hxv;let c1:e9:=⟨λ_=>p,λ_ _ _=>⟨ai,0,0,0,0,0⟩,c.K⟩
     let args:az fj:=[.v ak [.ow e2 ai zs], .v ak [.i k m]]
     have hO:∀q o',inj args (db q)= .o o'->q=dX 0 0/\o'= .row e2 ai zs:=by
      intro q o' hq';have hm:=nT hq' (by simp);simp only[args,Mz,tC,vu,tB,Gm,cB,cu,gG,sZ,lK,or_false,jd]at hm;rcases hm with ⟨hm,_⟩|⟨hm,h⟩|⟨hm,_⟩
      ·exact cS hm (mh _ _)
      ·exact⟨jW hm,eR.o.inj h⟩
      ·exact cS hm (mh _ _)
     have hX:inj args (db (dX 0 0))= .o (.row e2 ai zs):=rfl;have DM:∀i j,¬gp zs i j:=by rintro i j ⟨y,x,h1,h2,h3⟩;rw[im r4 (r6 y (aR h1)) h2]at h3;cases h3
     have Kc:∀b,fM c1 (dX 0 0) (.row e2 ai zs) b->p.nil=ak/\b=p.blk:=by
      rintro b (⟨h1,h2⟩|⟨_,i,j,h,_⟩)
      ·exact⟨h1,h2⟩
      ·exact cS h (DM i j)
     have hpf:p.nil=ak->fM c n (.row el ai xs) p.blk:=λhn=> .inr ⟨rfl,i,j,Fa,by rw[hq];exact hn,by rw[hq]⟩;have Um:Ok E (inj args) w c1:=by
      refine⟨?_, ?_, ?_, ?_, ?_⟩
      ·intro q o' h;obtain⟨rfl,rfl⟩:=hO q o' h;exact⟨⟨t2,r3,r5,r6⟩,r7.frame (λ_=>rfl) (λi j y x u h1 h2 hr=>by rw[bB rfl];exact uJ (im r4 (r6 y (aR h1)) h2) hr),λ_=>⟨λi j h=>cS h (DM i j),λi j i' j' h=>cS h (DM i j)⟩⟩
      ·intro q o' q' o'' b h h' _ _;rw[(hO q o' h).1,(hO q' o'' h').1]
      ·intro q o' b h hf hk;obtain⟨rfl,rfl⟩:=hO q o' h;obtain⟨hn,rfl⟩:=Kc b hf;exact cj.kk _ _ _ hg (hpf hn) hk
      ·exact cj.lt
      ·intro q bs h;obtain⟨_,h⟩:=hO q _ h;cases h
     have Ut:(cl.args.map a.eval).size=args.length:=by
      have:cl.args.size=2:=by rw[<-dW,sk];rfl
      simp[args,this]
     have XI:cl.args.map a.eval= #[a.eval x,a.eval y]:=by apply sC;rw[BC,sk];rfl
     obtain⟨psv,he,Il,_⟩:=ef;have avP:psv= #[]:=BB (by simpa using Il);subst avP;obtain⟨⟨fn,g1,g2,g3⟩,Mm⟩:=hF f args r Kb w c1 #[a.eval x,a.eval y] Um rfl (by
      intro q arg hqa;match q with
      |0=>cases hqa;exact⟨_,rfl,hxv⟩
      |1=>cases hqa;exact⟨_,rfl,ey⟩
      |q+2=>cases hqa)
     unfold gV;intro K Q hK;unfold P8;rw[GF (vs:= #[a.eval x,a.eval y]) ho hb g1 g2 g3 he,XI,Array.append_empty,Xr];refine Calls.mono Mm (λen w' hR=> ?_);cases en with
     |panicked=>exact hR.elim
     |outgrown=>exact hR.elim
     |returned v=>
      obtain⟨c3,Ik,y_,uw,zC⟩:=hR;obtain⟨rs,outs⟩:=r;simp only at hrs Kk;subst hrs;subst Kk;have hv:v= .int k2 m2:=zC;have hp3:c3.P (dX 0 0)=p:=(uw (dX 0 0) (by rw[hX];simp)).1;have hX3:oj args ⟨[.v ak [.i k2 m2]],[[.kp ED]]⟩ (db (dX 0 0))= .o (.row e2 ai ED):=rfl;obtain⟨⟨t3,u1,u2,u3⟩,u4,_⟩:=Ik.obj _ _ hX3;obtain rfl:t2=t3:=aF (r3.symm.trans u1);rw[hp3]at u2 u4;have avd:jg w' p ED (λ_ _ u x=>Sc u x):=u4.frame (λ_=>rfl) (λi j y x u h1 h2 hr=>by rw[bB rfl]at hr;exact uL hr (im r4 (u3 y (aR h1)) h2));have rM:∀b,b<w.heap.size->¬(p.nil=ak/\b=p.blk)->w'.heap[b]? =w.heap[b]? :=λb hb Mt=>y_.same b hb (by rintro ⟨q,o',h1,h2⟩;obtain⟨rfl,rfl⟩:=hO q o' h1;exact Mt (Kc b h2));have hjk:j<te.ks.length:=(aT.1 zA).1;have ahf:[CV.l e2 ED].map CV.kd=(te.ks.drop j).take [CV.l e2 ED].length:=by rw[bC,List.take_one,List.head?_drop,zA];rfl
      have sJ:=yO (i:=i) (j:=j) (cs:=[CV.l e2 ED]) mE ahf (by simp;omega) lZ;have Ke:=k9 mE;have Dy:=k9 sJ;have same:∀i' j',gp (cK xs i j [CV.l e2 ED]) i' j'->gp xs i' j':=λi' j' hx=>(Ke i' j').2 (by have:=(Dy i' j').1 hx;rwa[fG]at this);have jb:∀b,fM c n (.row el ai xs) b->b<w.heap.size:=λb hb=>wW.lt cj ⟨n,_,hg,hb⟩;have ahm:p.nil=ak->(c.P n).blk≠p.blk:=λhn e=>(fP rfl).out i j Fa (by rw[hq];exact hn) ju (by rw[hq];exact e.symm);have oH:jg w' (c.P n) (cK xs i j [CV.l e2 ED]) (λi1 j1 u1 x1=>if ai=ai then XC E w' (c.G n) i1 j1 u1 x1 else dg E w' c.K u1 x1):=by
       obtain⟨vs,k1,k2,k3,k4,k5⟩:=gk.mem ju;refine⟨by rw[fG];exact gk.n,λhn=>(by rw[ju]at hn;cases hn),λ_=>⟨vs,k1.frame (rM _ (jb _ (.inl ⟨ju,rfl⟩)) (λh=>ahm h.1 h.2)),k2,k3,k4,λi1 y1 j1 x1 g1 g2=> ?_⟩⟩
       rw[yM r1]at g1;simp only[if_true]at k5⊢;by_cases Kd:i1=i
       ·subst Kd;rw[bB rfl]at g1;cases g1;have Km:yy.length=te.ks.length:=by rw[<-mE yy (aR r1)];simp
        rw[py (by simp;omega)]at g2;by_cases hqq:j<=j1/\j1<j+[CV.l e2 ED].length
        ·rw[bB hqq]at g2;have:j1=j:=by simp at hqq;omega
         subst this;simp at g2;subst g2;obtain⟨u,hu,hr⟩:=k5 _ _ _ _ r1 r2;refine⟨u,hu,hr.1,t2,r3,r4,by rw[hq];exact r5,u3,by rw[hq];exact avd⟩
        ·rw[bH hqq]at g2;obtain⟨u,hu,hr⟩:=k5 _ _ _ _ r1 g2;refine⟨u,hu,hr.frame (λhl hn=>rM _ (jb _ (.inr ⟨rfl,_,_,⟨yy,x1,r1,g2,hl⟩,hn,rfl⟩)) (λe=> ?_))⟩
         have:=((fP rfl).one _ _ _ _ ⟨yy,x1,r1,g2,hl⟩ Fa hn (by rw[hq];exact e.1) (by rw[hq];exact e.2)).2;simp at hqq;omega
       ·rw[bH Kd]at g1;obtain⟨u,hu,hr⟩:=k5 _ _ _ _ g1 g2;exact⟨u,hu,hr.frame (λhl hn=>rM _ (jb _ (.inr ⟨rfl,_,_,⟨y1,x1,g1,g2,hl⟩,hn,rfl⟩)) (λe=>Kd ((fP rfl).one _ _ _ _ ⟨y1,x1,g1,g2,hl⟩ Fa hn (by rw[hq];exact e.1) (by rw[hq];exact e.2)).1))⟩
      obtain⟨z1,z2,z3⟩:=IG cj dI hd hg (ob':= .row el ai (cK xs i j [CV.l e2 ED])) (w':=w') (s:= .v ak [.i k2 m2]) (v:=v)
       ⟨⟨te,q1,fZ,sJ⟩,oH,λhx=>⟨λi1 j1 hh=>(fP hx).out i1 j1 (same i1 j1 hh),λi1 j1 i2 j2 h1 h2=>(fP hx).one i1 j1 i2 j2 (same i1 j1 h1) (same i2 j2 h2)⟩⟩
       (by
        rintro b (hb|⟨hx,i1,j1,hh,hn⟩)
        ·exact .inl hb
        ·exact .inr ⟨hx,i1,j1,same i1 j1 hh,hn⟩)
       (λzs hz=>by cases hz) hv (λn hn=>by simp[cM,bN]at hn)
       (λb hb RE=>rM b hb (λe=>RE (by rw[e.2];exact hpf e.1))) y_.size y_.os y_.tape y_.output
      exact hK v w' c z1 z2 z3 (jz.refl _ _).w
    ·simp at h
   ·simp at h
  ·simp at h
 ·simp at h
theorem I5{α:Type}{x y:Rd α}{σ:St}{e:α}(h:(x.or y).val σ=ah e):x.val σ=ah e\/y.val σ=ah e:=by
 induction x with
 |ret a=>exact .inl h
 |fail=>exact .inr h
 |get k f ih=>
  have h':((f (σ k)).or y).val σ=ah e:=by rw[<-h];unfold Rd.val;simp only[Rd.or,Rd.run];rw[lh,lh]
  rcases ih (σ k) h' with h|h
  ·refine .inl ?_;rw[<-h];unfold Rd.val;simp only[Rd.run];rw[lh,lh]
  ·exact .inr h
theorem DQ(hE:eH P E)(hF:∀g,bX P E g (E.call g))(cj:Ok E σ w c)(dI:fC E σ a w c)(hd:∀d,o.dst=ah d->d<a.tmps.size){cl:Call}{fx:dx}(ho:o.op= .call cl)(hb:cl.callee= .value fx){f:aC}{iQ:az (az CV)}(ef:eL E w c (.fn f iQ) (a.eval fx)){RK:az aC}(h:(Oh E nm o f cl.args.toList RK iQ).val σ=ah e)(hc:e.cond=ai):gV P E σ a w c o e.ws:=by
 rcases I5 h with h|h
 ·exact KC hE hF cj dI hd ho hb ef h hc
 ·exact KC hE hF cj dI hd ho hb ef h hc
theorem aaF(hE:eH P E)(hF:∀g,bX P E g (E.call g))(cj:Ok E σ w c)(dI:fC E σ a w c)(hd:∀d,o.dst=ah d->d<a.tmps.size){cl:Call}{fx:dx}(ho:o.op= .call cl)(hb:cl.callee= .value fx)(h:(l_ E nm o).val σ=ah e)(hc:e.cond=ai):gV P E σ a w c o e.ws:=by
 simp only[l_,ho,hb]at h;obtain⟨fv,h1,h⟩:=Rd.bind_some h;have ef:=(iW dI h1).1;cases fv with
 |fn f iQ=>
  simp only at h;split at h
  ·rename_i x y sk;obtain⟨sx,h2,h⟩:=Rd.bind_some h;split at h
   ·rename_i n i j;cases hm:E.mode f 0 with
    |true=>rw[hm,au]at h;exact MN hE hF cj dI hd ho hb sk ef (mi dI h2).1 h hc
    |false=>rw[hm,ax]at h;exact DQ hE hF cj dI hd ho hb ef h hc
   ·exact DQ hE hF cj dI hd ho hb ef h hc
  ·exact DQ hE hF cj dI hd ho hb ef h hc
 |_=>simp at h
end
end Go.FG

namespace Go.FG
section
variable {P:c6} {E:fS} {σ:St} {a:Act} {w:bJ} {c:e9} {o:fB} {nm:aC} {e:sV}
theorem aoj(hE:eH P E)(hF:∀g,bX P E g (E.call g))(cj:Ok E σ w c)(dI:fC E σ a w c)(hd:∀d,o.dst=ah d->d<a.tmps.size)(h:(l_ E nm o).val σ=ah e)(hc:e.cond=ai):gV P E σ a w c o e.ws:=by
 cases ho:o.op with
 |move x=>exact Pc cj dI hd (.inl ho) h
 |assign x=>exact Pc cj dI hd (.inr ho) h
 |nilCheck x=>exact KE cj dI hd ho h
 |pick x y z=>exact aaH cj dI hd ho h hc
 |alloc t=>exact VK hE cj dI hd ho h
 |box t x=>exact ain cj dI hd ho h
 |build t ps=>exact VM hE cj dI hd ho h
 |buildSlice t n ps=>exact Fl hE cj dI hd ho h hc
 |load t p=>exact aaG hE cj dI hd ho h
 |store t p x=>exact VR hE cj dI hd ho h
 |fieldAddr t p f=>exact Iz hE cj dI hd ho h
 |field t x f=>exact VO hE cj dI hd ho h
 |indexAddr t x i=>exact IA hE cj dI hd ho h hc
 |index t x i=>exact VP hE cj dI hd ho h hc
 |binOp op t x y ty=>exact VL hE cj dI hd ho h hc
 |unOp op t x=>exact aaI cj dI hd ho h
 |convert s d x=>exact MO hE cj dI hd ho h hc
 |makeSlice t l m=>exact IB hE cj dI hd ho h hc
 |slice t x lo hi mx=>exact VQ hE cj dI hd ho h hc
 |extract x i=>exact MP cj dI hd ho h
 |makeFunc f first iQ=>exact KD cj dI hd ho h
 |call cl=>
  cases hb:cl.callee with
  |value f=>exact aaF hE hF cj dI hd ho hb h hc
  |builtin b=>
   cases b with
   |len=>exact aip hE cj dI hd ho hb h
   |cap=>exact aio hE cj dI hd ho hb h
   |min=>exact Gw ak cj dI hd ho hb h
   |max=>exact Gw ai cj dI hd ho hb h
   |clear=>exact VN hE cj dI hd ho hb h
   |append=>exact QY hE cj dI hd ho hb h hc
   |_=>simp[l_,ho,hb]at h
  |_=>simp[l_,ho,hb]at h
 |_=>simp[l_,ho]at h
end
end Go.FG

namespace Go.FG
theorem Ej{σ:St}{k:aC}{c:eR}(h:σ k=c):pM σ k c=σ:=by
 funext n;by_cases hn:n=k
 ·subst hn;rw[t_,h]
 ·rw[Bf σ c hn]
def Xo(c c':e9):Prop:=∀m,900000000<=m->c'.P m=c.P m/\c'.G m=c.G m
theorem Xo.refl(c:e9):Xo c c:=λ_ _=>⟨rfl,rfl⟩
theorem Xo.trans{c c1 c2:e9}(h:Xo c c1)(k:Xo c1 c2):Xo c c2:=λm hm=>⟨(k m hm).1.trans (h m hm).1,(k m hm).2.trans (h m hm).2⟩
theorem Y9{m:aC}(h:900000000<=m):AO m=false:=by
 unfold AO;cases hb:qs m 900000000 with
 |true=>have:m<900000000:=by simpa [BJ]using hb
        omega
 |false=>simp
theorem qV.aga{σ:St}{c c':e9}(h:qV σ c c'):Xo c c':=λm hm=>⟨(h m (.inr hm)).1,(h m (.inr hm)).2 (Y9 hm)⟩
def mj(all:dp fB)(o:fB)(σ:St):ay aY:=
 match o.guard with
 |none=>ah ai
 |some (g,want)=>match (all.getD g default).dst with
  |none=>aj
  |some d=>match σ (qn d)with| .v (.v ak [.b x])=>ah (x==want)| .v (.j_ [])=>ah ak|_=>aj
def pU(all:dp fB)(o:fB):az aC:=
 match o.guard with
 |none=>[]
 |some (g,_)=>match (all.getD g default).dst with|none=>[]|some d=>[qn d]
def vl(E:fS)(all:dp fB)(nm:aC)(o:fB)(σ:St)(ws:az (aC×eR))(lg:Lg):Prop:=
 (mj all o σ=ah ai/\∃e l,(l_ E nm o).run σ []=ah (e,l)/\e.cond=ai/\ws=e.ws/\lg=⟨pU all o++l,e.ws.map (·.1)⟩)\/
 (mj all o σ=ah ak/\ws=dw o (.j_ [])/\lg=⟨pU all o,(dw o (.j_ [])).map (·.1)⟩)
def MK(n9 i:aC):aC:=(n9+1)*1000000+i*1000
abbrev Tr:=az (az (aC×eR)×Lg)
def wO(E:fS)(all:dp fB)(n9:aC):aC->az fB->St->Tr->St->Prop
 |_,[],σ,tr,σ'=>tr=[]/\σ'=σ
 |i,o::os,σ,tr,σ'=>∃ws lg tr',tr=(ws,lg)::tr'/\vl E all (MK n9 i) o σ ws lg/\wO E all n9 (i+1) os (wr σ ws) tr' σ'
theorem QZ{R:Type}(E:fS)(all:dp fB)(n9:aC):∀(os:az fB) (i:aC) (σ:St) (lg:az Lg) (K:St->az Lg->ay R) (r:R),ops E all n9 i os σ lg K=ah r->
  ∃tr σ',wO E all n9 i os σ tr σ'/\K σ' ((tr.map (·.2)).reverse++lg)=ah r:=by
 intro os;induction os with
 |nil=>intro i σ lg K r h;exact⟨[],σ,⟨rfl,rfl⟩,by simpa [ops]using h⟩
 |cons o os ih=>
  intro i σ lg K r h;have next:∀ws l,vl E all (MK n9 i) o σ ws l->ops E all n9 (i+1) os (wr σ ws) (l::lg) K=ah r->∃tr σ',wO E all n9 i (o::os) σ tr σ'/\K σ' ((tr.map (·.2)).reverse++lg)=ah r:=by intro ws l hs h;obtain⟨tr,σ',h1,h2⟩:=ih _ _ _ _ _ h;exact⟨(ws,l)::tr,σ',⟨ws,l,tr,rfl,hs,h1⟩,by simpa using h2⟩
  have aol:∀rs,rs=pU all o->mj all o σ=ah ai->(match (l_ E (MK n9 i) o).run σ []with
    |some (e,l)=>bif e.cond then ops E all n9 (i+1) os (wr σ e.ws) (⟨rs++l,e.ws.map (·.1)⟩::lg) K else aj
    |none=>aj)=ah r->∃tr σ',wO E all n9 i (o::os) σ tr σ'/\K σ' ((tr.map (·.2)).reverse++lg)=ah r:=by
   intro rs hrs hw h
   cases hr:(l_ E (MK n9 i) o).run σ []with
   |none=>rw[hr]at h;cases h
   |some el=>
    obtain⟨e,l⟩:=el;rw[hr]at h;cases hc:e.cond with
    |false=>simp[hc]at h
    |true=>simp only[hc,au]at h;exact next e.ws _ (.inl ⟨hw,e,l,hr,hc,rfl,by rw[hrs]⟩) h
  unfold ops at h;simp(config:={zeta:=false}) only[Gg]at h;cases hg:o.guard with
  |none=>rw[hg]at h;exact aol [] (by simp[pU,hg]) (by simp[mj,hg]) h
  |some gw=>
   obtain⟨g,want⟩:=gw;rw[hg]at h;dsimp only at h;cases hd:(all.getD g default).dst with
   |none=>rw[hd]at h;cases h
   |some d=>
    rw[hd]at h;dsimp only at h;have y_:pU all o=[qn d]:=by unfold pU;rw[hg];dsimp only;rw[hd]
    cases hs:σ (qn d)with
    |v sv=>
     rw[hs]at h;cases sv with
     |v agg xs=>
      cases agg with
      |true=>cases h
      |false=>
       match xs with
       |[]=>cases h
       |_::_::_=>simp at h
       |[av]=>
        cases av with
        |b x=>
         have hwa:mj all o σ=ah (x==want):=by unfold mj;rw[hg];dsimp only;rw[hd];dsimp only;rw[hs]
         have hup:pM σ (qn d) (.v (.v ak [.b x]))=σ:=Ej hs;have skip:mj all o σ=ah ak->ops E all n9 (i+1) os (wr (pM σ (qn d) (.v (.v ak [.b x]))) (dw o (.j_ []))) (⟨[qn d],(dw o (.j_ [])).map (·.1)⟩::lg) K=ah r->∃tr σ',wO E all n9 i (o::os) σ tr σ'/\K σ' ((tr.map (·.2)).reverse++lg)=ah r:=by intro hw h;rw[hup]at h;exact next (dw o (.j_ [])) _ (.inr ⟨hw,rfl,by rw[y_]⟩) h
         have ad8:mj all o σ=ah ai->(match (l_ E (MK n9 i) o).run (pM σ (qn d) (.v (.v ak [.b x]))) []with
           |some (e,l)=>bif e.cond then ops E all n9 (i+1) os (wr (pM σ (qn d) (.v (.v ak [.b x]))) e.ws) (⟨qn d::l,e.ws.map (·.1)⟩::lg) K else aj
           |none=>aj)=ah r->∃tr σ',wO E all n9 i (o::os) σ tr σ'/\K σ' ((tr.map (·.2)).reverse++lg)=ah r:=by
          intro hw h
          rw[hup]at h
          exact aol [qn d] y_.symm hw h
         cases x with
         |true=>
          cases want with
          |true=>exact ad8 (by rw[hwa];rfl) h
          |false=>exact skip (by rw[hwa];rfl) h
         |false=>
          cases want with
          |true=>exact skip (by rw[hwa];rfl) h
          |false=>exact ad8 (by rw[hwa];rfl) h
        |_=>simp at h
     |j_ l=>cases l with
      |nil=>
       have hwa:mj all o σ=ah false:=by unfold mj;rw[hg];dsimp only;rw[hd];dsimp only;rw[hs]
       exact next (dw o (.j_ [])) _ (.inr ⟨hwa,rfl,by rw[y_]⟩) h
      |cons=>simp at h
     |un=>simp at h
    |o x=>rw[hs]at h;cases h
    |jZ=>rw[hs]at h;cases h
section
variable {P:c6} {E:fS} {σ:St} {a:Act} {w:bJ} {c:e9} {o:fB} {nm:aC} {e:sV}
theorem GL(dI:fC E σ a w c){all:dp fB}{x:aY}(h:mj all o σ=ah x):vj o (yielded all a.tmps)=x:=by
 unfold mj at h;unfold vj;cases hg:o.guard with
 |none=>rw[hg]at h;simp at h;simp[<-h]
 |some gw=>
  obtain⟨g,want⟩:=gw;rw[hg]at h;simp only at h⊢;cases hd:(all.getD g default).dst with
  |none=>rw[hd]at h;cases h
  |some d=>
   rw[hd]at h;have hgo:(all[g]?).bind (·.dst)=ah d:=by
    rw[eM]at hd;cases hq:all[g]? with
    |none=>rw[hq]at hd;cases hd
    |some og=>rw[hq]at hd;exact hd
   simp only at h;split at h
   ·rename_i y hy;have h1:=dI.ok d;have:slot σ d= .v ak [.b y]:=by unfold slot;rw[hy]
    rw[this]at h1;have h1:a.eval (.tmp d)= .bool y:=h1;have ht:a.tmps[d]? =ah (.bool y):=by
     have h2:a.tmps.getD d undef= .bool y:=h1;rw[eM]at h2;cases hq:a.tmps[d]? with
     |none=>rw[hq]at h2;cases h2
     |some v=>rw[hq]at h2;rw[show v=_ from h2]
    have Km:yielded all a.tmps g=ah y:=by unfold yielded;rw[hgo];simp[ht]
    rw[Km];simp at h;rw[<-h];cases y<;>cases want<;>rfl
   ·rename_i hy;have h1:=dI.ok d;have:slot σ d= .j_ []:=by unfold slot;rw[hy]
    rw[this]at h1;obtain⟨vs,h1,h3,_⟩:=h1;have h4:vs= #[]:=by simpa using h3
    subst h4;have ht:a.tmps.getD d undef= .tuple #[]:=h1;have Km:yielded all a.tmps g=none:=by
     unfold yielded;rw[hgo];rw[eM]at ht;cases hq:a.tmps[d]? with
     |none=>simp[hq]
     |some v=>rw[hq]at ht;simp at ht;simp[hq,ht]
    rw[Km];have h5:ak=x:=by simpa using h
    rw[<-h5];cases want<;>rfl
   ·cases h
theorem Act.Wn(a:Act)(d:ay Tmp)(v:bn):(a.put d v).tmps.size=a.tmps.size:=by cases d<;>simp[Xp]
theorem CH(hE:eH P E)(hF:∀g,bX P E g (E.call g))(cj:Ok E σ w c)(dI:fC E σ a w c)(hd:∀d,o.dst=ah d->d<a.tmps.size){all:dp fB}{i:aC}(hi:all[i]? =ah o){ws:az (aC×eR)}{lg:Lg}(h:vl E all nm o σ ws lg)
  {K:Act->bJ->Prop} {Q:Exit->Act->bJ->Prop} (hK:∀v w' c',Ok E (wr σ ws) w' c'->fC E (wr σ ws) (a.put o.dst v) w' c'->ot σ c w (wr σ ws) c' w'->qV σ c c'->K (a.put o.dst v) w'):wpOp P all Q i K a w:=by
 unfold wpOp;rw[hi];simp only;rcases h with ⟨hw,e,l,hr,hc,rfl,_⟩|⟨hw,rfl,_⟩
 ·rw[bB (GL dI hw)];exact .inl (aoj hE hF cj dI hd (Rd.Ni hr) hc K Q hK)
 ·rw[bH (by rw[GL dI hw];simp)];obtain⟨s1,s2,s3⟩:=rY σ o (.j_ []);obtain⟨h1,h2⟩:=cj.slot s3;refine hK undef w c h1 ?_ h2 (jz.refl _ _).w;refine dI.change cj h2 (jz.refl _ _) (λnm hn=>by rw[s3];exact hn) o undef s1 (λd ho=>⟨hd d ho, ?_, ?_⟩)
  ·rw[s2 d ho];exact⟨#[],rfl,rfl,λj agg xs hj=>by simp at hj⟩
  ·rw[s2 d ho];intro n hn;simp[cM]at hn
structure At (P:c6) (E:fS) (N:aC) (σ0:St) (c0:e9) (w0:bJ) (σ:St) (a:Act) (w:bJ) (c:e9):Prop where
 ok:Ok E σ w c
 sl:fC E σ a w c
 sz:a.tmps.size=N
 gr:ot σ0 c0 w0 σ c w
 ag:Xo c0 c
theorem At.step{N:aC}{σ0:St}{c0:e9}{w0:bJ}(h:At P E N σ0 c0 w0 σ a w c){d:ay Tmp}{v:bn}{w':bJ}{c':e9}{σ':St}(h1:Ok E σ' w' c')(h2:fC E σ' (a.put d v) w' c')(h3:ot σ c w σ' c' w')(h4:qV σ c c'):At P E N σ0 c0 w0 σ' (a.put d v) w' c':=
 ⟨h1,h2,by rw[Act.Wn];exact h.sz,h.gr.trans h3,h.ag.trans h4.aga⟩
theorem LW(hE:eH P E)(hF:∀g,bX P E g (E.call g)){N:aC}{σ0:St}{c0:e9}{w0:bJ}{all:dp fB}{n9:aC}{Q:Exit->Act->bJ->Prop}:∀(os:az fB) (i:aC) (σ:St) (tr:Tr) (σ':St),wO E all n9 i os σ tr σ'->(∀j o,os[j]? =ah o->all[i+j]? =ah o)->(∀o∈os,∀d,o.dst=ah d->d<N)->
  (∀a w c,At P E N σ0 c0 w0 σ' a w c->Q .normal a w)->∀a w c,At P E N σ0 c0 w0 σ a w c->wpOps P all Q (iw i os.length) a w:=by
 intro os;induction os with
 |nil=>intro i σ tr σ' h _ _ hQ a w c gk;obtain⟨_,rfl⟩:=h;exact hQ a w c gk
 |cons o os ih=>intro i σ tr σ' h nS Dw hQ a w c gk;obtain⟨ws,lg,tr',rfl,hs,XJ⟩:=h;have hi:all[i]? =ah o:=nS 0 o rfl;rw[dh,List.range'_succ,wpOps_cons];refine CH hE hF gk.ok gk.sl (λd hd=>by rw[gk.sz];exact Dw o (dL ..) d hd) hi hs (λv w' c' h1 h2 h3 h4=> ?_);exact ih (i+1) _ _ _ XJ (λj o' hj=>by have:=nS (j+1) o' hj;rwa[show i+(j+1)=i+1+j by omega]at this) (λo' vt=>Dw o' (c9 _ vt)) hQ _ _ _ (gk.step h1 h2 h3 h4)
end
end Go.FG

namespace Go.FG
theorem Rd.aaW{α:Type}(m:Rd α):∀{σ:St} {l l':az aC} {a:α},m.run σ l=ah (a,l')->∀k∈l,k∈l':=by
 induction m with
 |ret a=>intro σ l l' b h k hk;cases h;exact hk
 |fail=>intro σ l l' b h;cases h
 |get k f ih=>intro σ l l' b h k' vq;exact ih _ h k' (c9 _ vq)
theorem Rd.Rh{α:Type}(m:Rd α):∀{σ σ':St} {l l':az aC} {a:α},m.run σ l=ah (a,l')->(∀k∈l',σ' k=σ k)->m.run σ' l=ah (a,l'):=by
 induction m with
 |ret a=>intro σ σ' l l' b h _;exact h
 |fail=>intro σ σ' l l' b h;cases h
 |get k f ih=>intro σ σ' l l' b h hk;have h:(f (σ k)).run σ (k::l)=ah (b,l'):=h;have vq:σ' k=σ k:=hk k (Rd.aaW _ h k (dL ..));show(f (σ' k)).run σ' (k::l)=ah (b,l');rw[vq];exact ih _ h hk
theorem yT{all:dp fB}{o:fB}{σ σ':St}(h:∀k∈pU all o,σ' k=σ k):mj all o σ'=mj all o σ:=by
 unfold mj pU at*
 cases hg:o.guard with
 |none=>rfl
 |some gw=>
  obtain⟨g,want⟩:=gw;rw[hg]at h;dsimp only at h⊢;cases hd:(all.getD g default).dst with
  |none=>rfl
  |some d=>rw[hd]at h;dsimp only at h⊢;rw[h (qn d) (aZ.2 rfl)]
theorem vl.congr{E:fS}{all:dp fB}{nm:aC}{o:fB}{σ σ':St}{ws:az (aC×eR)}{lg:Lg}(h:vl E all nm o σ ws lg)(hk:∀k∈lg.rs,σ' k=σ k):vl E all nm o σ' ws lg:=by
 rcases h with ⟨h1,e,l,h2,h3,rfl,rfl⟩|⟨h1,rfl,rfl⟩
 ·refine .inl ⟨by rw[yT (λk vq=>hk k (bW _ vq))];exact h1,e,l,Rd.Rh _ h2 (λk vq=>hk k (bO _ vq)),h3,rfl,rfl⟩
 ·exact .inr ⟨by rw[yT (λk vq=>hk k vq)];exact h1,rfl,rfl⟩
theorem vl.keys{E:fS}{all:dp fB}{nm:aC}{o:fB}{σ:St}{ws:az (aC×eR)}{lg:Lg}(h:vl E all nm o σ ws lg):lg.ws=ws.map (·.1):=by rcases h with ⟨h1,e,l,h2,h3,rfl,rfl⟩|⟨h1,rfl,rfl⟩<;>rfl
theorem pA:∀{ws:az (aC×eR)} {σ:St} {k:aC},k∉ws.map (·.1)->wr σ ws k=σ k:=by
 intro ws;induction ws with
 |nil=>intro σ k _;rfl
 |cons d ws ih=>obtain⟨k',c⟩:=d;intro σ k h;rw[eC,cB,not_or]at h;show wr (pM σ k' c) ws k=σ k;rw[ih h.2,Bf σ c h.1]
theorem Xf:∀{ws:az (aC×eR)} {σ σ':St} {k:aC},k∈ws.map (·.1)->wr σ ws k=wr σ' ws k:=by
 intro ws;induction ws with
 |nil=>intro σ σ' k h;cases h
 |cons d ws ih=>
  obtain⟨k',c⟩:=d;intro σ σ' k h;show wr (pM σ k' c) ws k=wr (pM σ' k' c) ws k;by_cases hk:k∈ws.map (·.1)
  ·exact ih hk
  ·have:k=k':=by
    rcases cB.1 h with h|h
    ·exact h
    ·exact cS h hk
   subst this;rw[pA hk,pA hk,t_,t_]
theorem Xe{ws:az (aC×eR)}{σ σ':St}{k:aC}(h:σ k=σ' k):wr σ ws k=wr σ' ws k:=by
 by_cases hk:k∈ws.map (·.1)
 ·exact Xf hk
 ·rw[pA hk,pA hk];exact h
def EA:Tr->aC->(aC->aY)->St->St
 |[],_,_,σ=>σ
 |(ws,_)::tr,i,S,σ=>EA tr (i+1) S (bif S i then wr σ ws else σ)
theorem uK:∀{tr:Tr} {i:aC} {S S':aC->aY} {σ σ':St} {k:aC},σ k=σ' k->(∀j ws lg,tr[j]? =ah (ws,lg)->S (i+j)≠S' (i+j)->k∉ws.map (·.1))->EA tr i S σ k=EA tr i S' σ' k:=by
 intro tr;induction tr with
 |nil=>intro i S S' σ σ' k h _;exact h
 |cons d tr ih=>
  obtain⟨ws,lg⟩:=d;intro i S S' σ σ' k h hd;refine ih ?_ (λj Ft Ez hj iy=>hd (j+1) Ft Ez hj (by rwa[show i+(j+1)=i+1+j by omega]));by_cases hS:S i=S' i
  ·rw[hS];cases S' i
   ·exact h
   ·exact Xe h
  ·have hk:=hd 0 ws lg rfl hS;cases hs:S i<;>cases hs':S' i
   ·exact cS (hs.trans hs'.symm) hS
   ·show σ k=wr σ' ws k;rw[pA hk];exact h
   ·show wr σ ws k=σ' k;rw[pA hk];exact h
   ·exact cS (hs.trans hs'.symm) hS
theorem Eg:∀{tr:Tr} {i:aC} {S:aC->aY} {σ:St},(∀j,i<=j->S j=ak)->EA tr i S σ=σ:=by
 intro tr;induction tr with
 |nil=>intro i S σ _;rfl
 |cons d tr ih=>obtain⟨ws,lg⟩:=d;intro i S σ h;show EA tr (i+1) S (bif S i then wr σ ws else σ)=σ;rw[h i (cJ _)];exact ih (λj hj=>h j (by omega))
theorem W4:∀{tr:Tr} {i j:aC} {S:aC->aY} {σ:St} {ws:az (aC×eR)} {lg:Lg},tr[j]? =ah (ws,lg)->S (i+j)=ai->(∀q,i+j<q->S q=ak)->∃τ,EA tr i S σ=wr τ ws:=by
 intro tr;induction tr with
 |nil=>intro i j S σ ws lg h;simp at h
 |cons d tr ih=>
  obtain⟨Ft,Ez⟩:=d;intro i j S σ ws lg h hS hn;cases j with
  |zero=>
   cases h;refine⟨σ, ?_⟩
   show EA tr (i+1) S (bif S i then wr σ Ft else σ)=wr σ Ft;rw[show S i=ai from hS];exact Eg (λq hq=>hn q (by omega))
  |succ j=>exact ih (i:=i+1) h (by rwa[show i+1+j=i+(j+1)by omega]) (λq hq=>hn q (by omega))
theorem TV{E:fS}{all:dp fB}{n9:aC}:∀{os:az fB} {i:aC} {σ σ':St} {tr:Tr},wO E all n9 i os σ tr σ'->tr.length=os.length/\EA tr i (λ_=>ai) σ=σ'/\
  ∀(j:aC) (o:fB),os[j]? =ah o->∃ws lg,tr[j]? =ah (ws,lg)/\vl E all (MK n9 (i+j)) o (EA tr i (λq=>decide (q<i+j)) σ) ws lg:=by
 intro os;induction os with
 |nil=>intro i σ σ' tr h;obtain⟨rfl,rfl⟩:=h;exact⟨rfl,rfl,λj o h=>by simp at h⟩
 |cons o os ih=>
  intro i σ σ' tr h;obtain⟨ws,lg,tr',rfl,hs,XJ⟩:=h;obtain⟨h1,h2,h3⟩:=ih XJ;refine⟨by simp[h1],h2,λj o' hj=> ?_⟩
  cases j with
  |zero=>
   cases hj;refine⟨ws,lg,rfl, ?_⟩
   rw[show EA ((ws,lg)::tr') i (λq=>decide (q<i+0)) σ=σ from Eg (λq hq=>by simp;omega)];exact hs
  |succ j=>
   obtain⟨Ft,Ez,q1,q2⟩:=h3 j o' hj;refine⟨Ft,Ez,q1, ?_⟩
   have e1:EA ((ws,lg)::tr') i (λq=>decide (q<i+(j+1))) σ=EA tr' (i+1) (λq=>decide (q<i+1+j)) (wr σ ws):=by show EA tr' (i+1) (λq=>decide (q<i+(j+1))) (bif decide (i<i+(j+1))then wr σ ws else σ)=_;rw[aE (by omega:i<i+(j+1))];rw[show i+(j+1)=i+1+j by omega];rfl
   rw[e1,show i+(j+1)=i+1+j by omega];exact q2
theorem th{a b:Lg}(h:Dh a b=ak):(∀k∈a.ws,k∉b.ws)/\(∀k∈a.ws,k∉b.rs)/\∀k∈b.ws,k∉a.rs:=by simp only[Dh,mF,aK]at h;exact⟨oO h.1.1,oO h.1.2,oO h.2⟩
theorem AR{l:az aC}{n:aC}(h:mC n l=ai):n∈l:=by
 induction l with
 |nil=>cases h
 |cons m r ih=>
  simp only[mC,dM]at h;rcases h with h|h
  ·rw[aU h];exact dL ..
  ·exact c9 _ (ih h)
theorem LR{an:az aC}{j:aC}{a:Lg}:∀{l:az Lg} {i:aC},Cr an j a i l=ai->∀(q:aC) (b:Lg),l[q]? =ah b->i+q∈an\/Dh a b=false:=by
 intro l;induction l with
 |nil=>intro i _ q b h;simp at h
 |cons d l ih=>
  intro i h q b hq;simp only[Cr,aK,dM,du]at h;cases q with
  |zero=>cases hq;exact h.1.imp AR id
  |succ q=>have:=ih h.2 q b hq;rwa[show i+1+q=i+(q+1)by omega]at this
theorem Oj{an:az (az aC)}:∀{rest:az Lg} {j:aC} {done:az Lg},done.length=j->calm j an done rest=ai->∀(i J:aC) (a b:Lg),i<J->j<=J->(done++rest)[i]? =ah b->(done++rest)[J]? =ah a->i∈an.getD J []\/Dh a b=false:=by
 intro rest;induction rest with
 |nil=>intro j done hd _ i J a b _ hJ _ hb;rw[cu,kS (by omega)]at hb;cases hb
 |cons d rest ih=>
  intro j done hd h i J a b QF hJ hi hb;simp only[calm,aK]at h;by_cases hJj:J=j
  ·subst hJj;rw[c8 (by omega),hd,vP]at hb;cases hb;rw[dC (by omega)]at hi;have:=LR h.1 i b hi;rwa[bT]at this
  ·refine ih (done:=done++[d]) (by simp[hd]) h.2 i J a b QF (by omega) ?_ ?_
   ·rw[bU];exact hi
   ·rw[bU];exact hb
theorem Yj:∀{os:az fB} {acc:az (az aC)},∃rest,HU acc os=acc++rest/\rest.length=os.length/\
  ∀(t:aC) (o:fB),os[t]? =ah o->rest[t]? =ah (ddA [] (o.after.toList.flatMap λe=>bif mI .any e then e.on::((acc++rest).take (acc.length+t)).getD e.on []else [])):=by
 intro os;induction os with
 |nil=>intro acc;exact⟨[],by simp[HU],rfl,λt o h=>by simp at h⟩
 |cons o os ih=>
  intro acc;let x:=ddA [] (o.after.toList.flatMap λe=>bif mI .any e then e.on::acc.getD e.on []else []);obtain⟨rest,h1,h2,h3⟩:=ih (acc:=acc++[x]);refine⟨x::rest, ?_,by simp[h2],λt o' ht=> ?_⟩
  ·show mQ x (λx=>HU (acc++[x]) os)=_;rw[oQ,h1,bU];rfl
  ·cases t with
   |zero=>cases ht;rw[sD,zP,oZ (cJ _),dv]
   |succ t=>rw[dO,h3 t o' ht];simp only[cf,bC,bU,uT,show acc.length+1+t=acc.length+(t+1)by omega]
theorem Pf:∀{os:az fB} {i:aC},KF i os=ai->∀(t:aC) (o:fB),os[t]? =ah o->∀e∈o.after,mI .any e=ai->e.on<i+t:=by
 intro os;induction os with
 |nil=>intro i _ t o h;simp at h
 |cons o os ih=>
  intro i h t o' ht e he hb;simp only[KF,aK]at h;cases t with
  |zero=>
   cases ht;have:=bA.1 h.1 e (by simpa using he);rw[hb]at this;have:qs e.on i=true:=by simpa using this
   simpa [BJ]using this
  |succ t=>have:=ih h.2 t o' ht e he hb;omega
theorem C8{os:az fB}{S:aC->aY}(hS:∀(j:aC) (o:fB),S j=ai->os[j]? =ah o->∀e∈o.after,mI .any e=ai->S e.on=ai)(Uo:KF 0 os=ai):
  ∀j,S j=ai->∀i∈(HU [] os).getD j [],S i=true:=by
 obtain⟨rest,h1,h2,h3⟩:=Yj (os:=os) (acc:=[]);rw[gG]at h1;intro j;induction j using Nat.strongRecOn with
 |_ j ih=>
  intro hj i hi;rw[h1,d_]at hi;cases ho:os[j]? with
  |none=>rw[kS (by rw[h2];exact List.getElem?_eq_none_iff.1 ho)]at hi;cases hi
  |some o=>
   rw[h3 j o ho]at hi;simp only[zQ,jN,bT,gG]at hi;have hi:=(H3 _ _ _ hi).elim (λh=>by cases h) id;obtain⟨e,he,hi⟩:=bL.1 hi;have he:e∈o.after:=by simpa using he
   cases hb:mI .any e with
   |false=>rw[hb]at hi;cases hi
   |true=>
    rw[hb]at hi;have jb:=Pf Uo j o ho e he hb;rw[bT]at jb;have hSe:=hS j o hj ho e he hb;rcases cB.1 hi with rfl|hi
    ·exact hSe
    ·refine ih e.on jb hSe i ?_;rw[h1,d_];rw[d_,ea,bB jb]at hi;exact hi
end Go.FG

namespace Go.FG
theorem JS{p p':aC->aY}{i:aC}(hp:p i=ai)(mB:p' i=ak)(iy:∀j,j≠i->p' j=p j):∀{l:az aC},l.Nodup->i∈l->l.countP p'+1=l.countP p:=by
 have same:∀{l:az aC},i∉l->l.countP p'=l.countP p:=by
  intro l;induction l with
  |nil=>intro _;rfl
  |cons m l ih=>intro h;rw[cB,not_or]at h;rw[lB,lB,ih h.2,iy m (λe=>h.1 e.symm)]
 intro l;induction l with
 |nil=>intro _ h;cases h
 |cons m l ih=>
  intro hn h;rw[kE]at hn;rcases cB.1 h with rfl|h
  ·rw[lB,lB,same hn.1,hp,mB];simp
  ·have hm:m≠i:=λe=>hn.1 (e▸h);rw[lB,lB,iy m hm,<-ih hn.2 h];omega
theorem ql{dR:dp aY}{i:aC}(h:i<dR.size)(d:aY):(dR.setIfInBounds i ai).getD i d=true:=by simp[h]
section
variable {P:c6} {E:fS}
theorem Qn(hE:eH P E)(hF:∀g,bX P E g (E.call g)){N:aC}{σ0:St}{c0:e9}{w0:bJ}{all:dp fB}{n9:aC}{Q:Exit->Act->bJ->Prop}{σ σ':St}{tr:Tr}(XJ:wO E all n9 0 all.toList σ tr σ')(aci:calm 0 (HU [] all.toList) [] (tr.map (·.2))=ai)(Uo:KF 0 all.toList=ai)
  (Dw:∀o∈all.toList,∀d,o.dst=ah d->d<N) (hQ:∀a w c,At P E N σ0 c0 w0 σ' a w c->Q .normal a w):
  ∀(fuel:aC) (dR:dp aY) (a:Act) (w:bJ) (c:e9),dR.size=all.size->(∀(j:aC) (o:fB),dR.getD j ak=ai->all.toList[j]? =ah o->∀e∈o.after,mI .any e=ai->dR.getD e.on ak=ai)->
   (ch all.size).countP (λj=> !dR.getD j ak)<=fuel->At P E N σ0 c0 w0 (EA tr 0 (λj=>dR.getD j ak) σ) a w c->wpAny P .any all Q fuel dR a w:=by
 obtain⟨t1,t2,t3⟩:=TV XJ;have hlen:all.toList.length=all.size:=dW;have done:∀(dR:dp aY) (a:Act) (w:bJ) (c:e9),(∀j,j<all.size->dR.getD j ak=ai)->At P E N σ0 c0 w0 (EA tr 0 (λj=>dR.getD j ak) σ) a w c->Q .normal a w:=by
  intro dR a w c nS gk;refine hQ a w c ?_;have:EA tr 0 (λj=>dR.getD j ak) σ=σ':=by
   rw[<-t2];funext k;refine uK rfl (λj ws lg hj iy=> ?_);have kg:j<all.size:=by rw[<-hlen,<-t1];exact(aT.1 hj).1
   rw[bT]at iy;exact cS (nS j kg) iy
  rw[<-this];exact gk
 have agO:∀(dR:dp aY) (j:aC),dR.size=all.size->j<all.size->dR.getD j ai=dR.getD j false:=by
  intro dR j hs hj;rw[eM,eM];have:j<dR.size:=by omega
  simp[this]
 have full:∀dR:dp aY,dR.size=all.size->wR .any all dR=[]->∀j,j<all.size->dR.getD j ak=true:=by
  intro dR hs hr j;induction j using Nat.strongRecOn with
  |_ j ih=>
   intro hj;cases h:dR.getD j ak with
   |true=>rfl
   |false=>
    have ho:all[j]? =ah all[j]:=by simp[hj]
    have:j∈wR .any all dR:=by
     rw[mem_ready];refine⟨by rw[agO dR j hs hj];exact h,all[j],ho,λe he hb=> ?_⟩
     have:=Pf Uo j all[j] (by rw[cZ];exact ho) e he hb;rw[bT]at this;exact ih e.on this (by omega)
    rw[hr]at this;cases this
 intro fuel;induction fuel with
 |zero=>
  intro dR a w c hs _ ale gk;have nS:∀j,j<all.size->dR.getD j ak=true:=by intro j hj;have h0:=List.countP_eq_zero.1 (Nat.le_zero.1 ale) j (by simpa using hj);simpa using h0
  refine⟨?_,done dR a w c nS gk⟩
  cases hr:wR .any all dR with
  |nil=>rfl
  |cons i r=>
   have:i∈wR .any all dR:=by rw[hr];exact dL ..
   obtain⟨h0,o,ho,_⟩:=mem_ready.1 this;have hi:i<all.size:=(dY.1 ho).1;rw[agO dR i hs hi,nS i hi]at h0;cases h0
 |succ fuel ih=>
  intro dR a w c hs pD ale gk;refine⟨λhr=>done dR a w c (full dR hs hr) gk,λi hi=> ?_⟩
  obtain⟨h0,o,ho,avO⟩:=mem_ready.1 hi;have hil:i<all.size:=(dY.1 ho).1;rw[agO dR i hs hil]at h0;have Gk:all.toList[i]? =ah o:=by rw[cZ];exact ho
  obtain⟨ws,lg,q1,q2⟩:=t3 i o Gk;rw[bT]at q2;have UY:∀{j:aC} {Ft:az (aC×eR)} {Ez:Lg},tr[j]? =ah (Ft,Ez)->(tr.map (·.2))[j]? =ah Ez/\Ez.ws=Ft.map (·.1):=by
   intro j Ft Ez hj;have kg:j<all.toList.length:=by rw[<-t1];exact(aT.1 hj).1
   obtain⟨ws2,lg2,r1,r2⟩:=t3 j all.toList[j] (by simp[kg]);rw[hj]at r1;cases r1;exact⟨by rw[bI,hj];rfl,r2.keys⟩
  obtain⟨lgi,kwi⟩:=UY q1;have ag_:∀(j:aC) (o':fB),(dR.setIfInBounds i ai).getD j ak=ai->all.toList[j]? =ah o'->∀e∈o'.after,mI .any e=ai->(dR.setIfInBounds i ai).getD e.on ak=true:=by
   intro j o' hj vt e he hb;by_cases Mq:i=j
   ·subst Mq;rw[Gk]at vt;cases vt;exact getD_set_true (avO e he hb)
   ·rw[getD_set_ne ak Mq]at hj;exact getD_set_true (pD j o' hj vt e he hb)
  have before:∀j,j<i->dR.getD j ak=ak->∀{Ft:az (aC×eR)} {Ez:Lg},tr[j]? =ah (Ft,Ez)->Dh lg Ez=false:=by
   intro j hj hn Ft Ez hjt;rcases Oj (done:=[]) rfl aci j i lg Ez hj (bk _) (UY hjt).1 lgi with h|h
   ·have:=C8 ag_ Uo i (ql (by omega) ak) j h;rw[getD_set_ne ak (by omega:i≠j)]at this;rw[hn]at this;cases this
   ·exact h
  have after:∀j,i<j->dR.getD j ak=ai->∀{Ft:az (aC×eR)} {Ez:Lg},tr[j]? =ah (Ft,Ez)->Dh Ez lg=false:=by
   intro j hj hn Ft Ez hjt;rcases Oj (done:=[]) rfl aci i j Ez lg hj (bk _) lgi (UY hjt).1 with h|h
   ·have:=C8 pD Uo j hn i h;rw[h0]at this;cases this
   ·exact h
  have alJ:vl E all (MK n9 i) o (EA tr 0 (λj=>dR.getD j ak) σ) ws lg:=by
   refine q2.congr (λk hk=>uK rfl (λj Ft Ez hj iy hkw=> ?_));rw[bT]at iy;rw[<-(UY hj).2]at hkw;by_cases Mq:j<i
   ·rw[aE Mq]at iy;have hn:dR.getD j ak=false:=by simpa using iy
    exact(th (before j Mq hn hj)).2.2 k hkw hk
   ·rw[aG Mq]at iy;have hn:dR.getD j ak=true:=by simpa using iy
    have avB:i<j:=by
     rcases qQ i j with h|h
     ·exact h
     ·have:j=i:=by omega
      subst this;rw[h0]at hn;cases hn
    exact(th (after j avB hn hj)).2.1 k hkw hk
  have AK:wr (EA tr 0 (λj=>dR.getD j ak) σ) ws=EA tr 0 (λj=>(dR.setIfInBounds i ai).getD j ak) σ:=by
   funext k;by_cases hk:k∈ws.map (·.1)
   ·have e1:EA tr 0 (λj=>(dR.setIfInBounds i ai).getD j ak) σ k=EA tr 0 (λj=>(dR.setIfInBounds i ai).getD j ak&&decide (j<=i)) σ k:=by
     refine uK rfl (λj Ft Ez hj iy hkw=> ?_);rw[bT]at iy;rw[<-(UY hj).2]at hkw;have Mq:i<j:=by
      rcases qQ i j with h|h
      ·exact h
      ·rw[aE h,j4]at iy;exact cS rfl iy
     rw[aG (by omega:¬j<=i),wM,getD_set_ne ak (by omega:i≠j)]at iy;have hn:dR.getD j ak=true:=by simpa using iy
     rw[<-kwi]at hk;exact(th (after j Mq hn hj)).1 k hkw hk
    obtain⟨τ,hτ⟩:=W4 (i:=0) (S:=λj=>(dR.setIfInBounds i ai).getD j ak&&decide (j<=i)) (σ:=σ) q1 (by rw[bT,ql (by omega) ak];simp) (λq hq=>by rw[aG (by omega:¬q<=i),wM]);rw[e1,hτ];exact Xf hk
   ·rw[pA hk];refine uK rfl (λj Ft Ez hj iy hkw=> ?_);rw[bT]at iy;by_cases Mq:i=j
    ·subst Mq;rw[q1]at hj;cases hj;exact hk hkw
    ·rw[getD_set_ne ak Mq]at iy;exact cS rfl iy
  refine CH hE hF gk.ok gk.sl (λd hd'=>by rw[gk.sz];exact Dw o (aR Gk) d hd') ho alJ (λv w' c' h1 h2 h3 h4=> ?_);have B4:=gk.step h1 h2 h3 h4;rw[AK]at B4;refine ih (dR.setIfInBounds i ai) _ _ c' (by simp[hs]) ag_ ?_ B4;have:=JS (p:=λj=> !dR.getD j ak) (p':=λj=> !(dR.setIfInBounds i ai).getD j ak) (i:=i) (by rw[h0];rfl) (by rw[ql (by omega) ak];rfl) (λj hj=>by rw[getD_set_ne ak (λe=>hj e.symm)]) (l:=ch all.size) List.nodup_range (by simpa using hil);omega
theorem At.drawn{N:aC}{σ0 σ:St}{c0 c:e9}{w0 w:bJ}{a:Act}(h:At P E N σ0 c0 w0 σ a w c)(n:aC):At P E N σ0 c0 w0 σ a {w with drawn:=n} c:=by have hh:=h.ok.change (σ':=σ) (w':={w with drawn:=n}) (c':=c) (λ_=>False) (λ_ _=>rfl) (λ_ h=>h) (jz.refl _ _) (λ_ _ _=>rfl) (cJ _) (λ_ h=>h) (λ_ h=> .inl h) h.ok.lt (λ_ _ h=>h.elim) (λ_ _ _ h=>h.elim) (λ_ _ _ _ _ h=>h.elim) (λ_ _ h=>h.elim) rfl rfl rfl;refine⟨hh.1,⟨λn'=>(h.sl.ok n').frame (λ_ _=>rfl) (λ_ h=>h) (λ_ _=>⟨rfl,rfl⟩),h.sl.kn,h.sl.df⟩,h.sz,h.gr.trans hh.2,h.ag⟩
theorem Q9(hE:eH P E)(hF:∀g,bX P E g (E.call g))(hm:P.follows .mixedOrders=ai){R:Type}{N:aC}{σ0:St}{c0:e9}{w0:bJ}{os:dp fB}{n9:aC}{draw:aY}{Q:Exit->Act->bJ->Prop}{σ:St}{K:Ex->St->ay R}{r:R}
  (h:ops E os n9 0 os.toList σ [] (λσ lg=>bif !draw||(KF 0 os.toList&&Oi (HU [] os.toList) lg.reverse)then K .normal σ else aj)=ah r) (Dw:∀o∈os.toList,∀d,o.dst=ah d->d<N)
  (hQ:∀σ' a w c,K .normal σ'=ah r->At P E N σ0 c0 w0 σ' a w c->Q .normal a w) {a:Act} {w:bJ} {c:e9} (gk:At P E N σ0 c0 w0 σ a w c):(Code.region n9 os draw).wp P Q a w:=by
 obtain⟨tr,σ',XJ,hk⟩:=QZ E os n9 _ _ _ _ _ _ h;simp only[cu,List.reverse_reverse,TQ]at hk;cases draw with
 |false=>simp only[bS,BD,au]at hk;refine wp_region ?_;rw[zO,<-dW];exact LW hE hF os.toList 0 σ tr σ' XJ (λj o hj=>by rw[bT,<-cZ];exact hj) Dw (λa w c h=>hQ σ' a w c hk h) a w c gk
 |true=>
  cases hc:(KF 0 os.toList&&calm 0 (HU [] os.toList) [] (tr.map (·.2)))with
  |false=>simp[hc]at hk
  |true=>
   simp only[hc,Lm,au]at hk;simp only[aK]at hc;refine wp_region_any hm ?_;refine Qn hE hF XJ hc.2 hc.1 Dw (λa w c h=>hQ σ' a w c hk h) os.size _ a _ c (by simp) (λj o hj=> ?_) ?_ ?_
   ·exfalso;rw[eM,Fw]at hj;split at hj<;>cases hj
   ·exact dc (List.countP_le_length) (by simp)
   ·have:EA tr 0 (λj=>(B9 os.size ak).getD j ak) σ=σ:=Eg (λj _=>by rw[eM,Fw];split<;>rfl);rw[this];exact gk.drawn _
end
end Go.FG

namespace Go.FG
theorem Uw:∀{l:az aC} {n i:aC},n∈l->∃k,idx n i l=ah k/\i<=k/\k<i+l.length/\l[k-i]? =ah n:=by
 intro l;induction l with
 |nil=>intro n i h;cases h
 |cons m l ih=>
  intro n i h;unfold idx;cases hb:bD n m with
  |true=>have:=aU hb;subst this;exact⟨i,rfl,cJ _,by simp,by simp⟩
  |false=>
   rcases cB.1 h with rfl|h
   ·simp at hb
   ·obtain⟨k,h1,h2,h3,h4⟩:=ih (i:=i+1) h;refine⟨k,h1,by omega,by simp;omega, ?_⟩
    rw[show k-i=(k-(i+1))+1 by omega,dO];exact h4
theorem Y4:∀{l:az aC} {n i k:aC},idx n i l=ah k->i<=k/\k<i+l.length/\l[k-i]? =ah n:=by
 intro l;induction l with
 |nil=>intro n i k h;cases h
 |cons m l ih=>
  intro n i k h;unfold idx at h;cases hb:bD n m with
  |true=>rw[hb]at h;have:=aU hb;subst this;cases h;exact⟨cJ _,by simp,by simp⟩
  |false=>
   rw[hb]at h;obtain⟨h2,h3,h4⟩:=ih h;refine⟨by omega,by simp;omega, ?_⟩
   rw[show k-i=(k-(i+1))+1 by omega,dO];exact h4
theorem L4{f:aY}{k:aC}(h:k<900):enc f k<900000000:=by unfold enc;cases f<;>simp<;>omega
theorem Y_{f:aY}{k:aC}(h:k<900):AO (enc f k)=f:=by
 cases f with
 |false=>
  show(bD (k%1000) 999&&qs k 900000000)=ak;have:bD (k%1000) 999=false:=by
   cases hb:bD (k%1000) 999 with
   |false=>rfl
   |true=>have:=aU hb;omega
  rw[this];rfl
 |true=>show(bD ((k*1000+999)%1000) 999&&qs (k*1000+999) 900000000)=ai;rw[show(k*1000+999)%1000=999 by omega,show qs (k*1000+999) 900000000=ai from Lv (by omega)];rfl
theorem Yw{f f':aY}{k k':aC}(h:k<900)(h':k'<900)(he:enc f k=enc f' k'):k=k':=by unfold enc at he;cases f<;>cases f'<;>simp at he<;>omega
theorem Wb{l:az aC}{n:aC}(h:n∈l):∃k,wF l n=ah k:=by
 unfold wF;cases fL 900000000 n with
 |true=>exact⟨n,by simp[Ku h]⟩
 |false=>obtain⟨k,hk,_⟩:=Uw (i:=0) h;exact⟨enc (AO n) k,by simp[hk]⟩
theorem yF{l:az aC}{n k:aC}(h:wF l n=ah k):n∈l/\((900000000<=n/\k=n)\/(n<900000000/\∃k0,k=enc (AO n) k0/\k0<l.length/\l[k0]? =ah n)):=by
 unfold wF at h;cases hb:fL 900000000 n with
 |true=>
  rw[hb]at h;cases hm:mC n l with
  |true=>simp only[hm,au]at h;cases h;exact⟨AR hm, .inl ⟨cL hb,rfl⟩⟩
  |false=>simp[hm]at h
 |false=>
  rw[hb,ax]at h;cases hi:idx n 0 l with
  |none=>rw[hi]at h;cases h
  |some k0=>
   rw[hi]at h;cases h;obtain⟨_,h3,h4⟩:=Y4 hi;rw[oN]at h4;refine⟨aR h4, .inr ⟨?_,k0,rfl,by simpa using h3,h4⟩⟩
   rcases qQ n 900000000 with h|h
   ·exact h
   ·rw[Lv h]at hb;cases hb
theorem Ph{l:az aC}(hl:l.length<=900){n k:aC}(h:wF l n=ah k):AO k=AO n:=by
 obtain⟨_,⟨_,rfl⟩|⟨_,k0,rfl,h3,_⟩⟩:=yF h
 ·rfl
 ·exact Y_ (by omega)
theorem aaS{l:az aC}(hl:l.length<=900){n n' k:aC}(h:wF l n=ah k)(h':wF l n'=ah k):n=n':=by
 obtain⟨_,h1⟩:=yF h;obtain⟨_,h2⟩:=yF h';rcases h1 with ⟨a,b⟩|⟨a,k0,b,d,e⟩<;>rcases h2 with ⟨a',b'⟩|⟨a',k0',b',d',e'⟩
 ·omega
 ·have:=L4 (f:=AO n') (k:=k0') (by omega);omega
 ·have:=L4 (f:=AO n) (k:=k0) (by omega);omega
 ·have:=Yw (f:=AO n) (f':=AO n') (k:=k0) (k':=k0') (by omega) (by omega) (b.symm.trans b');subst this;rw[e]at e';cases e';rfl
def inv(l:az aC)(m:aC):ay aC:=l.find? λn=>decide (wF l n=ah m)
theorem ahy{l:az aC}(hl:l.length<=900){n k:aC}(h:wF l n=ah k):inv l k=ah n:=by
 unfold inv;cases hf:l.find? (λn=>decide (wF l n=ah k))with
 |none=>have:=Yc.1 hf n (yF h).1;simp[h]at this
 |some n'=>have:=G3 hf;rw[aaS hl h (cF this)]
theorem Uz{l:az aC}{m n:aC}(h:inv l m=ah n):wF l n=ah m:=cF (G3 (p:=λn=>decide (wF l n=ah m)) h)
theorem Gp{l ns:az aC}(h:AQ l ns=ai):∀n∈ns,n∈l:=λn hn=>AR (bA.1 h n hn)
theorem rO{σ:St}{l:az aC}:∀{r:az aC} {k:aC} {x:eR},(k,x)∈wD σ l r↔∃n∈r,∃m,wF l n=ah m/\k=db m/\x=Q_ l (σ (db n)):=by
 intro r;induction r with
 |nil=>intro k x;simp[wD]
 |cons n r ih=>
  intro k x;unfold wD;cases hr:wF l n with
  |none=>
   simp only;rw[ih];constructor
   ·rintro ⟨n',h1,h2⟩;exact⟨n',c9 _ h1,h2⟩
   ·rintro ⟨n',h1,m,h2,h3⟩;rcases cB.1 h1 with rfl|h1
    ·rw[hr]at h2;cases h2
    ·exact⟨n',h1,m,h2,h3⟩
  |some m=>
   simp only[cB,ih];constructor
   ·rintro (h|⟨n',h1,h2⟩)
    ·cases h;exact⟨n, .inl rfl,m,hr,rfl,rfl⟩
    ·exact⟨n', .inr h1,h2⟩
   ·rintro ⟨n',h1|h1,m',h2,rfl,rfl⟩
    ·subst h1;rw[hr]at h2;cases h2;exact .inl rfl
    ·exact .inr ⟨n',h1,m',h2,rfl,rfl⟩
section
variable {P:c6} {E:fS} {σ:St} {a:Act} {w:bJ} {c:e9} {o:fB} {nm:aC} {e:sV}
def yD(c:e9)(l:az aC):e9:=
 ⟨λm=>match inv l m with|some n=>c.P n|none=>c.P m,λm=>match inv l m with|some n=>c.G n|none=>c.G m,c.K⟩
theorem yE{l:az aC}(hl:l.length<=900){n m:aC}(h:wF l n=ah m):(yD c l).P m=c.P n/\(yD c l).G m=c.G n:=by have:=ahy hl h;unfold yD;simp only[this];exact⟨trivial,trivial⟩
theorem tP{T:Tab}{l:az aC}(hl:l.length<=900){x:AV}{u:bn}(hx:eL T w c x u)(hk:∀n∈bN x,n∈l):eL T w (yD c l) (p8 l x) u/\∀m∈bN (p8 l x),∃n∈l,wF l n=ah m:=by
 have named:∀n,n∈bN x->∃k,wF l n=ah k/\(yD c l).P k=c.P n/\(yD c l).G k=c.G n:=λn hn=>by obtain⟨k,h⟩:=Wb (hk n hn);exact⟨k,h,yE hl h⟩
 have nn:∀m,m∈([]:az aC)->∃n∈l,wF l n=ah m:=λm h=>by cases h
 cases x with
 |i=>exact⟨hx,nn⟩
 |b=>exact⟨hx,nn⟩
 |s=>exact⟨hx,nn⟩
 |nl=>exact⟨hx,nn⟩
 |sh=>exact⟨hx,nn⟩
 |sp=>exact⟨hx,nn⟩
 |fn=>exact⟨hx,nn⟩
 |fp=>exact⟨hx,nn⟩
 |own n=>obtain⟨k,h,e1,e2⟩:=named n (by simp[bN]);simp only[p8,h];exact⟨by simp only[eL,e1]at hx⊢;exact hx,λm hm=>⟨n,hk n (by simp[bN]),by rw[show m=k by simpa [bN]using hm];exact h⟩⟩
 |vw n lo hi=>obtain⟨k,h,e1,e2⟩:=named n (by simp[bN]);simp only[p8,h];exact⟨by simp only[eL,e1]at hx⊢;exact hx,λm hm=>⟨n,hk n (by simp[bN]),by rw[show m=k by simpa [bN]using hm];exact h⟩⟩
 |bp n j=>obtain⟨k,h,e1,e2⟩:=named n (by simp[bN]);simp only[p8,h];exact⟨by simp only[eL,e1]at hx⊢;exact hx,λm hm=>⟨n,hk n (by simp[bN]),by rw[show m=k by simpa [bN]using hm];exact h⟩⟩
 |rp n i j=>obtain⟨k,h,e1,e2⟩:=named n (by simp[bN]);simp only[p8,h];exact⟨by simp only[eL,e1]at hx⊢;exact hx,λm hm=>⟨n,hk n (by simp[bN]),by rw[show m=k by simpa [bN]using hm];exact h⟩⟩
 |mU n i j=>obtain⟨k,h,e1,e2⟩:=named n (by simp[bN]);simp only[p8,h];exact⟨by simp only[eL,e1,e2,Ph hl h]at hx⊢;exact hx,λm hm=>⟨n,hk n (by simp[bN]),by rw[show m=k by simpa [bN]using hm];exact h⟩⟩
 |ip n i j i2 j2=>obtain⟨k,h,e1,e2⟩:=named n (by simp[bN]);simp only[p8,h];exact⟨by simp only[eL,e1,e2,Ph hl h]at hx⊢;exact hx,λm hm=>⟨n,hk n (by simp[bN]),by rw[show m=k by simpa [bN]using hm];exact h⟩⟩
theorem MW{T:Tab}{l:az aC}(hl:l.length<=900){g:aY}{xs:az AV}{u:bn}(hx:qi T w c g xs u)(hk:∀n∈xs.flatMap bN,n∈l):qi T w (yD c l) g (xs.map (p8 l)) u/\∀m∈(xs.map (p8 l)).flatMap bN,∃n∈l,wF l n=ah m:=by
 have kx:∀x∈xs,∀n∈bN x,n∈l:=λx hx n hn=>hk n (bL.2 ⟨x,hx,hn⟩);unfold qi at hx;split at hx
 ·rename_i y;obtain⟨h1,h2⟩:=tP hl hx (kx y (by simp));exact⟨h1,λm hm=>h2 m (by simpa using hm)⟩
 ·obtain⟨vals,rfl,hs,hv⟩:=hx;refine⟨⟨vals,rfl,by simp[hs],λj y hj=> ?_⟩,λm hm=> ?_⟩
  ·rw[bI]at hj;cases Y1:xs[j]? with
   |none=>rw[Y1]at hj;cases hj
   |some x=>rw[Y1]at hj;cases hj;obtain⟨u,hu,ha⟩:=hv j x Y1;exact⟨u,hu,(tP hl ha (kx x (aR Y1))).1⟩
  ·obtain⟨y,hy,hm⟩:=bL.1 hm;obtain⟨x,hxm,rfl⟩:=cw.1 hy;obtain⟨j,hj⟩:=b7 hxm;obtain⟨u,hu,ha⟩:=hv j x hj;exact(tP hl ha (kx x hxm)).2 m hm
 ·exact hx.elim
theorem KK{T:Tab}{l:az aC}(hl:l.length<=900){s:SV}{u:bn}(hx:jh T w c s u):jh T w (yD c l) (GA l s) u/\∀m∈cM (GA l s),∃n∈l,wF l n=ah m:=by
 unfold GA;cases hk:AQ l (cM s)with
 |false=>exact⟨trivial,λm hm=>by simp[cM]at hm⟩
 |true=>
  have hk:=Gp hk;simp only[au];cases s with
  |un=>exact⟨trivial,λm hm=>by simp[cM]at hm⟩
  |v g xs=>exact MW hl hx hk
  |j_ r=>
   obtain⟨vs,rfl,hs,hv⟩:=hx;have kr:∀x∈r,∀n∈x.2.flatMap bN,n∈l:=λx hx n hn=>hk n (bL.2 ⟨x,hx,hn⟩);refine⟨⟨vs,rfl,by simp[hs],λj g xs hj=> ?_⟩,λm hm=> ?_⟩
   ·rw[bI]at hj;cases Y1:r[j]? with
    |none=>rw[Y1]at hj;cases hj
    |some x=>rw[Y1]at hj;cases hj;obtain⟨u,hu,ha⟩:=hv j x.1 x.2 Y1;exact⟨u,hu,(MW hl ha (kr x (aR Y1))).1⟩
   ·obtain⟨y,hy,hm⟩:=bL.1 hm;obtain⟨x,hxm,rfl⟩:=cw.1 hy;obtain⟨j,hj⟩:=b7 hxm;obtain⟨u,hu,ha⟩:=hv j x.1 x.2 hj;exact(MW hl ha (kr x hxm)).2 m hm
theorem Wa{l:az aC}{x:eR}:Q_ l x≠ .jZ:=by
 unfold Q_;split
 ·intro h;revert h;cases AQ l _<;>simp
 ·simp
 ·simp
theorem Qm{N:aC}{σ0:St}{c0:e9}{w0:bJ}{keep:az aC}(h:At P E N σ0 c0 w0 σ a w c):∃c',At P E N σ0 c0 w0 (fN (mQ (LU keep σ) λl=>LS keep σ l)) a w c':=by
 rw[oQ];generalize LU keep σ=l;unfold LS;cases hle:fL l.length 900 with
 |false=>
  simp only[ax];have hn:∀k,fN [] k= .jZ:=λk=>rfl;have no:∀{k:aC} {x:Obj},fN [] k≠ .o x:=λh=>by rw[hn]at h;cases h
  refine⟨c,⟨λnm o ho=>cS ho no,λnm o x_ o' b ho=>cS ho no,λnm o b ho=>cS ho no,h.ok.lt,λnm xs ho=>cS ho no⟩,⟨λn=>trivial,λn m hm=>(by simp[slot,fN,cM]at hm),h.sl.df⟩,h.sz,h.gr.trans ⟨rfl,rfl,rfl,cJ _,λ_ h=>h,λ_ _ _=>rfl,λb hb=> ?_,λ_ h=> .inl h⟩,h.ag⟩
  obtain⟨nm,o,ho,_⟩:=hb;exact cS ho no
 |true=>
  have hl:=cL hle;simp only[au];generalize hT:keep.map (λn=>(qn n,eR.v (GA l (slot σ n))))++wD σ l l=T;have ayN:∀d∈T,d.2≠ .jZ:=by
   rintro ⟨k,x⟩ hd;rw[<-hT]at hd;rcases bf.1 hd with hd|hd
   ·obtain⟨n,_,hd⟩:=cw.1 hd;cases hd;simp
   ·obtain⟨n,_,m,_,_,rfl⟩:=rO.1 hd;exact Wa
  have ayO:∀{m:aC} {ob:Obj},fN T (db m)= .o ob->∃n∈l,wF l n=ah m/\Q_ l (σ (db n))= .o ob:=by
   intro m ob ho;have:=nT ho (by simp);rw[<-hT]at this;rcases bf.1 this with hd|hd
   ·obtain⟨n,_,hd⟩:=cw.1 hd;injection hd with h1 h2;exact cS h1 (rX n m)
   ·obtain⟨n,hn,m',hr,h1,h2⟩:=rO.1 hd;have:=jW h1;subst this;exact⟨n,hn,hr,h2.symm⟩
  have UT:∀{m n:aC},n∈l->wF l n=ah m->fN T (db m)≠ .jZ:=λhn hr=>rZ (l:=T) (by rw[<-hT];exact bO _ (rO.2 ⟨_,hn,_,hr,rfl,rfl⟩)) ayN;have aec:∀n,slot (fN T) n=GA l (slot σ n)\/slot (fN T) n= .un:=by
   intro n;unfold slot;cases hs:fN T (qn n)with
   |v x=>
    have:=nT hs (by simp);rw[<-hT]at this;rcases bf.1 this with hd|hd
    ·obtain⟨n',_,hd⟩:=cw.1 hd;injection hd with h1 h2;have:=IU h1;subst this;cases h2;exact .inl rfl
    ·obtain⟨n',hn,m',hr,h1,h2⟩:=rO.1 hd;exact cS h1 (rX _ _)
   |o=>exact .inr rfl
   |jZ=>exact .inr rfl
  have was:∀{m:aC} {ob:Obj},fN T (db m)= .o ob->ob= .dead\/∃n∈l,wF l n=ah m/\((σ (db n)= .o ob/\∀xs,ob≠ .box xs)\/∃xs,σ (db n)= .o (.box xs)/\ob= .box (xs.map (p8 l))/\∀k∈xs.flatMap bN,k∈l):=by
   intro m ob ho;obtain⟨n,hn,hr,he⟩:=ayO ho;unfold Q_ at he;split at he
   ·rename_i xs hx;cases hk:AQ l (xs.flatMap bN)with
    |true=>rw[hk]at he;cases he;exact .inr ⟨n,hn,hr, .inr ⟨xs,hx,rfl,Gp hk⟩⟩
    |false=>rw[hk]at he;cases he;exact .inl rfl
   ·rename_i x iy hx;cases he;exact .inr ⟨n,hn,hr, .inl ⟨hx,λxs e=>iy xs e⟩⟩
   ·cases he;exact .inl rfl
  have OG:∀{m:aC} {ob:Obj} {b:aC},fN T (db m)= .o ob->fM (yD c l) m ob b->∃n o,wF l n=ah m/\σ (db n)= .o o/\fM c n o b:=by
   intro m ob b ho hf;rcases was ho with rfl|⟨n,hn,hr,⟨h1,_⟩|⟨xs,h1,rfl,_⟩⟩
   ·exact hf.elim
   ·obtain⟨e1,e2⟩:=yE (c:=c) hl hr;refine⟨n,ob,hr,h1, ?_⟩
    cases ob<;>simp only[fM,e1,e2]at hf⊢ <;>exact hf
   ·obtain⟨e1,e2⟩:=yE (c:=c) hl hr;refine⟨n,_,hr,h1, ?_⟩
    simp only[fM,e1]at hf⊢;exact hf
  refine⟨yD c l,⟨?_, ?_, ?_,h.ok.lt, ?_⟩,⟨?_, ?_,h.sl.df⟩,h.sz,h.gr.trans ⟨rfl,rfl,rfl,cJ _,λ_ h=>h,λ_ _ _=>rfl, ?_,λ_ h=> .inl h⟩,h.ag.trans ?_⟩
  ·intro m ob ho;rcases was ho with rfl|⟨n,hn,hr,⟨h1,h2⟩|⟨xs,h1,rfl,hk⟩⟩
   ·trivial
   ·obtain⟨e1,e2⟩:=yE (c:=c) hl hr;have mS:=h.ok.obj n ob h1;cases ob with
    |box xs=>exact cS rfl (h2 xs)
    |dead=>trivial
    |n5 cs=>show FB E w c.K ((yD c l).P m).blk cs;rw[e1];exact mS
    |fV e' xs=>show dg E w c.K (lO ((yD c l).P m)) _/\((yD c l).P m).n=_/\_;rw[e1];exact mS
    |row e' ex xs=>obtain⟨q1,q2,q3⟩:=mS;exact⟨by rw[e1];exact q1,by rw[e1,e2];exact q2,by rw[e1,e2];exact q3⟩
   ·obtain⟨e1,e2⟩:=yE (c:=c) hl hr;obtain⟨vals,hb,hs,hv⟩:=h.ok.obj n _ h1;refine⟨vals,by rw[e1];exact hb,by simp[hs],λj y hj=> ?_⟩
    rw[bI]at hj;cases hx:xs[j]? with
    |none=>rw[hx]at hj;cases hj
    |some x=>rw[hx]at hj;cases hj;obtain⟨u,hu,ha⟩:=hv j x hx;exact⟨u,hu,(tP hl ha (λk vq=>hk k (bL.2 ⟨x,aR hx,vq⟩))).1⟩
  ·intro m ob m' ob' b ho vt hf vn;obtain⟨n,o1,r1,s1,f1⟩:=OG ho hf;obtain⟨n',o2,r2,s2,f2⟩:=OG vt vn;have:=h.ok.sep n o1 n' o2 b s1 s2 f1 f2;subst this;rw[r1]at r2;cases r2;rfl
  ·intro m ob b ho hf;obtain⟨n,o1,r1,s1,f1⟩:=OG ho hf;exact h.ok.kk n o1 b s1 f1
  ·intro m xs ho y hy k hk;rcases was ho with h'|⟨n,hn,hr,⟨h1,h2⟩|⟨zs,h1,he,Kf⟩⟩
   ·cases h'
   ·exact cS rfl (h2 xs)
   ·cases he;obtain⟨x,hxm,rfl⟩:=cw.1 hy;obtain⟨vals,hb,hs,hv⟩:=h.ok.obj n _ h1;obtain⟨j,hj⟩:=b7 hxm;obtain⟨u,hu,ha⟩:=hv j x hj;obtain⟨n',kG,Fc⟩:=(tP hl ha (λk vq=>Kf k (bL.2 ⟨x,hxm,vq⟩))).2 k hk;exact UT kG Fc
  ·intro n;rcases aec n with hs|hs
   ·rw[hs];exact(KK hl (h.sl.ok n)).1
   ·rw[hs];trivial
  ·intro n m hm;rcases aec n with hs|hs
   ·rw[hs]at hm;obtain⟨n',kG,Fc⟩:=(KK hl (h.sl.ok n)).2 m hm;exact UT kG Fc
   ·rw[hs]at hm;simp[cM]at hm
  ·rintro b ⟨m,ob,ho,hf⟩;obtain⟨n,o1,r1,s1,f1⟩:=OG ho hf;exact .inl ⟨n,o1,s1,f1⟩
  ·intro m hm;unfold yD;cases hi:inv l m with
   |none=>simp only[hi];exact⟨trivial,trivial⟩
   |some n=>
    have:=(yF (Uz hi)).2;have:n=m:=by
     rcases this with ⟨_,h⟩|⟨_,k0,h,Gj,_⟩
     ·exact h.symm
     ·have:=L4 (f:=AO n) (k:=k0) (by omega);omega
    subst this;simp only[hi];exact⟨trivial,trivial⟩
theorem amm{N:aC}{σ0:St}{c0:e9}{w0:bJ}{nm F j e:aC}{xs:az AV}{ti:TI}(hx:E.ty e=ah ti)(jb:F<900000000)(mS:σ (db nm)= .o (.box xs))(hF:σ (db F)= .jZ)(hc:xs[j]? =ah .nl)(h:At P E N σ0 c0 w0 σ a w c):
  ∃c',At P E N σ0 c0 w0 (pM (pM σ (db nm) (.o (.box (xs.set j (.own F))))) (db F) (.o (.row e ai []))) a w c':=by
 let c':e9:=⟨λn=>if n=F then⟨ai,0,0,0,0,ti.ks.length⟩else c.P n,λn=>if n=F then(λ_ _=>⟨ai,0,0,0,0,0⟩)else c.G n,c.K⟩
 have hP:c'.P F=⟨ai,0,0,0,0,ti.ks.length⟩:=bB rfl;have hA:jz σ c c':=λm hm=>by
  have:m≠F:=by rintro rfl;rcases hm with h|h;exact h hF;omega
  exact⟨bH this,bH this⟩
 have hnF:nm≠F:=by rintro rfl;rw[mS]at hF;cases hF
 have hPn:c'.P nm=c.P nm:=bH hnF;let σ':=pM (pM σ (db nm) (.o (.box (xs.set j (.own F))))) (db F) (.o (.row e ai []));have key:∀m,σ' (db m)=if m=F then .o (.row e ai [])else if m=nm then .o (.box (xs.set j (.own F)))else σ (db m):=λm=>by show pM _ _ _ _=_;rw[p_,p_]
 have iy:∀m,σ (db m)≠ .jZ->σ' (db m)≠ .jZ:=λm hm=>by
  rw[key];by_cases h1:m=F
  ·rw[bB h1];simp
  ·rw[bH h1];by_cases h2:m=nm
   ·rw[bB h2];simp
   ·rw[bH h2];exact hm
 have noI:∀i j,¬gp [] i j:=λi j ⟨y,x,hy,_⟩=>by simp at hy
 have foF:∀b,¬fM c' F (.row e ai []) b:=by
  rintro b (⟨h1,_⟩|⟨_,i,j,h1,_⟩)
  ·rw[hP]at h1;cases h1
  ·exact noI i j h1
 obtain⟨vals,hb,fZ,hv⟩:=h.ok.obj nm _ mS
 have hh:=h.ok.change (σ':=σ') (w':=w) (c':=c') (λm=>m=F\/m=nm)
  (λm hm=>by rw[key,bH (λe=>hm (.inl e)),bH (λe=>hm (.inr e))]) iy hA (λ_ _ _=>rfl) (cJ _) (λ_ h=>h) (λ_ h=> .inl h) h.ok.lt
  (λm o hm ho=>by
   rw[key]at ho;by_cases Kg:m=F
   ·rw[bB Kg]at ho;cases ho;subst Kg;refine⟨⟨ti,hx,by rw[hP],λy hy=>by cases hy⟩,⟨by rw[hP];rfl,λ_=>⟨rfl,by rw[hP]⟩,λhn=>by rw[hP]at hn;cases hn⟩,λ_=>⟨λi j hi=>cS hi (noI i j),λi j _ _ hi=>cS hi (noI i j)⟩⟩
   ·have hmn:=hm.resolve_left Kg;subst hmn;rw[bH Kg,bB rfl]at ho;cases ho;refine⟨vals,by rw[hPn];exact hb,by rw[cO];exact fZ,λk y hk=> ?_⟩
    by_cases hkj:j=k
    ·subst hkj;have hl:j<xs.length:=(aT.1 hc).1;rw[List.getElem?_set_self hl]at hk;cases hk;obtain⟨u,hu,XI⟩:=hv j _ hc;exact⟨u,hu,by show u=lO (c'.P F);rw[hP];exact XI⟩
    ·rw[List.getElem?_set_ne hkj]at hk;obtain⟨u,hu,XI⟩:=hv k y hk;exact⟨u,hu,XI.frame (λ_ _=>rfl) (λ_ h=>h) (λn hn=>hA n (.inl (h.ok.kn m xs mS y (aR hk) n hn)))⟩)
  (λm o b hm ho hf=>by
   rw[key]at ho;by_cases Kg:m=F
   ·rw[bB Kg]at ho;cases ho;subst Kg;exact cS hf (foF b)
   ·have hmn:=hm.resolve_left Kg;subst hmn;rw[bH Kg,bB rfl]at ho;cases ho;have hf:b=(c'.P m).blk:=hf;rw[hPn]at hf;exact⟨.inl ⟨m,_, .inr rfl,mS,hf⟩,λhk=>h.ok.kk m _ b mS hf hk⟩)
  (λm o m' o' b hm xT ho vt hf vn=>by
   rw[key]at ho vt;by_cases Kg:m=F
   ·rw[bB Kg]at ho;cases ho;subst Kg;exact cS hf (foF b)
   ·by_cases ahh:m'=F
    ·rw[bB ahh]at vt;cases vt;subst ahh;exact cS vn (foF b)
    ·rw[hm.resolve_left Kg,xT.resolve_left ahh])
  (λm ys hm ho y hy n hn=>by
   rw[key]at ho;by_cases Kg:m=F
   ·rw[bB Kg]at ho;cases ho
   ·have hmn:=hm.resolve_left Kg;subst hmn;rw[bH Kg,bB rfl]at ho;cases ho;rcases jE hy with hy|hy
    ·exact iy n (h.ok.kn m xs mS y hy n hn)
    ·subst hy;rw[show n=F from by simpa [bN]using hn,key,bB rfl];simp) rfl rfl rfl
 have sl:=h.sl.change h.ok hh.2 hA iy ({(default:fB)with dst:=none}) undef (λn _=>by show slot (pM _ _ _) n=_;rw[jl,jl]) (λd hd=>by cases hd);exact⟨c',hh.1,sl,h.sz,h.gr.trans hh.2,h.ag.trans hA.w.aga⟩
theorem Vh{α:Type}{N:aC}{σ0:St}{c0:e9}{w0:bJ}{x:aC}(hx:∃ti,E.ty (kTy x)=ah ti)(h:At P E N σ0 c0 w0 σ a w c):∃σ' c',At P E N σ0 c0 w0 σ' a w c'/\∀f:St->α,Bv x σ f=f σ':=by
 obtain⟨ti,hx⟩:=hx;have jb:kNm x<900000000:=by unfold kNm;have:=Et (x/1000) (show 1000000>0 by omega);omega
 have no:(∀f:St->α,Bv x σ f=f σ)->∃σ' c',At P E N σ0 c0 w0 σ' a w c'/\∀f:St->α,Bv x σ f=f σ':=λe=>⟨σ,c,h,e⟩
 cases hs:slot σ (adw x)with
 |v g l=>
  by_cases hm:∃nm xs,g=ak/\l=[.bp nm 0]/\σ (db nm)= .o (.box xs)/\σ (db (kNm x))= .jZ/\xs[UP x]? =ah .nl
  ·obtain⟨nm,xs,rfl,rfl,mS,hF,hc⟩:=hm;obtain⟨c',h'⟩:=amm hx jb mS hF hc h;exact⟨_,c',h',λf=>by unfold Bv;rw[hs];simp only[mS,hF,hc,nR]⟩
  ·refine no λf=> ?_;unfold Bv;rw[hs];split
   ·rename_i nm he;cases he;split
    ·rename_i xs h1 h2;split
     ·rename_i h3;exact cS ⟨nm,xs,rfl,rfl,h1,h2,h3⟩ hm
     ·rfl
    ·rfl
   ·rfl
 |j_ l=>exact no λf=>by unfold Bv;rw[hs]
 |un=>exact no λf=>by unfold Bv;rw[hs]
theorem DJ{α:Type}{N:aC}{σ0:St}{c0:e9}{w0:bJ}:∀(keep:az aC) (σ:St) (c:e9) (hk:∀x∈keep,Za x=ai->∃ti,E.ty (kTy x)=ah ti) (h:At P E N σ0 c0 w0 σ a w c),∃σ' c',At P E N σ0 c0 w0 σ' a w c'/\∀f:St->α,O4 keep σ f=f σ'
 |[],σ,c,_,h=>⟨σ,c,h,λ_=>rfl⟩
 |x::r,σ,c,hk,h=>by
  cases hx:Za x with
  |false=>obtain⟨σ',c',h',e⟩:=DJ r σ c (λy hy=>hk y (c9 _ hy)) h;exact⟨σ',c',h',λf=>by show(bif Za x then _ else _)=_;rw[hx];exact e f⟩
  |true=>obtain⟨σ1,c1,h1,e1⟩:=Vh (α:=α) (hk x (dL ..) hx) h;obtain⟨σ',c',h',e⟩:=DJ r σ1 c1 (λy hy=>hk y (c9 _ hy)) h1;exact⟨σ',c',h',λf=>by show(bif Za x then _ else _)=_;rw[hx,au,e1,e]⟩
theorem JM{N:aC}{σ0:St}{c0:e9}{w0:bJ}{keep:az aC}(hk:∀x∈keep,Za x=ai->∃ti,E.ty (kTy x)=ah ti)(h:At P E N σ0 c0 w0 σ a w c):∃c',At P E N σ0 c0 w0 (canon keep σ) a w c':=by obtain⟨σ',c1,h1,e⟩:=DJ (α:=az (aC×eR)) keep σ c hk h;unfold canon LV;rw[e,oQ];exact Qm h1
theorem US{n:aC}:∀x∈E.Bt n,Za x=ai->∃ti,E.ty (kTy x)=ah ti:=by
 intro x hx hk;have:=(dE.1 hx).2;rw[hk,au]at this;cases h:E.ty (kTy x)with
 |some ti=>exact⟨ti,rfl⟩
 |none=>rw[h]at this;cases this
end
end Go.FG

namespace Go.FG
def agR:Ex->Exit| .normal=> .normal| .exit id=> .exit id| .ret=> .ret
def tn(N:aC):Code->aY
 | .region _ os _=>os.toList.all λo=>match o.dst with|some d=>qs d N|none=>ai
 | .seq a b=>tn N a&&tn N b
 | .cond _ a b=>tn N a&&tn N b
 | .block _ c=>tn N c
 | .loop c=>tn N c
 |_=>ai
theorem least{p:aC->Prop}(h:∃n,p n):∃n,p n/\∀k,p k->n<=k:=by
 obtain⟨n,hn⟩:=h;induction n using Nat.strongRecOn with
 |_ n ih=>
  by_cases hm:∃m,m<n/\p m
  ·obtain⟨m,h1,h2⟩:=hm;exact ih m h1 h2
  ·exact⟨n,hn,λk hk=>by
    rcases qQ k n with h|h
    ·exact cS ⟨k,h,hk⟩ hm
    ·exact h⟩
section
variable {P:c6} {E:fS}
def bY(E:fS){R:Type}(it:It R)(c:Code):Prop:=∀L K r,it (gH c) (tq E it c) (canon (E.Bt (gH c))) L K=ah r->∃n,iter (tq E it c) (canon (E.Bt (gH c))) n (fN L) K=ah r
theorem agQ(hE:eH P E)(hF:∀g,bX P E g (E.call g))(hm:P.follows .mixedOrders=ai){R:Type}{N:aC}{σ0:St}{c0:e9}{w0:bJ}{it:It R}{r:R}:∀(code:Code),(∀c∈jV code,bY E it c)->∀(σ:St) (K:Ex->St->ay R) (Q:Exit->Act->bJ->Prop),tq E it code σ K=ah r->tn N code=ai->
  (∀e σ' a w c,K e σ'=ah r->At P E N σ0 c0 w0 σ' a w c->Q (agR e) a w)->∀a w c,At P E N σ0 c0 w0 σ a w c->code.wp P Q a w:=by
 intro code;induction code with
 |skip=>intro _ σ K Q h _ hQ a w c gk;exact wp_skip (hQ .normal σ a w c h gk)
 |region id os draw=>intro Dz σ K Q h hb hQ a w c gk;refine Q9 hE hF hm h (λo ho d hd=> ?_) (λσ' a w c hk gk=>hQ .normal σ' a w c hk gk) gk;have:=bA.1 hb o ho;rw[hd]at this;have this:qs d N=true:=this;simpa [BJ]using this
 |seq x y ihx ihy=>
  intro Dz σ K Q h hb hQ a w c gk;simp only[tn,aK]at hb;refine wp_seq (ihx (λc hc=>Dz c (bW _ hc)) σ _ _ h hb.1 (λe σ' a w c hk gk=> ?_) a w c gk);cases e with
  |normal=>exact ihy (λc hc=>Dz c (bO _ hc)) σ' K Q hk hb.2 hQ a w c gk
  |exit id=>exact hQ (.exit id) σ' a w c hk gk
  |ret=>exact hQ .ret σ' a w c hk gk
 |cond cnd x y ihx ihy=>
  intro Dz σ K Q h hb hQ a w c gk;simp only[tn,aK]at hb;cases cnd with
  |tmp t=>
   unfold tq at h;dsimp only at h;split at h
   ·rename_i b hs;have h1:=gk.sl.ok t;have:slot σ t= .v ak [.b b]:=by unfold slot;rw[hs]
    rw[this]at h1;have h1:a.eval (.tmp t)= .bool b:=h1;cases b with
    |true=>have h:tq E it x (pM σ (qn t) (.v (.v ak [.b ai]))) K=ah r:=h;rw[Ej hs]at h;exact wp_cond_true h1 (ihx (λc hc=>Dz c (bW _ hc)) σ K Q h hb.1 hQ a w c gk)
    |false=>have h:tq E it y (pM σ (qn t) (.v (.v ak [.b ak]))) K=ah r:=h;rw[Ej hs]at h;exact wp_cond_false h1 (ihy (λc hc=>Dz c (bO _ hc)) σ K Q h hb.2 hQ a w c gk)
   ·cases h
  |_=>simp[tq]at h
 |block id x ih=>
  intro Dz σ K Q h hb hQ a w c gk;refine wp_block (ih Dz σ _ _ h hb (λe σ' a w c hk gk=> ?_) a w c gk);cases e with
  |normal=>exact hQ .normal σ' a w c hk gk
  |ret=>exact hQ .ret σ' a w c hk gk
  |exit j=>
   have hk:(bif bD j id then K .normal σ' else K (.exit j) σ')=ah r:=hk;show Jo id Q (.exit j) a w;cases hj:bD j id with
   |true=>rw[hj]at hk;have Mq:=aU hj;have h1:Q .normal a w:=hQ .normal σ' a w c hk gk;simp only[Jo,Mq,if_true];exact h1
   |false=>
    rw[hj]at hk;have iy:j≠id:=λe=>by subst e;simp at hj
    have h1:Q (.exit j) a w:=hQ (.exit j) σ' a w c hk gk;simp only[Jo,iy,if_false];exact h1
 |loop x ih=>
  intro Dz σ K Q h hb hQ a w c gk;obtain⟨n,h⟩:∃n,iter (tq E it x) (canon (E.Bt (gH x))) n (canon (E.Bt (gH x)) σ) K=ah r:=Dz x (dL ..) _ K r h;let f:=tq (R:=R) E it x;let cn:=canon (E.Bt (gH x));let p:Act->bJ->aC->Prop:=λa w m=>∃σ c,iter f cn m σ K=ah r/\At P E N σ0 c0 w0 σ a w c;let mu:Act->bJ->aC:=λa w=>open Classical in if h:∃m,p a w m then(least h).choose else 0
  have hmu:∀a w,(∃m,p a w m)->p a w (mu a w)/\∀k,p a w k->mu a w<=k:=by
   intro a w h;have:mu a w=(least h).choose:=by simp only[mu];rw[dif_pos h]
   rw[this];exact(least h).choose_spec
  obtain⟨c1,avc⟩:=JM (keep:=E.Bt (gH x)) US gk;refine wp_loop (λa w=>∃m,p a w m) mu ⟨n,_,c1,h,avc⟩ (λa w hI=> ?_);obtain⟨⟨σ1,c2,h1,oH⟩,hle⟩:=hmu a w hI;cases hm0:mu a w with
  |zero=>rw[hm0]at h1;cases h1
  |succ m=>
   rw[hm0]at h1;refine ih (λc hc=>Dz c (c9 _ hc)) σ1 _ _ h1 hb (λe σ' a' w' c' hk B4=> ?_) a w c2 oH;obtain⟨c3,ag3⟩:=JM (keep:=E.Bt (gH x)) US B4;cases e with
   |normal=>
    have hp:p a' w' m:=⟨_,c3,hk,ag3⟩
    refine⟨⟨m,hp⟩, ?_⟩
    have:=(hmu a' w' ⟨m,hp⟩).2 m hp;omega
   |exit id=>exact hQ (.exit id) _ a' w' c3 hk ag3
   |ret=>exact hQ .ret _ a' w' c3 hk ag3
 |exit id=>intro _ σ K Q h _ hQ a w c gk;exact wp_exit (hQ (.exit id) σ a w c h gk)
 |ret=>intro _ σ K Q h _ hQ a w c gk;exact wp_ret (hQ .ret σ a w c h gk)
 |_=>intro _ σ K Q h;simp[tq]at h
end
end Go.FG

namespace Go.FG
structure jA where
 aa:AA
 tk:az aC
 fz:az aC
 p:Pl
 g:aC->aC->Pl
 u:bn
section
variable {P:c6} {E:fS} {σ:St} {a:Act} {w:bJ} {c:e9}
def jQ(T:Tab)(σ:St)(w:bJ)(c:e9)(r:jA):Prop:=
 (∃e ex ys te,r.aa= .ow e ex ys/\r.fz=[]/\T.ty e=ah te/\r.u=lO r.p/\r.p.sz=te.ks.length/\(∀y∈ys,y.map CV.kd=te.ks)/\jg w r.p ys (λi j u x=>if ex=ai then XC T w r.g i j u x else dg T w c.K u x)/\(ex=ai->G2 r.p r.g ys)/\
  (r.p.nil=ak->∃n ob,n∈r.tk/\σ (db n)= .o ob/\fM c n ob r.p.blk)/\(ex=ai->∀i j,gp ys i j->(r.g i j).nil=ak->∃n ob,n∈r.tk/\σ (db n)= .o ob/\fM c n ob (r.g i j).blk))\/
 (r.tk=[]/\(∀n∈r.fz,∃el ex xs,σ (db n)= .o (.row el ex xs))/\(∀e ex xs,r.aa≠ .ow e ex xs)/\(∀xs,r.aa≠ .kp xs)/\∀c3:e9,(∀b,K1r σ c r.fz b->c3.K b)->∀nm,eL T w c3 (lk nm r.aa) r.u)
theorem J5(cj:Ok E σ w c){om:Om}{k:Ck}{x:AV}{u:bn}{aa:AA}{tk fz:az aC}(h:Br E om σ k x=ah (aa,tk,fz))(hx:eL E w c x u):∃p g,jQ E σ w c ⟨aa,tk,fz,p,g,u⟩:=by
 let nl:Pl:=⟨ai,0,0,0,0,0⟩
 have OW:∀e ex ys tk,(xF e x).val σ=ah (ex,ys,tk)->(∃te,E.ty e=ah te)->∃p g,jQ E σ w c ⟨.ow e ex ys,tk,[],p,g,u⟩:=by rintro e ex ys tk hb ⟨te,ht⟩;obtain⟨p,g,hB⟩:=Dd cj ht hx hb;exact⟨p,g, .inl ⟨e,ex,ys,te,rfl,rfl,ht,hB.v,hB.sz,hB.sh,hB.at_,hB.mU,hB.own,hB.owni⟩⟩
 have SH:∀aa fz,(∀n∈fz,∃el ex xs,σ (db n)= .o (.row el ex xs))->(∀e ex xs,aa≠ .ow e ex xs)->(∀xs,aa≠ .kp xs)->(∀c3:e9,(∀b,K1r σ c fz b->c3.K b)->∀nm,eL E w c3 (lk nm aa) u)->∃p g,jQ E σ w c ⟨aa,[],fz,p,g,u⟩:=
  λaa fz h1 h2 h3 h4=>⟨nl,λ_ _=>nl, .inr ⟨rfl,h1,h2,h3,h4⟩⟩
 have Vj:∀n∈([]:az aC),∃el ex xs,σ (db n)= .o (.row el ex xs):=λn hn=>by cases hn
 have HT:∀e,Bs E e=ai->∃te,E.ty e=ah te:=λe he=>by
  unfold Bs at he;cases ht:E.ty e with
  |none=>rw[ht]at he;cases he
  |some te=>exact⟨te,rfl⟩
 have frz:∀{n el:aC} {ex:aY} {xs:aQ},σ (db n)= .o (.row el ex xs)->∀c3:e9,(∀b,K1r σ c [n] b->c3.K b)->(∀b,c.K b->c3.K b)/\∀b,fM c n (.row el ex xs) b->c3.K b:=λhg c3 h=>⟨λb hb=>h b (.inl hb),λb hb=>h b (.inr ⟨_,aZ.2 rfl,_,hg,hb⟩)⟩
 have fst:∀{n el:aC} {ex:aY} {xs:aQ},σ (db n)= .o (.row el ex xs)->∀m∈[n],∃el ex xs,σ (db m)= .o (.row el ex xs):=λhg m hm=>by rw[aZ]at hm;subst hm;exact⟨_,_,_,hg⟩
 cases x with
 |i k n=>cases h;exact SH _ _ Vj (λ_ _ _ h=>by cases h) (λ_ h=>by cases h) (λc3 _ _=>hx)
 |b y=>cases h;exact SH _ _ Vj (λ_ _ _ h=>by cases h) (λ_ h=>by cases h) (λc3 _ _=>hx)
 |s y=>cases h;exact SH _ _ Vj (λ_ _ _ h=>by cases h) (λ_ h=>by cases h) (λc3 _ _=>hx)
 |sh e xs=>
  cases om with
  |own=>cases h
  |nat=>cases h;exact SH _ _ Vj (λ_ _ _ h=>by cases h) (λ_ h=>by cases h) (λc3 h3 _=>dg.frame hx (λ_ _=>rfl) (λb hb=>h3 b (.inl hb)))
  |sh=>cases h;exact SH _ _ Vj (λ_ _ _ h=>by cases h) (λ_ h=>by cases h) (λc3 h3 _=>dg.frame hx (λ_ _=>rfl) (λb hb=>h3 b (.inl hb)))
 |nl=>
  have hx:u= .slice aj 0 0:=hx;cases om with
  |own e=>
   have h:(bif Bs E e then ah (AA.ow e ai [],([]:az aC),([]:az aC))else aj)=ah (aa,tk,fz):=h;cases ht:Bs E e with
   |false=>rw[ht]at h;cases h
   |true=>rw[ht]at h;cases h;exact OW e ai [] [] rfl (HT e ht)
  |sh e=>cases h;exact SH _ _ Vj (λ_ _ _ h=>by cases h) (λ_ h=>by cases h) (λc3 _ _=>by rw[hx];exact dg.nl _ _ _)
  |nat=>
   cases k with
   |l e=>
    have h:(bif Bs E e then ah (AA.ow e ai [],([]:az aC),([]:az aC))else aj)=ah (aa,tk,fz):=h;cases ht:Bs E e with
    |false=>rw[ht]at h;cases h
    |true=>rw[ht]at h;cases h;exact OW e ai [] [] rfl (HT e ht)
   |_=>cases h;exact SH _ _ Vj (λ_ _ _ h=>by cases h) (λ_ h=>by cases h) (λc3 _ _=>hx)
 |own n=>
  unfold Br at h;dsimp only at h;cases ho:σ (db n)with
  |v=>rw[ho]at h;cases h
  |jZ=>rw[ho]at h;cases h
  |o ob=>
   rw[ho]at h;have hu:u=lO (c.P n):=hx;cases ob with
   |row e ex xs=>
    obtain⟨_,_,ti,ht,_⟩:=ld cj ho;have hb:(xF e (.own n)).val σ=ah (ex,xs,[n]):=by simp[xF,jI,ho]
    cases om with
    |sh e'=>cases h;refine SH _ _ (fst ho) (λ_ _ _ h=>by cases h) (λ_ h=>by cases h) (λc3 h3 _=> ?_);obtain⟨r1,r2⟩:=frz ho c3 h3;rw[hu];exact rW cj ho r1 r2
    |nat=>cases h;exact OW e ex xs [n] hb ⟨ti,ht⟩
    |own=>cases h;exact OW e ex xs [n] hb ⟨ti,ht⟩
   |fV e xs=>
    have hh:dg E w c.K u (.l e xs):=by rw[hu];exact(cj.obj n _ ho).1
    cases om with
    |own=>cases h
    |nat=>cases h;exact SH _ _ Vj (λ_ _ _ h=>by cases h) (λ_ h=>by cases h) (λc3 h3 _=>dg.frame hh (λ_ _=>rfl) (λb hb=>h3 b (.inl hb)))
    |sh=>cases h;exact SH _ _ Vj (λ_ _ _ h=>by cases h) (λ_ h=>by cases h) (λc3 h3 _=>dg.frame hh (λ_ _=>rfl) (λb hb=>h3 b (.inl hb)))
   |_=>cases h
 |vw n lo hi=>
  unfold Br at h;dsimp only at h;cases ho:σ (db n)with
  |v=>rw[ho]at h;cases h
  |jZ=>rw[ho]at h;cases h
  |o ob=>
   rw[ho]at h;cases ob with
   |row e ex xs=>
    obtain⟨_,_,ti,ht,_⟩:=ld cj ho;have hb:(xF e (.vw n lo hi)).val σ=ah (ex,e8 xs lo hi,[n]):=by simp[xF,jI,ho]
    cases om with
    |sh e'=>cases h;refine SH _ _ (fst ho) (λ_ _ _ h=>by cases h) (λ_ h=>by cases h) (λc3 h3 _=> ?_);obtain⟨r1,r2⟩:=frz ho c3 h3;exact GK cj ho r1 r2 hx
    |nat=>cases h;exact OW e ex _ [n] hb ⟨ti,ht⟩
    |own=>cases h;exact OW e ex _ [n] hb ⟨ti,ht⟩
   |fV e xs=>
    have hh:dg E w c.K u (.l e (e8 xs lo hi)):=po cj ho hx;cases om with
    |own=>cases h
    |nat=>cases h;exact SH _ _ Vj (λ_ _ _ h=>by cases h) (λ_ h=>by cases h) (λc3 h3 _=>dg.frame hh (λ_ _=>rfl) (λb hb=>h3 b (.inl hb)))
    |sh=>cases h;exact SH _ _ Vj (λ_ _ _ h=>by cases h) (λ_ h=>by cases h) (λc3 h3 _=>dg.frame hh (λ_ _=>rfl) (λb hb=>h3 b (.inl hb)))
   |_=>cases h
 |_=>simp[Br]at h
theorem Gc(cj:Ok E σ w c){q:aC}:∀{xs:az AV} {j0:aC} {ks:az Ck} {l:az AA} {tk fz:az aC} {vals:dp bn},tu E q σ j0 ks xs=ah (l,tk,fz)->gf E w c vals xs->
  ∃cs:az jA,l=cs.map (·.aa)/\tk=cs.flatMap (·.tk)/\fz=cs.flatMap (·.fz)/\cs.length=xs.length/\∀(j:aC) (r:jA),cs[j]? =ah r->vals[j]? =ah r.u/\jQ E σ w c r:=by
 intro xs;induction xs with
 |nil=>intro j0 ks l tk fz vals h _;cases h;exact⟨[],rfl,rfl,rfl,rfl,λj r h=>by simp at h⟩
 |cons x xs ih=>
  intro j0 ks l tk fz vals h hv;unfold tu at h;split at h
  ·rename_i aa t f as ts fs h1 h2;cases h;obtain⟨u,hu,ha⟩:=hv.2 0 x rfl;obtain⟨p,g,hc⟩:=J5 cj h1 ha;have OQ:gf E w c (vals.extract 1 vals.size) xs:=by
    refine⟨by simp;have:=hv.1;simp at this;omega,λj b hj=> ?_⟩
    obtain⟨u,hu,hb⟩:=hv.2 (j+1) b hj;refine⟨u, ?_,hb⟩
    have:=(dY.1 hu).1;rw[eh,bB (by omega),iY];exact hu
   obtain⟨cs,rfl,rfl,rfl,i4,i5⟩:=ih h2 OQ;refine⟨⟨aa,t,f,p,g,u⟩::cs,rfl,rfl,rfl,by simp[i4],λj r hj=> ?_⟩
   cases j with
   |zero=>cases hj;exact⟨hu,hc⟩
   |succ j=>
    obtain⟨r1,r2⟩:=i5 j r hj;refine⟨?_,r2⟩
    rw[eh]at r1;split at r1
    ·rw[iY];exact r1
    ·cases r1
  ·cases h
end
end Go.FG

namespace Go.FG
structure kW where
 box:ay aC
 agg:aY
 cs:az jA
 v:bn
def kW.arg(R:kW):fj:=match R.box with|some _=> .pt (R.cs.map (·.aa))|none=> .v R.agg (R.cs.map (·.aa))
def kW.tk(R:kW):az aC:=R.box.toList++R.cs.flatMap (·.tk)
def kW.fz(R:kW):az aC:=R.cs.flatMap (·.fz)
def AZ(rv:ResultVar)(tmps:dp bn):Sem bn:=match rv with| .tmp t=>pure (tmps.getD t undef)| .cell a t=>do loadVar t (<-asAddr (tmps.getD a undef))
section
variable {P:c6} {E:fS} {σ:St} {a:Act} {w:bJ} {c:e9}
def C0(T:Tab)(σ:St)(w:bJ)(c:e9)(R:kW):Prop:=
 (∃nm xs vals,R.box=ah nm/\σ (db nm)= .o (.box xs)/\R.v= .pointer (ah (ad (c.P nm).blk 0))/\nV w (c.P nm).blk vals/\vals.size=R.cs.length/\∀(j:aC) (r:jA),R.cs[j]? =ah r->vals[j]? =ah r.u/\jQ T σ w c r)\/
 (R.box=aj/\((R.agg=ak/\∃r,R.cs=[r]/\r.u=R.v/\jQ T σ w c r)\/(R.agg=ai/\∃vals:dp bn,R.v= .agg vals/\vals.size=R.cs.length/\∀(j:aC) (r:jA),R.cs[j]? =ah r->vals[j]? =ah r.u/\jQ T σ w c r)))
theorem J6(cj:Ok E σ w c){q:aC}{ks:az Ck}{s:SV}{v:bn}{x:fj}{tk fz:az aC}(h:OC E q σ ks s=ah (x,tk,fz))(hs:jh E w c s v):∃R:kW,R.arg=x/\R.tk=tk/\R.fz=fz/\R.v=v/\C0 E σ w c R:=by
 have gen:∀g xs,s= .v g xs->(match tu E q σ 0 ks xs with|some (l,ns,ms)=>ah (fj.v g l,ns,ms)|none=>aj)=ah (x,tk,fz)->∃R:kW,R.arg=x/\R.tk=tk/\R.fz=fz/\R.v=v/\C0 E σ w c R:=by
  rintro g xs rfl h;cases hf:tu E q σ 0 ks xs with
  |none=>rw[hf]at h;cases h
  |some t=>
   obtain⟨l,ns,ms⟩:=t;rw[hf]at h;cases h;obtain⟨cs,rfl,rfl,rfl,h4,h5⟩:=Gc cj hf (qi.cells hs);refine⟨⟨aj,g,cs,v⟩,rfl,by simp[kW.tk],rfl,rfl, .inr ⟨rfl, ?_⟩⟩
   replace hs:qi E w c g xs v:=hs;have xU:∀y,qi E w c ak [y] v->v.cells= #[v]:=λy hy=>F8 (eL.one hy);unfold qi at hs;split at hs
   ·rename_i y;obtain⟨r,rfl⟩:=gX.1 (h4.trans rfl);obtain⟨h6,h7⟩:=h5 0 r rfl;rw[xU y hs]at h6;exact .inl ⟨rfl,r,rfl,by simpa using h6.symm,h7⟩
   ·obtain⟨vals,rfl,fZ,_⟩:=hs;exact .inr ⟨rfl,vals,rfl,by rw[fZ];exact h4.symm,h5⟩
   ·exact hs.elim
 unfold OC at h;split at h
 ·rename_i nm;cases ho:σ (db nm)with
  |v=>rw[ho]at h;cases h
  |jZ=>rw[ho]at h;cases h
  |o ob=>
   rw[ho]at h;cases ob with
   |box xs=>
    dsimp only at h;cases hf:tu E q σ 0 [] xs with
    |none=>rw[hf]at h;cases h
    |some t=>obtain⟨l,ns,ms⟩:=t;rw[hf]at h;cases h;obtain⟨vals,hb,fZ,hv⟩:=cj.obj nm _ ho;obtain⟨cs,rfl,rfl,rfl,h4,h5⟩:=Gc cj hf ⟨fZ,hv⟩;exact⟨⟨ah nm,ak,cs,v⟩,rfl,rfl,rfl,rfl, .inl ⟨nm,xs,vals,rfl,ho,hs,hb,by rw[fZ];exact h4.symm,h5⟩⟩
   |_=>cases h
 ·exact gen _ _ rfl h
 ·cases h
theorem KP(hE:eH P E){t:aC}{ti:TI}(ht:E.ty t=ah ti){b:aC}{vals:dp bn}(hb:nV w b vals)(hl:vals.size=ti.ks.length):(loadVar t (ad b 0)).run P w= .ok (if ti.agg=ai then .agg vals else vals.toList.headD .nilIface) w:=by
 have h:=D_ (P:=P) w hE ht (b:=b) (o:=0) (cs:=vals.toList) (by simpa using hl) (λj v hj=>by rw[bT,hb.cell];simpa using hj);have e:(zL t (.pointer (ah (ad b 0)))).run P w=(loadVar t (ad b 0)).run P w:=by simp only[zL,uP,cq,cU,bG]
 rw[<-e,h]
theorem We(hE:eH P E)(cj:Ok E σ w c)(dI:fC E σ a w c){q:aC}{rv:ResultVar}{t:aC}{x:fj}{tk fz:az aC}(h:Wc E q σ rv t=ah (x,tk,fz)):∃R:kW,R.arg=x/\R.tk=tk/\R.fz=fz/\C0 E σ w c R/\(AZ rv a.tmps).run P w= .ok R.v w:=by
 unfold Wc at h;cases ht:E.ty t with
 |none=>rw[ht]at h;cases h
 |some ti=>
  rw[ht]at h;cases rv with
  |tmp s=>obtain⟨R,h1,h2,h3,h4,h5⟩:=J6 cj h (dI.ok s);exact⟨R,h1,h2,h3,h5,by rw[h4];rfl⟩
  |cell b t'=>
   dsimp only at h;split at h
   ·rename_i W9 nm ht' hs;split at h
    ·rename_i xs ho;cases hb:bD xs.length W9.ks.length with
     |false=>rw[hb]at h;cases h
     |true=>
      rw[hb]at h;have hlen:=aU hb;have hv:a.eval (.tmp b)= .pointer (ah (ad (c.P nm).blk 0)):=by have:=dI.ok b;rw[hs]at this;exact this
      obtain⟨vals,hbl,fZ,hcv⟩:=cj.obj nm _ ho;have Up:=KP (P:=P) (w:=w) hE ht' hbl (by rw[fZ];exact hlen);have av0:jh E w c (.v W9.agg xs) (if W9.agg=ai then .agg vals else vals.toList.headD .nilIface):=by
       show qi E w c W9.agg xs _;cases uw:W9.agg with
       |true=>rw[bB rfl];exact⟨vals,rfl,fZ,hcv⟩
       |false=>
        obtain⟨d,_,_,hn⟩:=hE.desc t' W9 ht';have h1:W9.ks.length=1:=by rcases hn uw with ⟨k,h,_⟩|⟨h,_⟩|⟨h,_⟩|⟨e',h,_⟩|⟨h,_⟩<;>simp[h]
        obtain⟨y,rfl⟩:=gX.1 (hlen.trans h1);obtain⟨u,hu,ha⟩:=hcv 0 y rfl;have sq:vals.toList[0]? =ah u:=by simpa using hu
        have:vals.toList.headD .nilIface=u:=by
         cases hl:vals.toList with
         |nil=>rw[hl]at sq;cases sq
         |cons z l=>rw[hl]at sq;cases sq;rfl
        rw[bH (by simp),this];exact ha
      obtain⟨R,h1,h2,h3,h4,h5⟩:=J6 cj h av0;refine⟨R,h1,h2,h3,h5, ?_⟩
      rw[h4,<-Up];have:a.tmps.getD b undef= .pointer (ah (ad (c.P nm).blk 0)):=hv;simp only[AZ,this,asAddr,cq,cU,bG]
    ·cases h
   ·cases h
theorem Ra(hE:eH P E)(cj:Ok E σ w c)(dI:fC E σ a w c):∀{rs:az ResultVar} {q:aC} {ts:az aC} {as:az fj} {tk fz:az aC},D3 E σ q rs ts=ah (as,tk,fz)->∃RL:az kW,as=RL.map (·.arg)/\tk=RL.flatMap (·.tk)/\fz=RL.flatMap (·.fz)/\(∀R∈RL,C0 E σ w c R)/\RL.length=rs.length/\(rs.mapM (λrv=>AZ rv a.tmps)).run P w= .ok (RL.map (·.v)) w:=by
 intro rs;induction rs with
 |nil=>intro q ts as tk fz h;cases h;exact⟨[],rfl,rfl,rfl,λR h=>(by cases h),rfl,by simp⟩
 |cons rv rs ih=>
  intro q ts as tk fz h;unfold D3 at h;split at h
  ·rename_i x l m as' ls ms h1 h2;cases h;obtain⟨R,rfl,rfl,rfl,r4,r5⟩:=We hE cj dI h1;obtain⟨RL,rfl,rfl,rfl,i4,i5,i6⟩:=ih h2;refine⟨R::RL,rfl,rfl,rfl,λR' hR=> ?_,by simp[i5], ?_⟩
   ·rcases cB.1 hR with rfl|hR
    ·exact r4
    ·exact i4 R' hR
   ·simp only[Ye,cq,r5,i6,bG,cU,eC]
  ·cases h
def D4(vs:az bn):bn:=match vs with|[v]=>v|l=> .tuple l.toArray
theorem KQ{fn:Func}{vs:az bn}(h:(fn.results.toList.mapM (λrv=>AZ rv a.tmps)).run P w= .ok vs w):(results fn a.tmps).run P w= .ok (D4 vs) w:=by
 have e:(fn.results.mapM (λrv=>AZ rv a.tmps)).run P w= .ok vs.toArray w:=by rw[Array.mapM_eq_mapM_toList];simp[h]
 have:results fn a.tmps=(do let vs<-fn.results.mapM (λrv=>AZ rv a.tmps);pure (if h:vs.size=1 then vs[0]else .tuple vs)):=rfl;rw[this];simp only[cq,e,bG,cU];match vs with
 |[]=>rfl
 |[v]=>rfl
 |_::_::_=>rfl
end
end Go.FG

namespace Go.FG
structure mK where
 box:aY
 cs:az jA
def mK.l(O:mK):az AA:=O.cs.map (·.aa)
def mK.ns(O:mK)(p:aC):az aC:=(if O.box=ai then [dX p 900]else [])++O.cs.flatMap (·.tk)
def mK.ms(O:mK):az aC:=O.cs.flatMap (·.fz)
section
variable {P:c6} {E:fS} {σ:St} {a:Act} {w:bJ} {c:e9}
def Kept(σ:St)(p j:aC)(xs:az AA)(r:jA):Prop:=∃e ex z ys,xs[j]? =ah (.ow e ex z)/\r.aa= .kp ys/\r.tk=[dX p j]/\r.fz=[]/\σ (db (dX p j))= .o (.row e ex ys)
def Js(T:Tab)(σ:St)(w:bJ)(c:e9)(p:aC)(x:fj)(O:mK):Prop:=
 (O.box=ak/\(∀xs,x≠ .pt xs)/\(O.cs=[]\/∃g xs,x= .v g xs/\∀(j:aC) (r:jA),O.cs[j]? =ah r->Kept σ p j xs r\/(r.aa= .nl/\r.tk=[]/\r.fz=[])))\/
 (O.box=ai/\∃xs vs vals,x= .pt xs/\σ (db (dX p 900))= .o (.box vs)/\nV w (c.P (dX p 900)).blk vals/\vals.size=O.cs.length/\
  ∀(j:aC) (r:jA),O.cs[j]? =ah r->vals[j]? =ah r.u/\((Kept σ p j xs r/\r.u=lO (c.P (dX p j)))\/jQ T σ w c r))
theorem KT{a b:aY}(h:KS a b=ai):a=b:=by cases a<;>cases b<;>first|rfl|cases h
theorem aax(p j i:aC):dX p j+i=dX p (j+i):=by unfold dX;omega
theorem MC{tk:az aC}{p:aC}:∀{xs:az AA} {j:aC},∃cs:az jA,(pW σ tk (dX p j) xs).1=cs.map (·.aa)/\(pW σ tk (dX p j) xs).2=cs.flatMap (·.tk)/\cs.flatMap (·.fz)=[]/\
  ∀(i:aC) (r:jA),cs[i]? =ah r->((∃e ex z ys,xs[i]? =ah (.ow e ex z)/\r.aa= .kp ys/\r.tk=[dX p (j+i)]/\r.fz=[]/\σ (db (dX p (j+i)))= .o (.row e ex ys))\/(r.aa= .nl/\r.tk=[]/\r.fz=[])):=by
 intro xs;induction xs with
 |nil=>intro j;exact⟨[],rfl,rfl,rfl,λi r h=>by simp at h⟩
 |cons x xs ih=>
  intro j;obtain⟨cs,h1,h2,h3,h4⟩:=ih (j:=j+1);have e1:dX p j+1=dX p (j+1):=aax p j 1;let pl:Pl:=⟨ai,0,0,0,0,0⟩
  have one:∃r:jA,nu σ tk (dX p j) x=(r.aa,r.tk)/\r.fz=[]/\((∃e ex z ys,x= .ow e ex z/\r.aa= .kp ys/\r.tk=[dX p j]/\r.fz=[]/\σ (db (dX p j))= .o (.row e ex ys))\/(r.aa= .nl/\r.tk=[]/\r.fz=[])):=by
   have no:nu σ tk (dX p j) x=(.nl,[])->∃r:jA,nu σ tk (dX p j) x=(r.aa,r.tk)/\r.fz=[]/\((∃e ex z ys,x= .ow e ex z/\r.aa= .kp ys/\r.tk=[dX p j]/\r.fz=[]/\σ (db (dX p j))= .o (.row e ex ys))\/(r.aa= .nl/\r.tk=[]/\r.fz=[])):=
    λh=>⟨⟨.nl,[],[],pl,λ_ _=>pl,undef⟩,h,rfl, .inr ⟨rfl,rfl,rfl⟩⟩
   cases x with
   |ow e ex z=>
    cases hm:mC (dX p j) tk with
    |true=>exact no (by simp[nu,hm])
    |false=>
     obtain⟨so,ho⟩:∃so,σ (db (dX p j))=so:=⟨_,rfl⟩
     cases so with
     |v=>exact no (by simp[nu,hm,ho])
     |jZ=>exact no (by simp[nu,hm,ho])
     |o ob=>
      cases ob with
      |row e' uv ys=>
       cases hb:(bD e e'&&KS ex uv)with
       |false=>exact no (by simp only[nu,hm,ax,ho,hb])
       |true=>simp only[aK]at hb;have he:=aU hb.1;have hx:=KT hb.2;subst he;subst hx;exact⟨⟨.kp ys,[dX p j],[],pl,λ_ _=>pl,undef⟩,by simp[nu,hm,ho,hb.2],rfl, .inl ⟨e,ex,z,ys,rfl,rfl,rfl,rfl,ho⟩⟩
      |_=>exact no (by simp[nu,hm,ho])
   |_=>exact no rfl
  obtain⟨r,k1,k2,k3⟩:=one;refine⟨r::cs, ?_, ?_,by simp[k2,h3],λi r' hi=> ?_⟩
  ·show(nu σ tk (dX p j) x).1::(pW σ tk (dX p j+1) xs).1=_;rw[k1,e1,h1];rfl
  ·show(nu σ tk (dX p j) x).2++(pW σ tk (dX p j+1) xs).2=_;rw[k1,e1,h2];rfl
  ·cases i with
   |zero=>
    cases hi;rcases k3 with ⟨e,ex,z,ys,q1,q2⟩|q
    ·exact .inl ⟨e,ex,z,ys,by rw[q1];rfl,q2⟩
    ·exact .inr q
   |succ i=>have:=h4 i r' hi;rw[show j+1+i=j+(i+1)by omega]at this;exact this
theorem Qi(cj:Ok E σ w c){q:aC}:∀{xs:az AV} {j:aC} {bs l:az AA} {tk fz:az aC} {vals:dp bn},HZ E q σ j bs xs=ah (l,tk,fz)->gf E w c vals xs->
  ∃cs:az jA,l=cs.map (·.aa)/\tk=cs.flatMap (·.tk)/\fz=cs.flatMap (·.fz)/\cs.length=xs.length/\∀(i:aC) (r:jA),cs[i]? =ah r->vals[i]? =ah r.u/\
   (((∃e ex z ys,bs[i]? =ah (.ow e ex z)/\r.aa= .kp ys/\r.tk=[dX q (j+i)]/\r.fz=[]/\σ (db (dX q (j+i)))= .o (.row e ex ys))/\r.u=lO (c.P (dX q (j+i))))\/jQ E σ w c r):=by
 intro xs;induction xs with
 |nil=>intro j bs l tk fz vals h _;cases h;exact⟨[],rfl,rfl,rfl,rfl,λi r h=>by simp at h⟩
 |cons x xs ih=>
  intro j bs l tk fz vals h hv;unfold HZ at h;split at h
  ·rename_i aa t f as ts fs h1 h2;cases h;obtain⟨u,hu,ha⟩:=hv.2 0 x rfl;have OQ:gf E w c (vals.extract 1 vals.size) xs:=by
    refine⟨by simp;have:=hv.1;simp at this;omega,λi b hj=> ?_⟩
    obtain⟨u,hu,hb⟩:=hv.2 (i+1) b hj;refine⟨u, ?_,hb⟩
    have:=(dY.1 hu).1;rw[eh,bB (by omega),iY];exact hu
   obtain⟨cs,rfl,rfl,rfl,i4,i5⟩:=ih h2 OQ;have one:∃p g,((∃e ex z ys,bs[0]? =ah (.ow e ex z)/\aa= .kp ys/\t=[dX q j]/\f=[]/\σ (db (dX q j))= .o (.row e ex ys))/\u=lO (c.P (dX q j)))\/jQ E σ w c ⟨aa,t,f,p,g,u⟩:=by
    have other:∀{om k},Br E om σ k x=ah (aa,t,f)->∃p g,((∃e ex z ys,bs[0]? =ah (.ow e ex z)/\aa= .kp ys/\t=[dX q j]/\f=[]/\σ (db (dX q j))= .o (.row e ex ys))/\u=lO (c.P (dX q j)))\/jQ E σ w c ⟨aa,t,f,p,g,u⟩:=λhh=>by obtain⟨p,g,hc⟩:=J5 cj hh ha;exact⟨p,g, .inr hc⟩
    unfold ab_ at h1;split at h1
    ·rename_i e ex z n _ hb;cases hn:bD n (dX q j)with
     |false=>rw[hn]at h1;exact other (k:= .o) h1
     |true=>
      rw[hn]at h1;have:=aU hn;subst this;obtain⟨so,ho⟩:∃so,σ (db (dX q j))=so:=⟨_,rfl⟩
      cases so with
      |v=>simp[ho]at h1
      |jZ=>simp[ho]at h1
      |o ob=>
       cases ob with
       |row e' uv ys=>
        simp only[ho,au]at h1;cases Ew:(bD e e'&&KS ex uv)with
        |false=>rw[Ew]at h1;cases h1
        |true=>
         rw[Ew]at h1;cases h1;simp only[aK]at Ew;have he:=aU Ew.1;have hx:=KT Ew.2;subst he;subst hx;refine⟨⟨ai,0,0,0,0,0⟩,λ_ _=>⟨ai,0,0,0,0,0⟩, .inl ⟨⟨e,ex,z,ys, ?_,rfl,rfl,rfl,ho⟩,ha⟩⟩
         cases bs with
         |nil=>cases hb
         |cons b bs=>rw[show b=_ from hb];rfl
       |_=>simp[ho]at h1
    ·exact other (k:= .o) h1
   obtain⟨p,g,hc⟩:=one;refine⟨⟨aa,t,f,p,g,u⟩::cs,rfl,rfl,rfl,by simp[i4],λi r hi=> ?_⟩
   cases i with
   |zero=>cases hi;exact⟨hu,hc⟩
   |succ i=>
    obtain⟨r1,r2⟩:=i5 i r hi;refine⟨?_, ?_⟩
    ·rw[eh]at r1;split at r1
     ·rw[iY];exact r1
     ·cases r1
    ·rw[show j+1+i=j+(i+1)by omega]at r2;have e1:bs.tail[i]? =bs[i+1]? :=by cases bs<;>simp
     rw[e1]at r2;exact r2
  ·cases h
end
end Go.FG

namespace Go.FG
section
variable {P:c6} {E:fS} {σ:St} {a:Act} {w:bJ} {c:e9}
theorem Q3(cj:Ok E σ w c){tk:az aC}:∀{args:az fj} {p:aC} {l:az (az AA)} {ns ms:az aC},DW E σ tk p args=ah (l,ns,ms)->
  ∃OL:az mK,l=OL.map (·.l)/\OL.length=args.length/\ns=(OL.zipIdx p).flatMap (λt=>t.1.ns t.2)/\ms=OL.flatMap (·.ms)/\∀(i:aC) (O:mK) (x:fj),OL[i]? =ah O->args[i]? =ah x->Js E σ w c (p+i) x O:=by
 intro args;induction args with
 |nil=>intro p l ns ms h;cases h;exact⟨[],rfl,rfl,rfl,rfl,λi O x h=>by simp at h⟩
 |cons x args ih=>
  intro p l ns ms h;unfold DW at h;split at h
  ·cases h
  ·rename_i l' ns' ms' h1;obtain⟨OL,rfl,i2,rfl,rfl,i5⟩:=ih h1;have put:∀O:mK,Js E σ w c p x O->l=O.l::OL.map (·.l)->ns=O.ns p++(OL.zipIdx (p+1)).flatMap (λt=>t.1.ns t.2)->ms=O.ms++OL.flatMap (·.ms)->∃OL:az mK,l=OL.map (·.l)/\OL.length=(x::args).length/\ns=(OL.zipIdx p).flatMap (λt=>t.1.ns t.2)/\ms=OL.flatMap (·.ms)/\∀(i:aC) (O:mK) (y:fj),OL[i]? =ah O->(x::args)[i]? =ah y->Js E σ w c (p+i) y O:=by
    intro O hO h1 h2 h3;refine⟨O::OL,h1,by simp[i2],by rw[h2,List.zipIdx_cons,zM],h3,λi O' y hi hy=> ?_⟩
    cases i with
    |zero=>cases hi;cases hy;exact hO
    |succ i=>have:=i5 i O' y hi hy;rwa[show p+1+i=p+(i+1)by omega]at this
   cases x with
   |v g xs=>
    dsimp only at h;cases hh:Ue xs with
    |false=>rw[hh]at h;cases h;exact put ⟨ak,[]⟩ (.inl ⟨rfl,(λ_ h=>by cases h), .inl rfl⟩) rfl rfl rfl
    |true=>rw[hh]at h;cases h;obtain⟨cs,k1,k2,k3,k4⟩:=MC (σ:=σ) (tk:=tk) (p:=p) (xs:=xs) (j:=0);refine put ⟨ak,cs⟩ (.inl ⟨rfl,(λ_ h=>by cases h), .inr ⟨g,xs,rfl,λj r hj=> ?_⟩⟩) (by rw[k1];rfl) (by rw[k2];rfl) (by simp[mK.ms,k3]);have:=k4 j r hj;rw[bT]at this;exact this
   |pt xs=>
    dsimp only at h;split at h
    ·rename_i vs ho;split at h
     ·rename_i as ns2 ms2 hb;cases h;obtain⟨vals,hbl,fZ,hv⟩:=cj.obj _ _ ho;obtain⟨cs,rfl,rfl,rfl,k4,k5⟩:=Qi cj hb ⟨fZ,hv⟩;refine put ⟨ai,cs⟩ (.inr ⟨rfl,xs,vs,vals,rfl,ho,hbl,by rw[fZ];exact k4.symm,λj r hj=> ?_⟩) rfl (by simp[mK.ns]) rfl;obtain⟨r1,r2⟩:=k5 j r hj;rw[bT]at r2;exact⟨r1,r2⟩
     ·cases h
    ·cases h
   |fb xs=>cases h;exact put ⟨ak,[]⟩ (.inl ⟨rfl,(λ_ h=>by cases h), .inl rfl⟩) rfl rfl rfl
theorem Bo:∀{l:az (az AA)} {p:aC},(ur l).getD p []=l.getD p []:=by
 intro l;induction l with
 |nil=>intro p;rfl
 |cons x l ih=>
  intro p;unfold ur;split
  ·rename_i h;cases p with
   |zero=>rfl
   |succ p=>rw[wT,<-ih,h];rfl
  ·rename_i x' r' _;cases p with
   |zero=>rfl
   |succ p=>rw[wT,wT,ih]
end
end Go.FG

namespace Go.FG
structure Sp where
 res:aY
 i:aC
 j:ay aC
def pw(RL:az kW)(OL:az mK)(s:Sp):az aC:=
 match s.res,s.j with
 |true,aj=>match RL[s.i]? with|some R=>R.box.toList|none=>[]
 |true,ah j=>match RL[s.i]? with|some R=>(match R.cs[j]? with|some r=>r.tk|none=>[])|none=>[]
 |false,aj=>match OL[s.i]? with|some O=>(if O.box=ai then [dX s.i 900]else [])|none=>[]
 |false,ah j=>match OL[s.i]? with|some O=>(match O.cs[j]? with|some r=>r.tk|none=>[])|none=>[]
theorem nz{α:Type}{l:az α}{i:aC}{x:α}{p:aC}(h:l[i]? =ah x):(l.zipIdx p)[i]? =ah (x,p+i):=by rw[List.getElem?_zipIdx,h];rfl
theorem aa_{RL:az kW}{OL:az mK}(hn:(RL.flatMap (·.tk)++(OL.zipIdx 0).flatMap (λt=>t.1.ns t.2)).Nodup){s s':Sp}{n:aC}(h:n∈pw RL OL s)(h':n∈pw RL OL s'):s=s':=by
 obtain⟨n1,n2,n3⟩:=eB.1 hn;obtain⟨a1,a2⟩:=lR n1;obtain⟨b1,b2⟩:=lR n2;have R1:∀{i:aC} {j:ay aC},n∈pw RL OL ⟨ai,i,j⟩->∃R,RL[i]? =ah R/\n∈R.tk/\((j=aj/\n∈R.box.toList)\/∃q r,j=ah q/\R.cs[q]? =ah r/\n∈r.tk):=by
  intro i j h;cases j with
  |none=>
   unfold pw at h;dsimp only at h;cases hR:RL[i]? with
   |none=>rw[hR]at h;cases h
   |some R=>rw[hR]at h;exact⟨R,rfl,bW _ h, .inl ⟨rfl,h⟩⟩
  |some q=>
   unfold pw at h;dsimp only at h;cases hR:RL[i]? with
   |none=>rw[hR]at h;cases h
   |some R=>
    rw[hR]at h;dsimp only at h;cases hr:R.cs[q]? with
    |none=>rw[hr]at h;cases h
    |some r=>rw[hr]at h;exact⟨R,rfl,bO _ (bL.2 ⟨r,aR hr,h⟩), .inr ⟨q,r,rfl,hr,h⟩⟩
 have O1:∀{i:aC} {j:ay aC},n∈pw RL OL ⟨ak,i,j⟩->∃O,OL[i]? =ah O/\n∈O.ns i/\((j=aj/\n∈(if O.box=ai then [dX i 900]else []))\/∃q r,j=ah q/\O.cs[q]? =ah r/\n∈r.tk):=by
  intro i j h;cases j with
  |none=>
   unfold pw at h;dsimp only at h;cases hR:OL[i]? with
   |none=>rw[hR]at h;cases h
   |some R=>rw[hR]at h;exact⟨R,rfl,bW _ h, .inl ⟨rfl,h⟩⟩
  |some q=>
   unfold pw at h;dsimp only at h;cases hR:OL[i]? with
   |none=>rw[hR]at h;cases h
   |some R=>
    rw[hR]at h;dsimp only at h;cases hr:R.cs[q]? with
    |none=>rw[hr]at h;cases h
    |some r=>rw[hr]at h;exact⟨R,rfl,bO _ (bL.2 ⟨r,aR hr,h⟩), .inr ⟨q,r,rfl,hr,h⟩⟩
 have mU:∀{A:az aC} {cs:az jA} {j j':ay aC},(A++cs.flatMap (·.tk)).Nodup->((j=aj/\n∈A)\/∃q r,j=ah q/\cs[q]? =ah r/\n∈r.tk)->((j'=aj/\n∈A)\/∃q r,j'=ah q/\cs[q]? =ah r/\n∈r.tk)->j=j':=by
  intro A cs j j' Kh k k';obtain⟨m1,m2,m3⟩:=eB.1 Kh;have inC:∀{q:aC} {r:jA},cs[q]? =ah r->n∈r.tk->n∈cs.flatMap (·.tk):=λhq hr=>bL.2 ⟨_,aR hq,hr⟩;rcases k with ⟨rfl,k⟩|⟨q,r,rfl,k1,k2⟩<;>rcases k' with ⟨rfl,k'⟩|⟨q',r',rfl,k1',k2'⟩
  ·rfl
  ·exact cS rfl (m3 n k n (inC k1' k2'))
  ·exact cS rfl (m3 n k' n (inC k1 k2))
  ·rw[(lR m2).1 q q' r r' n k1 k1' k2 k2']
 obtain⟨b,i,j⟩:=s;obtain⟨b',i',j'⟩:=s';cases b<;>cases b'
 ·obtain⟨O,h1,h2,h3⟩:=O1 h;obtain⟨O',Mh,QA,OJ⟩:=O1 h';have:=b1 i i' _ _ n (nz (p:=0) h1) (nz (p:=0) Mh) (by rw[bT];exact h2) (by rw[bT];exact QA);subst this;rw[h1]at Mh;cases Mh;have:=b2 _ (aR (nz (p:=0) h1));rw[bT]at this;rw[mU this h3 OJ]
 ·obtain⟨O,h1,h2,h3⟩:=O1 h;obtain⟨R,Mh,QA,_⟩:=R1 h';exact cS rfl (n3 n (bL.2 ⟨R,aR Mh,QA⟩) n (bL.2 ⟨_,aR (nz (p:=0) h1),by rw[bT];exact h2⟩))
 ·obtain⟨R,h1,h2,_⟩:=R1 h;obtain⟨O,Mh,QA,_⟩:=O1 h';exact cS rfl (n3 n (bL.2 ⟨R,aR h1,h2⟩) n (bL.2 ⟨_,aR (nz (p:=0) Mh),by rw[bT];exact QA⟩))
 ·obtain⟨R,h1,h2,h3⟩:=R1 h;obtain⟨R',Mh,QA,OJ⟩:=R1 h';have:=a1 i i' _ _ n h1 Mh h2 QA;subst this;rw[h1]at Mh;cases Mh;have:=a2 _ (aR h1);rw[mU this h3 OJ]
end Go.FG

namespace Go.FG
def Of(c:e9)(RL:az kW)(OL:az mK)(m:aC):ay (Pl×(aC->aC->Pl)):=
 if m<900000000 then aj
 else if 500<=(m-900000000)/1000 then(match RL[(m-900000000)/1000-500]? with
  |none=>aj
  |some R=>if(m-900000000)%1000=900 then R.box.map (λn=>(c.P n,c.G n))else(R.cs[(m-900000000)%1000]?).map λr=>(r.p,r.g))
 else if 100<=(m-900000000)%1000/\(m-900000000)%1000≠900 then(match OL[(m-900000000)/1000]? with
  |none=>aj
  |some O=>(O.cs[(m-900000000)%1000-100]?).map λr=>(r.p,r.g))
 else aj
def nt(σ:St)(c:e9)(RL:az kW)(OL:az mK):e9:=
 ⟨λm=>match Of c RL OL m with|some pg=>pg.1|none=>c.P m,λm=>match Of c RL OL m with|some pg=>pg.2|none=>c.G m,K1r σ c (RL.flatMap (·.fz)++OL.flatMap (·.ms))⟩
theorem Cq{σ:St}{c:e9}{RL:az kW}{OL:az mK}{m:aC}{p:Pl}{g:aC->aC->Pl}(h:Of c RL OL m=ah (p,g)):(nt σ c RL OL).P m=p/\(nt σ c RL OL).G m=g:=by unfold nt;simp only[h];exact⟨trivial,trivial⟩
theorem Cp{σ:St}{c:e9}{RL:az kW}{OL:az mK}{m:aC}(h:Of c RL OL m=aj):(nt σ c RL OL).P m=c.P m/\(nt σ c RL OL).G m=c.G m:=by unfold nt;simp only[h];exact⟨trivial,trivial⟩
section
variable {c:e9} {RL:az kW} {OL:az mK}
theorem TL{q n:aC}{R:kW}(h:RL[q]? =ah R)(hb:R.box=ah n):Of c RL OL (dX (500+q) 900)=ah (c.P n,c.G n):=by obtain⟨h1,h2⟩:=uD (p:=500+q) (j:=900) (by omega);have h0:=DL (500+q) 900;unfold Of;rw[bH (by omega),h1,h2,bB (by omega),show 500+q-500=q by omega,h];simp[hb]
theorem HX{q j:aC}{R:kW}{r:jA}(h:RL[q]? =ah R)(hj:R.cs[j]? =ah r)(hl:j<900):Of c RL OL (dX (500+q) j)=ah (r.p,r.g):=by obtain⟨h1,h2⟩:=uD (p:=500+q) (j:=j) (by omega);have h0:=DL (500+q) j;unfold Of;rw[bH (by omega),h1,h2,bB (by omega),show 500+q-500=q by omega,h];dsimp only;rw[bH (by omega),hj];rfl
theorem Cn{p j:aC}(hp:p<500)(hl:j<100\/j=900):Of c RL OL (dX p j)=none:=by obtain⟨h1,h2⟩:=uD (p:=p) (j:=j) (by omega);have h0:=DL p j;unfold Of;rw[bH (by omega),h1,h2,bH (by omega),bH (by omega)]
theorem Og{p j:aC}{O:mK}{r:jA}(hp:p<500)(h:OL[p]? =ah O)(hj:O.cs[j]? =ah r)(hl:j<=100):Of c RL OL (dX p (100+j))=ah (r.p,r.g):=by obtain⟨h1,h2⟩:=uD (p:=p) (j:=100+j) (by omega);have h0:=DL p (100+j);unfold Of;rw[bH (by omega),h1,h2,bH (by omega),bB (by omega),h];dsimp only;rw[show 100+j-100=j by omega,hj];rfl
end
end Go.FG

namespace Go.FG
def ami(OL:az mK)(s:Sp):aC:=
 match s.res,s.j with
 |true,aj=>dX (500+s.i) 900
 |true,ah j=>dX (500+s.i) j
 |false,aj=>dX s.i 900
 |false,ah j=>match OL[s.i]? with|some O=>(match O.cs[j]? with|some r=>(match r.aa with| .kp _=>dX s.i j|_=>dX s.i (100+j))|none=>0)|none=>0
section
variable {P:c6} {E:fS} {σ:St} {a:Act} {w:bJ} {c:e9} {RL:az kW} {OL:az mK}
theorem Cs{r:jA}(h:jQ E σ w c r)(hf:∀n∈r.fz,n∈RL.flatMap (·.fz)++OL.flatMap (·.ms)){x:aC}(hx:Of c RL OL x=ah (r.p,r.g)):eL E w (nt σ c RL OL) (lk x r.aa) r.u:=by
 rcases h with ⟨e,ex,ys,te,h1,h2,h3,h4,_⟩|⟨h1,h2,h3,h4,h5⟩
 ·rw[h1];show r.u=lO ((nt σ c RL OL).P x);rw[(Cq hx).1];exact h4
 ·exact h5 _ (λb hb=>hb.imp id (λ⟨n,hn,hh⟩=>⟨n,hf n hn,hh⟩)) x
theorem JN{r:jA}(h:jQ E σ w c r){e:aC}{ex:aY}{ys:aQ}(ha:r.aa= .ow e ex ys){x:aC}(hx:Of c RL OL x=ah (r.p,r.g)):
  pR E w (nt σ c RL OL) x (.row e ex ys)/\∀b,fM (nt σ c RL OL) x (.row e ex ys) b->∃n ob,n∈r.tk/\σ (db n)= .o ob/\fM c n ob b:=by
 obtain⟨e1,e2⟩:=Cq (σ:=σ) hx;rcases h with ⟨e',uv,ED,te,h1,h2,h3,h4,h5,h6,h7,h8,h9,RC⟩|⟨_,_,h3,_⟩
 ·rw[ha]at h1;cases h1;refine⟨⟨⟨te,h3,by rw[e1];exact h5,h6⟩, ?_,λpE=>by rw[e1,e2];exact h8 pE⟩,λb hb=> ?_⟩
  ·rw[e1,e2];refine h7.frame (λ_=>rfl) (λi j y xx u hy XP hr=> ?_);split at hr
   ·rename_i pE;rw[bB pE];exact hr
   ·rename_i pE;rw[bH pE];exact hr.frame (λ_ _=>rfl) (λb hb=> .inl hb)
  ·rcases hb with ⟨hn,rfl⟩|⟨pE,i,j,hh,hn,rfl⟩
   ·rw[e1]at hn⊢;exact h9 hn
   ·rw[e2]at hn⊢;exact RC pE i j hh hn
 ·exact cS ha (h3 _ _ _)
structure Fx (T:Tab) (σ:St) (w:bJ) (c:e9) (RL:az kW) (OL:az mK) (args:az fj) (r:dj):Prop where
 rl:∀R∈RL,C0 T σ w c R
 ol:∀(i:aC) (O:mK) (x:fj),OL[i]? =ah O->args[i]? =ah x->Js T σ w c i x O
 len:OL.length=args.length
 nd:(RL.flatMap (·.tk)++(OL.zipIdx 0).flatMap (λt=>t.1.ns t.2)).Nodup
 ap:∀n∈RL.flatMap (·.tk)++(OL.zipIdx 0).flatMap (λt=>t.1.ns t.2),n∉RL.flatMap (·.fz)++OL.flatMap (·.ms)
 sm:Small args r
 rs:r.rs=RL.map (·.arg)
 outs:∀p,r.outs.getD p []=(OL.map (·.l)).getD p []
theorem TH{R:kW}{xs:az AA}(h:Nw R.arg xs):xs=R.cs.map (·.aa):=by
 unfold kW.arg at h;split at h
 ·rcases h with ⟨g,h⟩|h<;>cases h;rfl
 ·rcases h with ⟨g,h⟩|h<;>cases h;rfl
theorem xK(cj:Ok E σ w c){args:az fj}{r:dj}(hE:Fx E σ w c RL OL args r){x:aC}{ob:Obj}(h:CO args r x (.o ob)):
  pR E w (nt σ c RL OL) x ob/\∃s,x=ami OL s/\∀b,fM (nt σ c RL OL) x ob b->∃n o,n∈pw RL OL s/\σ (db n)= .o o/\fM c n o b:=by
 have aov:∀{q:aC} {y:fj},r.rs[q]? =ah y->∃R,RL[q]? =ah R/\y=R.arg:=by
  intro q y hq;rw[hE.rs,bI]at hq;cases hR:RL[q]? with
  |none=>rw[hR]at hq;cases hq
  |some R=>rw[hR]at hq;cases hq;exact⟨R,rfl,rfl⟩
 have fzR:∀{q:aC} {R:kW} {j:aC} {t:jA},RL[q]? =ah R->R.cs[j]? =ah t->∀n∈t.fz,n∈RL.flatMap (·.fz)++OL.flatMap (·.ms):=λhR hj n hn=>bW _ (bL.2 ⟨_,aR hR,bL.2 ⟨_,aR hj,hn⟩⟩);have fzO:∀{q:aC} {O:mK} {j:aC} {t:jA},OL[q]? =ah O->O.cs[j]? =ah t->∀n∈t.fz,n∈RL.flatMap (·.fz)++OL.flatMap (·.ms):=λhR hj n hn=>bO _ (bL.2 ⟨_,aR hR,bL.2 ⟨_,aR hj,hn⟩⟩);have aim:∀{p:aC} {y:fj},args[p]? =ah y->∃O,OL[p]? =ah O/\Js E σ w c p y O/\r.outs.getD p []=O.cs.map (·.aa):=by
  intro p y hp;have sR:p<OL.length:=by rw[hE.len];exact(aT.1 hp).1
  have hO:OL[p]? =ah OL[p]:=by simp[sR]
  refine⟨OL[p],hO,hE.ol p _ y hO hp, ?_⟩
  rw[hE.outs,d_,bI,hO];rfl
 have csJ:∀{cs:az jA} {j:aC} {y:AA},(cs.map (·.aa))[j]? =ah y->∃t,cs[j]? =ah t/\t.aa=y:=by
  intro cs j y hj;rw[bI]at hj;cases ht:cs[j]? with
  |none=>rw[ht]at hj;cases hj
  |some t=>rw[ht]at hj;cases hj;exact⟨t,rfl,rfl⟩
 have hnm:∀p j,dX p 0+j=dX p j:=λp j=>by unfold dX;omega
 cases h with
 |rb q xs h0=>
  obtain⟨R,hR,hy⟩:=aov h0;rcases hE.rl R (aR hR)with ⟨nm,zs,vals,h1,h2,h3,h4,h5,h6⟩|⟨h1,_⟩
  ·have hxs:=TH (R:=R) (xs:=xs) (.inr hy.symm);obtain⟨e1,e2⟩:=Cq (σ:=σ) (TL (c:=c) (OL:=OL) hR h1);refine⟨⟨vals,by rw[e1];exact h4,by rw[iP,hxs,bR];exact h5,λj y hj=> ?_⟩,⟨ai,q,aj⟩,rfl,λb hb=>⟨nm,_, ?_,h2, ?_⟩⟩
   ·rw[iD,hxs]at hj;cases hx:(R.cs.map (·.aa))[j]? with
    |none=>rw[hx]at hj;cases hj
    |some z=>
     rw[hx]at hj;cases hj;obtain⟨t,ht,rfl⟩:=csJ hx;obtain⟨k1,k2⟩:=h6 j t ht;have kg:j<900:=by have:=hE.sm.rl q _ xs h0 (.inr rfl);have h7:=(aT.1 ht).1;rw[hxs,bR]at this;omega
     rw[hnm];exact⟨t.u,k1,Cs k2 (fzR hR ht) (HX hR ht kg)⟩
   ·show nm∈(match RL[q]? with|some R=>R.box.toList|none=>[]);rw[hR];dsimp only;rw[h1];exact aZ.2 rfl
   ·rw[show b=_ from hb,e1];rfl
  ·unfold kW.arg at hy;rw[h1]at hy;cases hy
 |rr q y xs j e ex ys h0 hx hj=>
  obtain⟨R,hR,rfl⟩:=aov h0;have hxs:=TH hx;rw[hxs]at hj;obtain⟨t,ht,Kl⟩:=csJ hj;have kg:j<900:=by have:=hE.sm.rl q _ xs h0 hx;have h7:=(aT.1 ht).1;rw[hxs,bR]at this;omega
  have hc:jQ E σ w c t:=by
   rcases hE.rl R (aR hR)with ⟨nm,zs,vals,_,_,_,_,_,h6⟩|⟨_,⟨_,t',h1,_,h2⟩|⟨_,vals,_,_,h6⟩⟩
   ·exact(h6 j t ht).2
   ·rw[h1]at ht;cases j with
    |zero=>cases ht;exact h2
    |succ j=>simp at ht
   ·exact(h6 j t ht).2
  obtain⟨k1,k2⟩:=JN (RL:=RL) (OL:=OL) hc Kl (HX hR ht kg);refine⟨k1,⟨ai,q,ah j⟩,rfl,λb hb=> ?_⟩
  obtain⟨n,o,h1,h2⟩:=k2 b hb;refine⟨n,o, ?_,h2⟩
  show n∈(match RL[q]? with|some R=>(match R.cs[j]? with|some r=>r.tk|none=>[])|none=>[]);rw[hR];dsimp only;rw[ht];exact h1
 |ob p xs h0=>
  obtain⟨O,hO,hoo,hl⟩:=aim h0;have hp:=hE.sm.a p _ xs h0 (.inr rfl);rcases hoo with ⟨_,h1,_⟩|⟨h1,Nm,vs,vals,Y0,h2,h3,h4,h5⟩
  ·exact cS rfl (h1 xs)
  ·cases Y0;obtain⟨e1,e2⟩:=Cp (σ:=σ) (Cn (c:=c) (RL:=RL) (OL:=OL) hp (.inr rfl));have ak_:O.cs.length<=100:=by have:=hE.sm.o p;rw[hl,bR]at this;exact this
   rw[hl];refine⟨⟨vals,by rw[e1];exact h3,by rw[vx,bR];exact h4,λj y hj=> ?_⟩,⟨ak,p,aj⟩,rfl,λb hb=>⟨dX p 900,_, ?_,h2, ?_⟩⟩
   ·rw[wE,bT]at hj;cases hx:(O.cs.map (·.aa))[j]? with
    |none=>rw[hx]at hj;cases hj
    |some z=>
     rw[hx]at hj;cases hj;obtain⟨t,ht,rfl⟩:=csJ hx;obtain⟨k1,k2⟩:=h5 j t ht;have kg:=(aT.1 ht).1;refine⟨t.u,k1, ?_⟩
     rcases k2 with ⟨⟨e,ex,z,ys,_,q2,_⟩,q6⟩|k2
     ·rw[q2];show t.u=lO ((nt σ c RL OL).P (dX p j));rw[(Cp (Cn hp (.inl (by omega)))).1];exact q6
     ·have hk:∀ys,t.aa≠ .kp ys:=by
       rcases k2 with ⟨_,_,_,_,q,_⟩|⟨_,_,_,q,_⟩
       ·intro ys hh;rw[q]at hh;cases hh
       ·exact q
      have:tK p j t.aa=lk (dX p (100+j)) t.aa:=by cases hq:t.aa<;>first|rfl|exact cS hq (hk _)
      rw[this];exact Cs k2 (fzO hO ht) (Og hp hO ht (by omega))
   ·show dX p 900∈(match OL[p]? with|some O=>(if O.box=ai then [dX p 900]else [])|none=>[]);rw[hO];dsimp only;rw[bB h1];exact aZ.2 rfl
   ·rw[show b=_ from hb,e1];rfl
 |kp p y xs j e ex z ys h0 hx h2 h3=>
  obtain⟨O,hO,hoo,hl⟩:=aim h0;have hp:=hE.sm.a p _ xs h0 hx;rw[hl]at h3;obtain⟨t,ht,Kl⟩:=csJ h3;have ak_:O.cs.length<=100:=by have:=hE.sm.o p;rw[hl,bR]at this;exact this
  have kg:=(aT.1 ht).1;have alv:Kept σ p j xs t:=by
   rcases hoo with ⟨_,_,h1|⟨g,Nm,Y0,h1⟩⟩|⟨_,Nm,vs,vals,Y0,_,_,_,h5⟩
   ·rw[h1]at ht;simp at ht
   ·have:Nm=xs:=by rw[Y0]at hx;rcases hx with ⟨g',hx⟩|hx<;>cases hx;rfl
    subst this;rcases h1 j t ht with h|⟨h,_⟩
    ·exact h
    ·rw[Kl]at h;cases h
   ·have:Nm=xs:=by rw[Y0]at hx;rcases hx with ⟨g',hx⟩|hx<;>cases hx;rfl
    subst this;rcases(h5 j t ht).2 with ⟨h,_⟩|h
    ·exact h
    ·rcases h with ⟨_,_,_,_,q,_⟩|⟨_,_,_,q,_⟩
     ·rw[Kl]at q;cases q
     ·exact cS Kl (q _)
  obtain⟨e',uv,z',ED,q1,q2,q3,q4,q5⟩:=alv;rw[h2]at q1;cases q1;rw[Kl]at q2;cases q2;obtain⟨e1,e2⟩:=Cp (σ:=σ) (Cn (c:=c) (RL:=RL) (OL:=OL) (p:=p) (j:=j) hp (.inl (by omega)));obtain⟨⟨te,r1,r2,r3⟩,r4,r5⟩:=cj.obj _ _ q5;refine⟨⟨⟨te,r1,by rw[e1];exact r2,r3⟩, ?_,λpE=>by rw[e1,e2];exact r5 pE⟩,⟨ak,p,ah j⟩, ?_,λb hb=>⟨dX p j,_, ?_,q5, ?_⟩⟩
  ·rw[e1,e2];refine r4.frame (λ_=>rfl) (λi j y xx u hy XP hr=> ?_);split at hr
   ·rename_i pE;rw[bB pE];exact hr
   ·rename_i pE;rw[bH pE];exact hr.frame (λ_ _=>rfl) (λb hb=> .inl hb)
  ·show dX p j=(match OL[p]? with|some O=>(match O.cs[j]? with|some r=>(match r.aa with| .kp _=>dX p j|_=>dX p (100+j))|none=>0)|none=>0)
   rw[hO];dsimp only;rw[ht];dsimp only;rw[Kl]
  ·show dX p j∈(match OL[p]? with|some O=>(match O.cs[j]? with|some r=>r.tk|none=>[])|none=>[]);rw[hO];dsimp only;rw[ht];dsimp only;rw[q3];exact aZ.2 rfl
  ·rw[mf (c:=c) (c':=nt σ c RL OL) ⟨e1,e2⟩]at hb;exact hb
 |nw p y xs j e ex ys h0 hx h3=>
  obtain⟨O,hO,hoo,hl⟩:=aim h0;have hp:=hE.sm.a p _ xs h0 hx;rw[hl]at h3;obtain⟨t,ht,Kl⟩:=csJ h3;have ak_:O.cs.length<=100:=by have:=hE.sm.o p;rw[hl,bR]at this;exact this
  have kg:=(aT.1 ht).1;have hc:jQ E σ w c t:=by
   rcases hoo with ⟨_,_,h1|⟨g,Nm,Y0,h1⟩⟩|⟨_,Nm,vs,vals,Y0,_,_,_,h5⟩
   ·rw[h1]at ht;simp at ht
   ·rcases h1 j t ht with ⟨_,_,_,_,_,h,_⟩|⟨h,_⟩<;>(rw[Kl]at h;cases h)
   ·rcases(h5 j t ht).2 with ⟨⟨_,_,_,_,_,h,_⟩,_⟩|h
    ·rw[Kl]at h;cases h
    ·exact h
  obtain⟨k1,k2⟩:=JN (RL:=RL) (OL:=OL) hc Kl (Og hp hO ht (by omega));refine⟨k1,⟨ak,p,ah j⟩, ?_,λb hb=> ?_⟩
  ·show dX p (100+j)=(match OL[p]? with|some O=>(match O.cs[j]? with|some r=>(match r.aa with| .kp _=>dX p j|_=>dX p (100+j))|none=>0)|none=>0)
   rw[hO];dsimp only;rw[ht];dsimp only;rw[Kl]
  ·obtain⟨n,o,h1,h2⟩:=k2 b hb;refine⟨n,o, ?_,h2⟩
   show n∈(match OL[p]? with|some O=>(match O.cs[j]? with|some r=>r.tk|none=>[])|none=>[]);rw[hO];dsimp only;rw[ht];exact h1
end
end Go.FG

namespace Go.FG
theorem wq{args:az fj}{r:dj}{m:aC}{o:Obj}(h:CO args r m (.o o)):oj args r (db m)≠ .jZ:=by
 refine rZ (xM.2 h) ?_;rintro ⟨k,d⟩ hd;rcases bf.1 hd with hd|hd
 ·obtain⟨i,a,_,hd⟩:=Kx.1 hd;rcases iB.1 hd with ⟨_,_,_,h⟩|⟨_,_,_,_,_,_,_,_,h⟩<;>rw[h]<;>simp
 ·obtain⟨i,a,_,hd⟩:=Kw.1 hd;rcases qH.1 hd with ⟨_,_,_,h⟩|⟨_,_,⟨_,_,_,_,_,_,_,_,h⟩|⟨_,_,_,_,_,_,h⟩⟩<;>rw[h]<;>simp
section
variable {P:c6} {E:fS} {σ:St} {a:Act} {w:bJ} {c c0:e9} {RL:az kW} {OL:az mK}
theorem VW{s:Sp}{n:aC}(h:n∈pw RL OL s):n∈RL.flatMap (·.tk)++(OL.zipIdx 0).flatMap (λt=>t.1.ns t.2):=by
 obtain⟨b,i,j⟩:=s;have inO:∀{O:mK},OL[i]? =ah O->n∈O.ns i->n∈(OL.zipIdx 0).flatMap (λt=>t.1.ns t.2):=λhO hn=>bL.2 ⟨_,aR (nz (p:=0) hO),by rw[bT];exact hn⟩;have inR:∀{R:kW},RL[i]? =ah R->n∈R.tk->n∈RL.flatMap (·.tk):=λhR hn=>bL.2 ⟨_,aR hR,hn⟩;cases b<;>cases j<;>unfold pw at h<;>dsimp only at h
 ·cases hO:OL[i]? with
  |none=>rw[hO]at h;cases h
  |some O=>rw[hO]at h;exact bO _ (inO hO (bW _ h))
 ·rename_i j;cases hO:OL[i]? with
  |none=>rw[hO]at h;cases h
  |some O=>
   rw[hO]at h;dsimp only at h;cases hr:O.cs[j]? with
   |none=>rw[hr]at h;cases h
   |some r=>rw[hr]at h;exact bO _ (inO hO (bO _ (bL.2 ⟨r,aR hr,h⟩)))
 ·cases hO:RL[i]? with
  |none=>rw[hO]at h;cases h
  |some O=>rw[hO]at h;exact bW _ (inR hO (bW _ h))
 ·rename_i j;cases hO:RL[i]? with
  |none=>rw[hO]at h;cases h
  |some O=>
   rw[hO]at h;dsimp only at h;cases hr:O.cs[j]? with
   |none=>rw[hr]at h;cases h
   |some r=>rw[hr]at h;exact bW _ (inR hO (bO _ (bL.2 ⟨r,aR hr,h⟩)))
theorem Wf{args:az fj}{r:dj}(hE:Fx E σ w c RL OL args r){q:aC}{R:kW}(hR:RL[q]? =ah R):qi E w (nt σ c RL OL) (HW (500+q) R.arg).1 (HW (500+q) R.arg).2 R.v:=by
 have hlen:∀{j:aC} {t:jA},R.cs[j]? =ah t->j<900:=by
  intro j t ht;have h0:r.rs[q]? =ah R.arg:=by rw[hE.rs,bI,hR];rfl
  have hx:Nw R.arg (R.cs.map (·.aa)):=by
   unfold kW.arg;split
   ·exact .inr rfl
   ·exact .inl ⟨_,rfl⟩
  have:=hE.sm.rl q _ _ h0 hx;have h7:=(aT.1 ht).1;rw[bR]at this;omega
 have hf:∀{j:aC} {t:jA},R.cs[j]? =ah t->∀n∈t.fz,n∈RL.flatMap (·.fz)++OL.flatMap (·.ms):=λhj n hn=>bW _ (bL.2 ⟨_,aR hR,bL.2 ⟨_,aR hj,hn⟩⟩);have hnm:∀p j,dX p 0+j=dX p j:=λp j=>by unfold dX;omega
 rcases hE.rl R (aR hR)with ⟨nm,zs,vals,h1,h2,h3,h4,h5,h6⟩|⟨h1,⟨h2,t,h3,h4,h5⟩|⟨h2,vals,h3,h4,h5⟩⟩
 ·have:R.arg= .pt (R.cs.map (·.aa)):=by unfold kW.arg;rw[h1]
  rw[this];show R.v= .pointer (ah (ad ((nt σ c RL OL).P (dX (500+q) 900)).blk 0));rw[(Cq (TL hR h1)).1];exact h3
 ·have:R.arg= .v ak [t.aa]:=by unfold kW.arg;rw[h1,h2,h3];rfl
  rw[this,<-h4];have ht:R.cs[0]? =ah t:=by rw[h3];rfl
  have:=Cs (OL:=OL) h5 (hf ht) (HX hR ht (by omega));exact this
 ·have:R.arg= .v ai (R.cs.map (·.aa)):=by unfold kW.arg;rw[h1,h2]
  rw[this];refine⟨vals,h3,by show vals.size=(gE _ _).length;rw[iP,bR];exact h4,λj y hj=> ?_⟩
  replace hj:(gE (dX (500+q) 0) (R.cs.map (·.aa)))[j]? =ah y:=hj;rw[iD,bI]at hj;cases ht:R.cs[j]? with
  |none=>rw[ht]at hj;cases hj
  |some t=>
   rw[ht]at hj;cases hj;obtain⟨k1,k2⟩:=h5 j t ht;refine⟨t.u,k1, ?_⟩
   rw[hnm];exact Cs k2 (hf ht) (HX hR ht (hlen ht))
theorem Dl{args:az fj}{r:dj}{q:aC}{y:fj}{xs:az AA}(h0:r.rs[q]? =ah y)(hx:Nw y xs){v:AV}(hv:v∈gE (dX (500+q) 0) xs):jf (oj args r) v:=by
 intro m hm;obtain⟨j,hj⟩:=b7 hv;rw[iD]at hj;cases hy:xs[j]? with
 |none=>rw[hy]at hj;cases hj
 |some z=>
  rw[hy]at hj;cases hj;obtain⟨rfl,e,ex,ys,rfl⟩:=tG hm;have hn:dX (500+q) 0+j=dX (500+q) j:=by unfold dX;omega
  rw[hn];exact wq (.rr q y xs j e ex ys h0 hx hy)
theorem YA(cj:Ok E σ w c){args:az fj}{r:dj}(hE:Fx E σ w c RL OL args r):Ok E (oj args r) w (nt σ c RL OL) where
 obj nm o h:=(xK cj hE (qE h)).1
 sep nm o x_ o' b h h' hf vn:=by
  obtain⟨s,e1,k1⟩:=(xK cj hE (qE h)).2;obtain⟨s',e1',k1'⟩:=(xK cj hE (qE h')).2;obtain⟨n,ob,h1,h2,h3⟩:=k1 b hf;obtain⟨n',ob',Mh,QA,OJ⟩:=k1' b vn;have:=cj.sep n ob n' ob' b h2 QA h3 OJ;subst this;rw[e1,e1',aa_ hE.nd h1 Mh]
 kk nm o b h hf hk:=by
  obtain⟨s,e1,k1⟩:=(xK cj hE (qE h)).2;obtain⟨n,ob,h1,h2,h3⟩:=k1 b hf;rcases hk with hk|⟨n',kG,ob',QA,OJ⟩
  ·exact cj.kk n ob b h2 h3 hk
  ·have:=cj.sep n ob n' ob' b h2 QA h3 OJ;subst this;exact hE.ap n (VW h1) kG
 lt b hb:=by
  rcases hb with hb|⟨n,hn,ob,h1,h2⟩
  ·exact cj.lt b hb
  ·exact wW.lt cj ⟨n,ob,h1,h2⟩
 kn nm xs h v hv:=by
  have hx:=qE h;cases hx with
  |rb q xs h0=>exact Dl h0 (.inr rfl) hv
  |ob p xs h0=>
   intro m hm;obtain⟨j,hj⟩:=b7 hv;rw[wE,bT]at hj;cases hy:(r.outs.getD p [])[j]? with
   |none=>rw[hy]at hj;cases hj
   |some z=>
    rw[hy]at hj;cases hj;cases z with
    |kp ys=>
     have hm:m=dX p j:=by simpa [tK,bN]using hm
     subst hm;have sR:p<OL.length:=by rw[hE.len];exact(aT.1 h0).1
     have hO:OL[p]? =ah OL[p]:=by simp[sR]
     have hl:r.outs.getD p []=OL[p].cs.map (·.aa):=by rw[hE.outs,d_,bI,hO];rfl
     rw[hl,bI]at hy;cases ht:OL[p].cs[j]? with
     |none=>rw[ht]at hy;cases hy
     |some t=>
      rw[ht]at hy;have Kl:t.aa= .kp ys:=by injection hy
      rcases hE.ol p _ _ hO h0 with ⟨_,h1,_⟩|⟨_,Nm,vs,vals,Y0,_,_,_,h5⟩
      ·exact cS rfl (h1 xs)
      ·cases Y0;rcases(h5 j t ht).2 with ⟨⟨e,ex,z,ED,q1,q2,_⟩,_⟩|h
       ·rw[Kl]at q2;cases q2;exact wq (.kp p _ xs j e ex z ys h0 (.inr rfl) q1 (by rw[hl,bI,ht];exact lH ah Kl))
       ·rcases h with ⟨_,_,_,_,q,_⟩|⟨_,_,_,q,_⟩
        ·rw[Kl]at q;cases q
        ·exact cS Kl (q _)
    |ow e ex ys=>
     have hm:m=dX p (100+j):=by simpa [tK,lk,bN]using hm
     subst hm;exact wq (.nw p _ xs j e ex ys h0 (.inr rfl) hy)
    |_=>simp[tK,lk,bN]at hm
theorem Qs(cj:Ok E σ w c){args:az fj}{r:dj}(hE:Fx E σ w c RL OL args r):ot σ c w (oj args r) (nt σ c RL OL) w where
 os:=rfl
 tape:=rfl
 output:=rfl
 size:=cJ _
 K b hb:= .inl hb
 same _ _ _:=rfl
 own b hb:=by
  obtain⟨nm,o,h,hf⟩:=hb;obtain⟨s,e1,k1⟩:=(xK cj hE (qE h)).2;obtain⟨n,ob,h1,h2,h3⟩:=k1 b hf;exact .inl ⟨n,ob,h2,h3⟩
 kn b hb:=by
  rcases hb with hb|⟨n,hn,ob,h1,h2⟩
  ·exact .inl hb
  ·exact .inr (.inl ⟨n,ob,h1,h2⟩)
theorem Qt{args:az fj}{r:dj}(hs:Small args r)(ha:∀a∈args,nr a<=100)(hA:Xo c0 c):∀m,inj args (db m)≠ .jZ->(nt σ c RL OL).P m=c0.P m/\(nt σ c RL OL).G m=c0.G m:=by
 intro m hm;have:∃ob,inj args (db m)= .o ob:=by
  cases h:inj args (db m)with
  |o ob=>exact⟨ob,rfl⟩
  |jZ=>exact cS h hm
  |v x=>
   obtain⟨p,a,h0,h⟩:=lQ.1 (nT h (by simp));rcases h with ⟨h,_⟩|h
   ·exact cS h (mh _ _)
   ·rcases iB.1 h with ⟨_,_,_,h⟩|⟨_,_,_,_,_,_,_,_,h⟩<;>cases h
 obtain⟨ob,h⟩:=this;obtain⟨p,a,h0,hh⟩:=Cz h;have go:∀j,j<100\/j=900->p<500->(nt σ c RL OL).P (dX p j)=c0.P (dX p j)/\(nt σ c RL OL).G (dX p j)=c0.G (dX p j):=by intro j hj hp;obtain⟨e1,e2⟩:=Cp (σ:=σ) (Cn (c:=c) (RL:=RL) (OL:=OL) hp hj);obtain⟨g1,g2⟩:=hA (dX p j) (DL p j);exact⟨e1.trans g1,e2.trans g2⟩
 rcases hh with ⟨xs,rfl,rfl,_⟩|⟨xs,j,e,ex,ys,hx,hj,rfl,_⟩
 ·exact go 900 (.inr rfl) (hs.a p _ xs h0 (.inr rfl))
 ·refine go j (.inl ?_) (hs.a p _ xs h0 hx);have h1:=ha a (aR h0);have h2:nr a=xs.length:=by rcases hx with ⟨g,rfl⟩|rfl<;>rfl
  have h3:=(aT.1 hj).1;omega
theorem T0{args:az fj}{r:dj}(hE:Fx E σ w c RL OL args r):jh E w (nt σ c RL OL) (aaT r.rs) (D4 (RL.map (·.v))):=by
 have j_:∀l:az (aY×az AV),l=lr 500 r.rs->jh E w (nt σ c RL OL) (.j_ l) (.tuple (RL.map (·.v)).toArray):=by
  rintro l rfl;refine⟨_,rfl,by rw[xY,hE.rs];simp,λj g xs hj=> ?_⟩
  rw[GC,hE.rs,bI]at hj;cases hR:RL[j]? with
  |none=>rw[hR]at hj;cases hj
  |some R=>
   rw[hR]at hj;have hj:HW (500+j) R.arg=(g,xs):=by injection hj
   have:=Wf hE hR;rw[hj]at this;exact⟨R.v,by simp[hR],this⟩
 have one:∀x R,lr 500 r.rs=[x]->RL=[R]->jh E w (nt σ c RL OL) (sw [x]) R.v:=by
  intro x R hx hRL;have h0:RL[0]? =ah R:=by rw[hRL];rfl
  have h1:=Wf hE h0;have h2:(lr 500 r.rs)[0]? =ah (HW (500+0) R.arg):=by rw[GC,hE.rs,bI,h0];rfl
  rw[hx]at h2;have h2:x=HW (500+0) R.arg:=by injection h2
  subst h2;exact h1
 have hlen:(lr 500 r.rs).length=RL.length:=by rw[xY,hE.rs];simp
 have hL:∀L,L=lr 500 r.rs->L.length=RL.length->jh E w (nt σ c RL OL) (sw L) (D4 (RL.map (·.v))):=by
  intro L hL hlen;have j_:=j_ L hL;generalize hV:RL.map (·.v)=V at j_⊢;have hlv:L.length=V.length:=by rw[hlen,<-hV];simp
  cases L with
  |nil=>
   cases V with
   |nil=>exact j_
   |cons v V=>simp at hlv
  |cons x L=>
   cases V with
   |nil=>simp at hlv
   |cons v V=>
    cases L with
    |cons y L=>
     cases V with
     |nil=>simp at hlv
     |cons v' V=>exact j_
    |nil=>
     cases V with
     |cons v' V=>simp at hlv
     |nil=>
      cases hR:RL with
      |nil=>rw[hR]at hV;cases hV
      |cons R RL'=>
       cases RL' with
       |nil=>
        have:=one x R hL.symm hR;rw[hR]at hV this;have hV:R.v=v:=by injection hV
        rw[<-hV];exact this
       |cons R' RL'=>rw[hR]at hV;simp at hV
 exact hL _ rfl hlen
end
end Go.FG

namespace Go.FG
theorem FY{α:Type}{b:aY}{x r:α}(h:(bif b then ah x else aj)=ah r):b=ai/\x=r:=by
 cases b with
 |true=>exact⟨rfl,by injection h⟩
 |false=>cases h
section
variable {P:c6} {E:fS} {σ:St} {a:Act} {w:bJ} {c:e9}
theorem agW(hE:eH P E)(cj:Ok E σ w c)(dI:fC E σ a w c){F:Func}{args:az fj}{e:Ex}{r:dj}(h:fin E F args e σ=ah r):
  (e= .normal\/e= .ret)/\(∀x∈args,nr x<=100)/\∃RL OL,Fx E σ w c RL OL args r/\(results F a.tmps).run P w= .ok (D4 (RL.map (·.v))) w:=by
 have he:e= .normal\/e= .ret:=by
  cases e with
  |normal=>exact .inl rfl
  |ret=>exact .inr rfl
  |exit id=>cases h
 have h:(match D3 E σ 500 F.results.toList F.resultTypes.toList with
  |some (rs,tk,fz)=>match DW E σ (tk++fz) 0 args with
   |some (outs,ns,ms)=>bif tI (tk++ns)&&rH (tk++ns) (fz++ms)&&fL args.length 500&&(args.all λa=>fL (nr a) 100)&&(rs.all λa=>fL (nr a) 100)&&(outs.all λa=>fL a.length 100)then ah (dj.mk rs (ur outs))else aj
   |none=>aj
  |none=>aj)=ah r:=by
  rcases he with rfl|rfl<;>exact h
 split at h
 ·rename_i rs tk fz h1;split at h
  ·rename_i outs ns ms h2;obtain⟨RL,rfl,rfl,rfl,r4,r5,r6⟩:=Ra hE cj dI h1;obtain⟨OL,rfl,o2,rfl,rfl,o5⟩:=Q3 cj h2;obtain⟨hb,rfl⟩:=FY h;simp only[aK,bA]at hb;obtain⟨⟨⟨⟨⟨b1,b2⟩,b3⟩,b4⟩,b5⟩,b6⟩:=hb;refine⟨he,λx hx=>cL (b4 x hx),RL,OL,⟨r4,λi O x hi hx=>by have:=o5 i O x hi hx;rwa[bT]at this,o2,qI b1,oO b2,⟨?_, ?_, ?_⟩,rfl,λp=>Bo⟩,KQ r6⟩
   ·intro p x xs hp _;have:=(aT.1 hp).1;have:=cL b3;omega
   ·intro q x xs hq hx;have h1:=cL (b5 x (aR hq));have h2:nr x=xs.length:=by rcases hx with ⟨g,rfl⟩|rfl<;>rfl
    omega
   ·intro p;show((ur (OL.map (·.l))).getD p []).length<=100;rw[Bo,d_];cases hp:(OL.map (·.l))[p]? with
    |none=>simp
    |some l=>exact cL (b6 l (aR hp))
  ·cases h
 ·cases h
end
inductive Fit:CV->Prop
 |i (k n):Fit (.i k n)
 |b (x):Fit (.b x)
 |s (x) (h:CD x):Fit (.s x)
 |l (e xs) (h:xs.length<=9223372036854775807) (hc:∀y∈xs,∀x∈y,Fit x):Fit (.l e xs)
def ng(xs:aQ):Prop:=xs.length<=9223372036854775807/\∀y∈xs,∀x∈y,Fit x
def ak7:AA->Prop
 | .s x=>CD x| .sh _ xs=>ng xs| .ow _ _ xs=>ng xs|_=>True
def H7:az AA->Prop
 |[]=>True|a::r=>ak7 a/\H7 r
def ak8:CV->Prop
 | .s x=>CD x| .l _ xs=>ng xs|_=>True
def T7:az CV->Prop
 |[]=>True|a::r=>ak8 a/\T7 r
def T6:fj->Prop
 | .v _ xs=>H7 xs| .pt xs=>H7 xs| .fb xs=>T7 xs
def xR:az fj->Prop
 |[]=>True|a::r=>T6 a/\xR r
theorem Fit.amq{u:bn}{x:CV}(hl:uz x=ak)(h:Sc u x):Fit x:=by
 cases x with
 |i k n=>exact .i k n
 |b x=>exact .b x
 |s x=>exact .s x h.2
 |l=>simp[uz]at hl
theorem dg.fit{E:Tab}{w:bJ}{K:aC->Prop}{v:bn}{x:CV}(h:dg E w K v x):Fit x:=by
 induction h with
 |i k n=>exact .i k n
 |b x=>exact .b x
 |s x h=>exact .s x h
 |nl e A c=>exact .l e [] (bk _) (λy hy=>by cases hy)
 |l e xs b o c ti U ht hc hm hK hs hcell fP ih=>refine .l e xs (dc hc hm) (λy hy x hx=> ?_);obtain⟨i,hi⟩:=b7 hy;obtain⟨j,hj⟩:=b7 hx;exact ih i j y x hi hj
theorem Fit.row{e:aC}{xs:aQ}(h:Fit (.l e xs)):ng xs:=by cases h with|l _ _ h hc=>exact⟨h,hc⟩
theorem Fit.toC{x:CV}(h:Fit x):ak8 x:=by
 cases x with
 |s x=>cases h with|s _ h=>exact h
 |l e xs=>exact h.row
 |_=>trivial
theorem Bx{w:bJ}{p:Pl}{xs:aQ}{R:aC->aC->bn->CV->Prop}(h:jg w p xs R){i j:aC}{y:az CV}{x:CV}(hi:xs[i]? =ah y)(hj:y[j]? =ah x):∃u:bn,R i j u x:=by
 cases hn:p.nil with
 |true=>rw[(h.nil hn).1]at hi;simp at hi
 |false=>obtain⟨vals,_,_,_,_,hc⟩:=h.mem hn;obtain⟨u,_,hr⟩:=hc i y j x hi hj;exact⟨u,hr⟩
theorem NY.fit{E:Tab}{w:bJ}{c:e9}{nm e:aC}{ex:aY}{xs:aQ}(h:NY E w c nm e ex xs):ng xs:=by
 refine⟨uH h.at_,λy hy x hx=> ?_⟩
 obtain⟨i,hi⟩:=b7 hy;obtain⟨j,hj⟩:=b7 hx;obtain⟨u,hr⟩:=Bx h.at_ hi hj;split at hr
 ·cases x with
  |i k n=>exact .i k n
  |b x=>exact .b x
  |s x=>exact .s x (show Sc u (.s x)from hr).2
  |l e2 ys=>obtain⟨_,ti,_,hp,_,mE,gk⟩:=hr;refine .l e2 ys (uH gk) (λy2 hy2 x2 XO=> ?_);obtain⟨i2,E_⟩:=b7 hy2;obtain⟨j2,hj2⟩:=b7 XO;obtain⟨u2,hr2⟩:=Bx gk E_ hj2;exact Fit.amq (im hp (mE y2 hy2) hj2) hr2
 ·exact dg.fit hr
theorem Gd{T:Tab}{w:bJ}{c:e9}{xs:az AA}{nm:aC}(alG:∀(j e:aC) (ex:aY) (ys:aQ),xs[j]? =ah (AA.ow e ex ys)->ng ys)(h:∀(j:aC) (x:AA),xs[j]? =ah x->∃v,eL T w c (lk (nm+j) x) v):H7 xs:=by
 induction xs generalizing nm with
 |nil=>trivial
 |cons x xs ih=>
  refine⟨?_,ih (nm:=nm+1) (λj e ex ys hj=>alG (j+1) e ex ys hj) (λj y hj=> ?_)⟩
  ·obtain⟨v,hv⟩:=h 0 x rfl;cases x with
   |s x=>exact hv.2
   |sh e ys=>exact(dg.fit hv).row
   |ow e ex ys=>exact alG 0 e ex ys rfl
   |_=>trivial
  ·have:=h (j+1) y hj;rw[show nm+1+j=nm+(j+1)by omega];exact this
def Ba(args:az fj):aY:=fL args.length 500&&args.all λa=>fL (nr a) 100
theorem Y5{args:az fj}(hs:Ba args=ai){p j e:aC}{x:fj}{xs:az AA}{ex:aY}{ys:aQ}(h0:args[p]? =ah x)(hx:(∃g,x= .v g xs)\/x= .pt xs)(hj:xs[j]? =ah (AA.ow e ex ys)):inj args (db (dX p j))= .o (.row e ex ys):=by
 simp only[Ba,aK,bA]at hs;have len:∀(x:fj) (xs:az AA) (j:aC) (y:AA),x∈args->((∃g,x= .v g xs)\/x= .pt xs)->xs[j]? =ah y->j<100:=by
  intro x xs j y hm hx hj;have h1:=cL (hs.2 x hm);have h2:nr x=xs.length:=by rcases hx with ⟨g,rfl⟩|rfl<;>rfl
  have h3:=(aT.1 hj).1;omega
 have kg:=len x xs j _ (aR h0) hx hj;refine Bd (lQ.2 ⟨p,x,h0, .inr (iB.2 (.inr ⟨xs,j,e,ex,ys,hx,hj,by rw[bT],rfl⟩))⟩) (λc' Ka=> ?_);obtain⟨p',a',XG,hh⟩:=lQ.1 Ka;rw[bT]at hh;rcases hh with ⟨h,_⟩|hh
 ·exact cS h (mh _ _)
 ·rcases iB.1 hh with ⟨zs,_,h,_⟩|⟨zs,j',e',uv,ED,pE,La,h,rfl⟩
  ·have:=uE (by omega) (by omega) (jW h);omega
  ·have aDr:=len a' zs j' _ (aR XG) pE La;obtain⟨rfl,rfl⟩:=uE (by omega) (by omega) (jW h);rw[h0]at XG;cases XG;have:xs=zs:=by rcases hx with ⟨g,rfl⟩|rfl<;>rcases pE with ⟨g',pE⟩|pE<;>cases pE<;>rfl
   subst this;rw[hj]at La;cases La;rfl
theorem Ma{T:Tab}{w:bJ}{c:e9}:∀{cs:az CV},(∀(q:aC) (x:CV),cs[q]? =ah x->Fit x)->T7 cs:=by
 intro cs;induction cs with
 |nil=>intro _;trivial
 |cons x cs ih=>intro h;exact⟨(h 0 x rfl).toC,ih (λq y hq=>h (q+1) y hq)⟩
theorem T8{T:Tab}{w:bJ}{c:e9}{args:az fj}(hs:Ba args=ai)(cj:Ok T (inj args) w c)(h:∀(p:aC) (x:fj),args[p]? =ah x->∃v,jh T w c (tC p x) v):xR args:=by
 have one:∀(p:aC) (x:fj),args[p]? =ah x->T6 x:=by
  intro p x h0;have rows:∀xs,((∃g,x= .v g xs)\/x= .pt xs)->∀(j e:aC) (ex:aY) (ys:aQ),xs[j]? =ah (AA.ow e ex ys)->ng ys:=λxs hx j e ex ys hj=>NY.fit (cj.obj _ _ (Y5 hs h0 hx hj));obtain⟨v,hv⟩:=h p x h0;cases x with
  |v g xs=>
   refine Gd (T:=T) (w:=w) (c:=c) (nm:=dX p 0) (rows xs (.inl ⟨g,rfl⟩)) (λj y hj=> ?_);replace hv:qi T w c g (gE (dX p 0) xs) v:=hv;have La:(gE (dX p 0) xs)[j]? =ah (lk (dX p 0+j) y):=by rw[iD,hj];rfl
   unfold qi at hv;split at hv
   ·rename_i a he;rw[he]at La;cases j with
    |zero=>cases La;exact⟨v,hv⟩
    |succ j=>simp at La
   ·obtain⟨vals,_,_,hv⟩:=hv;obtain⟨u,_,hu⟩:=hv j _ La;exact⟨u,hu⟩
   ·exact hv.elim
  |pt xs=>
   have ave:inj args (db (dX p 900))= .o (.box (gE (dX p 0) xs)):=by
    refine Bd (lQ.2 ⟨p,_,h0, .inr (iB.2 (.inl ⟨xs,rfl,by rw[bT],by rw[bT]⟩))⟩) (λc' Ka=> ?_);obtain⟨p',a',XG,hh⟩:=lQ.1 Ka;rw[bT]at hh;rcases hh with ⟨h,_⟩|hh
    ·exact cS h (mh _ _)
    ·rcases iB.1 hh with ⟨zs,hx,h,rfl⟩|⟨zs,j',e',uv,ED,pE,La,h,rfl⟩
     ·obtain⟨rfl,_⟩:=uE (by omega) (by omega) (jW h);rw[h0]at XG;cases XG;cases hx;rfl
     ·exfalso;simp only[Ba,aK,bA]at hs;have h1:=cL (hs.2 a' (aR XG));have h2:nr a'=zs.length:=by rcases pE with ⟨g,rfl⟩|rfl<;>rfl
      have h3:=(aT.1 La).1;have:=uE (by omega) (by omega) (jW h);omega
   obtain⟨vals,_,_,hc⟩:=cj.obj _ _ ave;refine Gd (T:=T) (w:=w) (c:=c) (nm:=dX p 0) (rows xs (.inr rfl)) (λj y hj=> ?_);obtain⟨u,_,hu⟩:=hc j (lk (dX p 0+j) y) (by rw[iD,hj];rfl);exact⟨u,hu⟩
  |fb xs=>
   obtain⟨b,_,_,hf⟩:∃b,v= .pointer (ah (ad b 0))/\c.K b/\∀(q:aC) (x:CV),xs[q]? =ah x->∃u:bn,w.cell? (ad b q)=ah u/\dg T w c.K u x:=by obtain⟨b,h1,h2,h3⟩:=hv;exact⟨b,h1,h2,h3⟩
   exact Ma (T:=T) (w:=w) (c:=c) (λq x hq=>by obtain⟨u,_,hu⟩:=hf q x hq;exact hu.fit)
 clear h cj hs;induction args with
 |nil=>trivial
 |cons x args ih=>exact⟨one 0 x rfl,ih (λp y hp=>one (p+1) y hp)⟩
theorem agX{P:c6}{E:fS}(hE:eH P E)(hF:∀g,bX P E g (E.call g))(hm:P.follows .mixedOrders=ai){g:aC}{F:Func}{code:Code}(hf:P.funcs[g]? =ah F)(hb:F.body=ah code)
  (hc:((F.name== "runtime.NumGoroutine")|| !tn F.ntmps code)=ak) {spec:az fj->ay (aY×dj)} (hs:∀args r,spec args=ah (ai,r)->Ba args=ai/\(xR args->args.length<=F.ntmps/\∃(R:Type) (it:It R) (K:Ex->St->ay R) (q:R),(∀c∈jV code,bY E it c)/\tq E it code (inj args) K=ah q/\∀e σ,K e σ=ah q->fin E F args e σ=ah r)):bX P E g spec:=by
 intro args r hr w c1 vs cj fZ Ut;obtain⟨hsm,hs⟩:=hs args r hr;obtain⟨hlen,R,it,K,q,Dz,ala,avo⟩:=hs (T8 hsm cj (λp x hp=>(Ut p x hp).imp λ_ h=>h.2));simp only[iF,mF]at hc;refine⟨⟨F,hf,by rw[hb];rfl,hc.1⟩, ?_⟩
 refine calls_of_wp hf hb ?_;refine agQ (N:=F.ntmps) (σ0:=inj args) (c0:=c1) (w0:=w) hE hF hm code Dz (inj args) K _ ala hc.2 (λe σ' a' w' c' hk gk=> ?_) _ w c1 ⟨cj,⟨λn=> ?_,Ko,rfl⟩, ?_,ot.refl _ _ _,Xo.refl _⟩
 ·obtain⟨he,ha,RL,OL,YJ,Up⟩:=agW hE gk.ok gk.sl (avo _ _ hk)
  have avU:Tx E args r c1 w (D4 (RL.map (·.v))) w':=
   ⟨nt σ' c' RL OL,YA gk.ok YJ,gk.gr.trans (Qs gk.ok YJ),Qt YJ.sm ha gk.ag,T0 YJ⟩
  rcases he with rfl|rfl<;>exact⟨gk.sl.df,_,Up,avU⟩
 ·rcases Kp (args:=args) (n:=n)with ⟨x,h0,h⟩|h
  ·rw[h];obtain⟨v,hv,zC⟩:=Ut n x h0;have:(Act.mk (vs++B9 (F.ntmps-vs.size) undef) []).eval (.tmp n)=v:=by show(vs++B9 (F.ntmps-vs.size) undef).getD n undef=v;have hn:=(dY.1 hv).1;rw[eM,Array.getElem?_append,bB hn,hv];rfl
   rw[this];exact zC
  ·rw[h];trivial
 ·simp;omega
theorem Qw{P:c6}{T:Tab}{g:aC}{spec:az fj->ay (aY×dj)}(h:∀args,spec args=aj):bX P T g spec:=λargs r hr=>by rw[h]at hr;cases hr
end Go.FG

namespace Go.FG
structure pS where
 t:aC
 ti:TI
 fs:az (aC×aC)
def B8:az pS->aC->ay TI
 |[],_=>aj
 |r::rs,t=>bif bD t r.t then ah r.ti else B8 rs t
def E8:az pS->aC->aC->ay (aC×aC)
 |[],_,_=>aj
 |r::rs,t,f=>bif bD t r.t then(bif r.ti.agg then r.fs[f]? else aj)else E8 rs t f
def W7(rows:az pS)(eqs:az aC):Tab:={ty:=B8 rows,fo:=E8 rows,eqs:=eqs}
def zB:Ck->bn->aY
 | .i k, .int k' n=>decide (k'=k)&&decide (n=0)
 | .b, .bool x=> !x
 | .s, .string x=>decide (x.size=0)
 | .l _, .slice aj 0 0=>ai
 | .o, .nilIface=>ai
 |_,_=>ak
def zsB:az Ck->az bn->aY
 |[],[]=>ai
 |k::ks,v::vs=>zB k v&&zsB ks vs
 |_,_=>ak
def isAgg:bn->aY| .agg _=>ai|_=>ak
def xP(P:c6)(n:aC):az Field->az (aC×aC)->aY
 |[],[]=>ai
 |f::r,(o,m)::l=>bD f.offset o&&(match P.info? f.type with|some i=>bD i.size m|none=>ak)&&qs 0 m&&fL (o+m) n&&xP P n r l
 |_,_=>ak
def rQ:TypeDesc->aY| .struct _=>ak| .array _ _=>ak|_=>ai
def aaU(P:c6)(r:pS):aY:=
 match P.info? r.t,P.underlying r.t with
 |some inf,ah d=>bD inf.size r.ti.ks.length&&bD inf.bytes r.ti.bytes&&qs 0 r.ti.ks.length&&
  (bif ML r.ti.ks then(match inf.zero with|some z=>zsB r.ti.ks z.cells.toList&&(!r.ti.agg||isAgg z)|none=>ak)else ai)&&
  (match d with
  | .struct fs=>r.ti.agg&&xP P r.ti.ks.length fs.toList r.fs
  | .int k=> !r.ti.agg&&qk r.ti.ks [.i k]
  | .bool=> !r.ti.agg&&qk r.ti.ks [.b]
  | .string=> !r.ti.agg&&qk r.ti.ks [.s]
  | .slice e=> !r.ti.agg&&qk r.ti.ks [.l e]
  |d=> !r.ti.agg&&qk r.ti.ks [.o]&&rQ d)
 |_,_=>ak
theorem apv{k:Ck}{v:bn}(h:zB k v=ai):v=iH k:=by
 cases k<;>cases v<;>simp_all [zB,iH]
 ·rfl
 ·rename_i a n c;cases a<;>cases n<;>cases c<;>simp_all
theorem Xn:∀{ks:az Ck} {vs:az bn},zsB ks vs=ai->vs=ks.map iH
 |[],[],_=>rfl
 |k::ks,v::vs,h=>by
  simp only[zsB,aK]at h;rw[apv h.1,Xn h.2];rfl
 |[],_::_,h=>by cases h
 |_::_,[],h=>by cases h
theorem agL:∀{x y:Ck},ckB x y=ai->x=y:=by intro x y h;cases x<;>cases y<;>simp_all [ckB]
theorem nQ:∀{a b:az Ck},qk a b=ai->a=b
 |[],[],_=>rfl
 |x::a,y::b,h=>by
  simp only[qk,aK]at h;rw[agL h.1,nQ h.2]
 |[],_::_,h=>by cases h
 |_::_,[],h=>by cases h
theorem wu{P:c6}{n:aC}:∀{fs:az Field} {l:az (aC×aC)},xP P n fs l=ai->
  fs.mapM (λf=>(P.info? f.type).map λi=>(f.offset,i.size))=ah l/\∀(f o m:aC),l[f]? =ah (o,m)->∃fd,fs[f]? =ah fd/\fd.offset=o/\(P.info? fd.type).map (·.size)=ah m/\m≠0/\o+m<=n
 |[],[],_=>⟨rfl,λf o m h=>by simp at h⟩
 |f::r,(o,m)::l,h=>by
  simp only[xP,aK]at h;obtain⟨⟨⟨⟨h1,h2⟩,h3⟩,h4⟩,h5⟩:=h;obtain⟨i1,i2⟩:=wu h5;have e1:=aU h1;cases hi:P.info? f.type with
  |none=>rw[hi]at h2;cases h2
  |some i=>
   rw[hi]at h2;have e2:i.size=m:=aU h2;have e3:0<m:=by simpa [BJ]using h3
   have e4:=cL h4;refine⟨by simp[Ye,hi,i1,e1,e2],λg o' m' hg=> ?_⟩
   cases g with
   |zero=>cases hg;exact⟨f,rfl,e1,by rw[hi];exact lH ah e2,by omega,e4⟩
   |succ g=>exact i2 g o' m' hg
 |[],_::_,h=>by cases h
 |_::_,[],h=>by cases h
theorem K2:∀{rows:az pS} {t:aC} {ti:TI},B8 rows t=ah ti->∃r∈rows,r.t=t/\r.ti=ti/\∀f,E8 rows t f=(bif r.ti.agg then r.fs[f]? else aj)
 |[],_,_,h=>by cases h
 |r::rs,t,ti,h=>by
  unfold B8 at h;cases hb:bD t r.t with
  |true=>rw[hb]at h;cases h;exact⟨r,dL ..,(aU hb).symm,rfl,λf=>by simp[E8,hb]⟩
  |false=>rw[hb]at h;obtain⟨r',h1,h2,h3,h4⟩:=K2 (rows:=rs) h;exact⟨r',c9 _ h1,h2,h3,λf=>by unfold E8;rw[hb];exact h4 f⟩
theorem OE:∀{rows:az pS} {t f:aC} {o n:aC},E8 rows t f=ah (o,n)->∃ti,B8 rows t=ah ti/\ti.agg=ai
 |[],_,_,_,_,h=>by cases h
 |r::rs,t,f,o,n,h=>by
  unfold E8 at h;unfold B8;cases hb:bD t r.t with
  |true=>
   rw[hb]at h;refine⟨r.ti,rfl, ?_⟩
   cases ha:r.ti.agg with
   |true=>rfl
   |false=>rw[ha]at h;cases h
  |false=>rw[hb]at h;exact OE (rows:=rs) h
def IE(P:c6):aC->az Ck->az Field->aY
 |_,[],[]=>ai
 |j,k::ks,f::fs=>f.name != "_" &&bD f.offset j&&(match P.underlying f.type,k with|some (.int q), .i q'=>decide (q=q')|some .bool, .b=>ai|some .string, .s=>ai|_,_=>ak)&&IE P (j+1) ks fs
 |_,_,_=>ak
def ace(P:c6)(rows:az pS)(t:aC):aY:=
 !P.eqGuardType P.depth t&& !P.stoodInHeld t&&(match B8 rows t,P.underlying t with|some ti,ah (.struct fs)=>IE P 0 ti.ks fs.toList|_,_=>ak)
theorem yL{P:c6}{t:aC}{d:TypeDesc}(hd:P.underlying t=ah d)(hp:rQ d=ai){cs:dp bn}{j:aC}{v:bn}(hj:cs[j]? =ah v)(w:bJ):(part t cs j).run P w= .ok v w:=by cases d<;>simp_all [part,Go.isAgg,run_underlying hd,rQ]
theorem Bp{P:c6}(w:bJ):∀(fs:az Field) (ks:az Ck) (pre MV xs ys:az AV) (r:aY),IE P pre.length ks fs=ai->MV.length=pre.length->xs.map Iq=ks->ys.map Iq=ks->Yz xs ys=ah r->
  (P7 9999 ((pre++xs).map lU).toArray ((MV++ys).map lU).toArray fs).run P w= .ok r w
 |[],[],pre,MV,xs,ys,r,_,_,hx,hy,he=>by
  have:xs=[]:=by simpa using hx
  subst this;have:ys=[]:=by simpa using hy
  subst this;cases he;rfl
 |f::fs,k::ks,pre,MV,x::xs,y::ys,r,h,hl,hx,hy,he=>by
  simp only[IE,aK]at h;obtain⟨⟨⟨h1,h2⟩,h3⟩,h4⟩:=h;have h2:=aU h2;have h1:f.name≠ "_" :=by simpa using h1
  simp only[eC,List.cons.injEq]at hx hy;have gx:((pre++x::xs).map lU).toArray[f.offset]? =ah (lU x):=by rw[h2];simp
  have gy:((MV++y::ys).map lU).toArray[f.offset]? =ah (lU y):=by rw[h2,<-hl];simp
  have ih:=λr' he'=>Bp w fs ks (pre++[x]) (MV++[y]) xs ys r' (by simpa using h4) (by simp[hl]) hx.2 hy.2 he';simp only[bU,uT]at ih
  have fin:∀{d:TypeDesc} {a b:bn} {q t:aY},P.underlying f.type=ah d->rQ d=ai->lU x=a->lU y=b->(Op.equalIn 9999 f.type a b).run P w= .ok q w->Yz xs ys=ah t->r=(q&&t)->
    (P7 9999 ((pre++x::xs).map lU).toArray ((MV++y::ys).map lU).toArray (f::fs)).run P w= .ok r w:=by
   intro d a b q t hd hp ha hb hq ht hr
   subst ha;subst hb;subst hr
   simp only[P7,bB h1,cq,yL hd hp gx w,yL hd hp gy w,bG,hq,m8]
   cases q with
   |false=>rfl
   |true=>simpa using ih t ht
  cases hu:P.underlying f.type with
  |none=>rw[hu]at h3;cases h3
  |some d=>
   rw[hu]at h3;cases x<;>cases y<;>simp only[Yz]at he<;>try (cases he;done)
   ·rename_i k1 n1 k2 n2;split at he
    ·rename_i Ui;subst Ui;split at he
     ·rename_i t ht;cases he;have hk:k= .i k1:=hx.1.symm;subst hk;cases d<;>simp at h3;subst h3;exact fin hu rfl rfl rfl (run_equalIn_int w 9998 f.type _ _ _ _ hu) ht rfl
     ·cases he
    ·cases he
   ·split at he
    ·rename_i t ht;cases he;have hk:k= .b:=hx.1.symm;subst hk;cases d<;>simp at h3;exact fin hu rfl rfl rfl (run_equalIn_bool' w 9998 f.type _ _ hu) ht rfl
    ·cases he
   ·split at he
    ·rename_i t ht;cases he;have hk:k= .s:=hx.1.symm;subst hk;cases d<;>simp at h3;exact fin hu rfl rfl rfl (run_equalIn_string w 9998 f.type _ _ hu) ht rfl
    ·cases he
 |[],_::_,_,_,_,_,_,h,_,_,_,_=>by cases h
 |_::_,[],_,_,_,_,_,h,_,_,_,_=>by cases h
 |_::_,_::_,_,_,[],_,_,_,_,hx,_,_=>by cases hx
 |_::_,_::_,_,_,_::_,[],_,_,_,_,hy,_=>by cases hy
theorem agP{P:c6}{rows:az pS}{eqs:az aC}(h:rows.all (aaU P)=ai)(h2:eqs.all (ace P rows)=ai):eH P (W7 rows eqs):=by
 have key:∀t ti,B8 rows t=ah ti->∃r,r.t=t/\r.ti=ti/\aaU P r=ai/\∀f,E8 rows t f=(bif r.ti.agg then r.fs[f]? else aj):=λt ti ht=>by obtain⟨r,h1,h2,h3,h4⟩:=K2 ht;exact⟨r,h2,h3,bA.1 h r h1,h4⟩
 have open_:∀r,aaU P r=ai->∃inf d,P.info? r.t=ah inf/\P.underlying r.t=ah d/\inf.size=r.ti.ks.length/\inf.bytes=r.ti.bytes/\0<r.ti.ks.length/\
   (ML r.ti.ks=ai->∃z,inf.zero=ah z/\z.cells.toList=r.ti.ks.map iH/\(r.ti.agg=ai->isAgg z=ai))/\
   ((∃fs,d= .struct fs/\r.ti.agg=ai/\xP P r.ti.ks.length fs.toList r.fs=ai)\/(r.ti.agg=ak/\((∃k,r.ti.ks=[.i k]/\d= .int k)\/(r.ti.ks=[.b]/\d= .bool)\/(r.ti.ks=[.s]/\d= .string)\/(∃e,r.ti.ks=[.l e]/\d= .slice e)\/(r.ti.ks=[.o]/\rQ d=ai)))):=by
  intro r hr
  unfold aaU at hr
  split at hr
  ·rename_i inf d h1 h2;simp only[aK]at hr;obtain⟨⟨⟨⟨k1,k2⟩,k3⟩,k4⟩,k5⟩:=hr;refine⟨inf,d,h1,h2,aU k1,aU k2,by simpa [BJ]using k3,λhn=> ?_, ?_⟩
   ·rw[hn,au]at k4;split at k4
    ·rename_i z hz;simp only[aK,dM,du]at k4;exact⟨z,hz,Xn k4.1,λha=>by rcases k4.2 with h|h;(·rw[ha]at h;cases h);exact h⟩
    ·cases k4
   ·cases d<;>simp only[aK,du]at k5;case struct fs=>exact .inl ⟨fs,rfl,k5⟩
    case int k=>exact .inr ⟨k5.1, .inl ⟨k,nQ k5.2,rfl⟩⟩
    case bool=>exact .inr ⟨k5.1, .inr (.inl ⟨nQ k5.2,rfl⟩)⟩
    case string=>exact .inr ⟨k5.1, .inr (.inr (.inl ⟨nQ k5.2,rfl⟩))⟩
    case slice e=>exact .inr ⟨k5.1, .inr (.inr (.inr (.inl ⟨e,nQ k5.2,rfl⟩)))⟩
    all_goals exact .inr ⟨k5.1.1, .inr (.inr (.inr (.inr ⟨nQ k5.1.2,k5.2⟩)))⟩
  ·cases hr
 refine⟨λt ti ht=> ?_,λt ti ht=> ?_,λt f o n hf=>OE hf,λt ti ht ha fs hu=> ?_,λt ti he ht w x y xs ys r hr hx hy=> ?_,λ_ _ h=>by cases h⟩
 ·obtain⟨r,rfl,rfl,hr,_⟩:=key t ti ht;obtain⟨inf,d,h1,h2,h3,h4,h5,h6,h7⟩:=open_ r hr;refine⟨inf,h1,h3,h4,h5,λhn=> ?_⟩
  obtain⟨z,z1,z2,z3⟩:=h6 hn;have hc:z.cells=(r.ti.ks.map iH).toArray:=by rw[<-z2]
  refine⟨z,z1,hc,λha=> ?_⟩
  have:=z3 ha;cases z<;>simp[isAgg]at this;rw[show _=_ from hc.symm];rfl
 ·obtain⟨r,rfl,rfl,hr,xS⟩:=key t ti ht;obtain⟨inf,d,h1,h2,h3,h4,h5,h6,h7⟩:=open_ r hr;refine⟨d,h2,λha=> ?_,λha=> ?_⟩
  ·rcases h7 with ⟨fs,rfl,_,hb⟩|⟨hn,_⟩
   ·refine⟨fs,rfl,λf o n hf=> ?_⟩
    have hf:E8 rows r.t f=ah (o,n):=hf;rw[xS,ha]at hf;obtain⟨fd,k1,k2⟩:=(wu hb).2 f o n hf;exact⟨fd,by simpa using k1,k2⟩
   ·rw[ha]at hn;cases hn
  ·rcases h7 with ⟨fs,_,hn,_⟩|⟨_,h|h|h|h|⟨h,hb⟩⟩
   ·rw[ha]at hn;cases hn
   ·exact .inl h
   ·exact .inr (.inl h)
   ·exact .inr (.inr (.inl h))
   ·exact .inr (.inr (.inr (.inl h)))
   ·refine .inr (.inr (.inr (.inr ⟨h, ?_⟩)));cases d<;>first|rfl|cases hb
 ·obtain⟨r,rfl,rfl,hr,xS⟩:=key t ti ht;obtain⟨inf,d,h1,h2,h3,h4,h5,h6,h7⟩:=open_ r hr;rw[h2]at hu;cases hu;rcases h7 with ⟨fs',he,_,hb⟩|⟨hn,_⟩
  ·cases he;refine⟨r.fs,(wu hb).1,λf o n hf=> ?_⟩
   have hf:E8 rows r.t f=ah (o,n):=hf;rw[xS,ha]at hf;exact hf
  ·rw[ha]at hn;cases hn
 ·have hm:t∈eqs:=by
   have:∀l:az aC,mC t l=ai->t∈l:=by
    intro l;induction l with
    |nil=>intro h;cases h
    |cons a l ih=>
     intro h;simp only[mC,dM]at h;rcases h with h|h
     ·rw[aU h];exact dL
     ·exact c9 _ (ih h)
   exact this _ he
  have hb:=bA.1 h2 t hm;simp only[ace,aK,du]at hb;obtain⟨⟨b1,b2⟩,b3⟩:=hb;rw[show B8 rows t=ah ti from ht]at b3;cases hu:P.underlying t with
  |none=>rw[hu]at b3;cases b3
  |some d=>
   rw[hu]at b3;cases d<;>try (cases b3;done)
   rename_i fs;have xS:P.fieldsOf t=fs:=by unfold Program.fieldsOf;rw[hu]
   have sq:P.underlying t=ah (.struct (P.fieldsOf t)):=by rw[xS];exact hu
   have key:(Op.equalIn 10000 t (.agg (xs.map lU).toArray) (.agg (ys.map lU).toArray)).run P w= .ok r w:=by rw[run_equalIn_agg w 9999 t _ _ sq b2,xS];exact Bp w fs.toList ti.ks [] [] xs ys r b3 rfl hx hy hr
   refine⟨?_, ?_⟩
   ·simp only[cq,run_eqGuard_agg w .eql t x y _ _ b1,bG,run_eql_struct,key]
   ·simp only[cq,run_eqGuard_agg w .neq t x y _ _ b1,bG,run_neq_struct,key]
def api(rows:az pS)(eqs:az aC)(T9:az (aC×aC)):Tab:={W7 rows eqs with T9:=λt f=>T9.any λp=>bD t p.1&&bD f p.2}
def flB(P:c6)(p:aC×aC):aY:=
 match P.underlying p.1 with
 |some (.struct fs)=>(match fs[p.2]? with|some fd=>(match P.underlying fd.type with|some d=>rQ d|none=>ak)|none=>ak)
 |_=>ak
theorem agv{P:c6}{t:aC}{d:TypeDesc}(h:P.underlying t=ah d)(hb:rQ d=ai)(w:bJ):(Go.isAgg t).run P w= .ok ak w:=by unfold Go.isAgg;rw[cq,run_underlying h,bG];cases d<;>first|rfl|cases hb
theorem Yx{P:c6}{rows:az pS}{eqs:az aC}{T9:az (aC×aC)}(h:eH P (W7 rows eqs))(hf:T9.all (flB P)=ai):eH P (api rows eqs T9):=by
 refine⟨h.info,h.desc,h.fo,h.pl,h.eq,λt f hq fs fd hu hd w=> ?_⟩
 obtain⟨p,hp,he⟩:=List.any_eq_true.1 (show(T9.any λp=>bD t p.1&&bD f p.2)=ai from hq);rw[aK]at he;have hb:=bA.1 hf p hp;unfold flB at hb;rw[<-aU he.1,<-aU he.2,hu]at hb;dsimp only at hb;rw[hd]at hb;dsimp only at hb;split at hb
 ·rename_i d h2;exact agv h2 hb w
 ·cases hb
end Go.FG

