/- An evaluator for the part of the language that this program uses, proved sound over the model: states told as values and lists; what an evaluation tells, the call does. No condition. -/
import Derived.Calls
import Derived.Orders
import Derived.Below
import Derived.Laws.AppendOwn
import Derived.Laws.Slices
import Derived.Laws.StructEq
import Derived.Laws.Tables
import Derived.Laws.MakeOwn
import Derived.Laws.IdiomStrings
import Derived.Laws.BytesArg
import Derived.Laws.NewFold
import Derived.SizedLaws
import Derived.Carry
import Derived.ProofKit
import Derived.KernelRfl
import Derived.Laws.Strings
import Derived.Test.YtilcgpcemjeaeaaGreatCorea
set_option linter.unusedVariables false
set_option linter.unusedSimpArgs false
set_option maxRecDepth 100000
open Array renaming ext'->si,length_toList->dS,getElem?_toList->cW,getElem?_eq_some_iff->dV,getElem?_extract->ea,getElem?_map->Oa,getElem?_append_left->DT,toList_map->Ae,eq_empty_of_size_eq_zero->Ad,getD_eq_getD_getElem?->eI,getElem?_replicate->DU,replicate->AK
open Bool renaming false->ak,true->ai,or_true->JT,and_eq_true->aL,and_true->jY,false_eq_true->du,not_eq_true'->dv,not_eq_false'->mH,or_eq_true->dM,and_false->wh,not_false->bQ,true_or->Af,or_eq_false_iff->iF
open Go renaming World->bK,Value->bj,Program->cZ,Oper->fA,IntKind->nc,Operand->dx
open Go.Act renaming put->Vx
open Go.Builtin renaming firstCells->fy,lenOf->pq,append_->iu,zeroCells->fP
open Go.Exit renaming inBlock->HH
open Go.Instr renaming makeFunc->Vy,loadAt->yF,sureAddr->uF
open Go.IntKind renaming u8->ba
open Go.Op renaming eqFields->Ob
open Go.Oper renaming wp->Oc,upon_enter->Vz
open Go.Region renaming wanted->u9,binds->mK,ready->wu
open Go.Result renaming andThen_ok->bF
open Go.Sem renaming run_bind->ch,run_pure->cS,run->ng,run_ite->m7
open List renaming mem_of_getElem?->aR,map_append->dh,map_cons->fB,map_nil->BD,mem_append->bc,mem_map->cX,mem_singleton->a_,mem_append_left->bW,mem_append_right->bP,getElem?_append_left->dF,getElem?_append_right->dc,length_append->bV,eq_nil_of_length_eq_zero->gg,length_map->bR,getElem?_eq_some_iff->aT,mem_cons->cu,getElem?_of_mem->bX,getElem_mem->bA,map_toArray->Dg,mem_cons_self->dL,mem_cons_of_mem->c7,not_mem_nil->lL,getElem?_cons_succ->dO,mem_flatMap->bL,length_eq_one_iff->gV,getElem?_cons_zero->sj,flatMap_cons->yG,nodup_append->eK,getElem?_map->bJ,nodup_cons->kC,getD_eq_getElem?_getD->cY,nil_append->gD,all_eq_true->bu,map_map->mg,append_nil->dj,cons_append->BC,length_singleton->bz,range'->iP,length_cons->de,getElem?_eq_none->kT,append_assoc->cq,take_append_of_le_length->oU,take_length->dK,singleton_append->uK,length_nil->jL,getElem?_take->d_,countP_cons->lD,range->cR,range_eq_range'->Wt,find?_eq_none->Wn,find?_some->Fj,length_set->cQ,mem_or_eq_of_mem_set->jD,mem_filter->dG,mapM_cons->Wr,getD_cons_succ->vD
open List.cons renaming injEq->Z2
open Nat renaming lt_of_lt_of_le->jt,mul_le_mul_right->bZ,add_mul->dp,add_assoc->lW,eq_of_beq_eq_true->aU,le_refl->cw,zero_le->bB,div_lt_iff_lt_mul->yu,mod_lt->C4,div_add_mod->JG,mul_comm->D3,zero_add->bS,add_comm->iZ,beq->bD,le_of_ble_eq_true->cG,add_zero->yH,blt->qk,blt_eq->Ak,lt_or_ge->qJ,le_trans->dg,ble_eq_true_of_le->J3,ble->fK,sub_zero->rX
open Option renaming some->ah,getD_some->yI,none->aj
open Option.some renaming inj->aJ,injEq->jx
open Prod.mk renaming inj->bT,injEq->jd
open _root_ renaming Nat->aE,Bool->aW,List->aC,if_pos->bw,if_neg->bG,absurd->cO,Array->dq,Int->ax,decide_eq_true_eq->bg,Option->az,cond_true->au,cond_false->ay,decide_eq_true->aG,decide_eq_false->aK,of_decide_eq_true->cm,congrArg->lI
namespace Go.FG
theorem pT{E:fU}{w:bK}{K:aE->Prop}{p:Pl}{xs:aQ}{el:aE}{te:TI}(ht:E.ty el=ah te)(hs:p.sz=te.ks.length)(mG:∀y∈xs,y.map CV.kd=te.ks)
  (h:jg w p xs (λ_ _ u x=>da E w K u x)) (hK:p.nil=ak->K p.blk):da E w K (lO p) (.l el xs):=by
 cases hq:p.nil with
 |true=>rw[nB hq,(h.nil hq).1];exact .nl _ _ _
 |false=>
  rw[e6 hq,h.n];obtain⟨vals,hb,Sj,hmx,_,hc⟩:=h.mem hq;have Iz:=λi y j x (h1:xs[i]? =ah y) (h2:y[j]? =ah x)=>hc i y j x h1 h2;refine .l el xs p.blk p.off p.cap te (λi j=>(vals[p.off+i*p.sz+j]?).getD undef) ht (by rw[<-h.n];exact Sj) hmx (hK hq) mG (λi j y x h1 h2=> ?_) (λi j y x h1 h2=> ?_)
  ·obtain⟨u,hu,_⟩:=Iz i y j x h1 h2;rw[hb.cell,<-hs,hu];rfl
  ·obtain⟨u,hu,hr⟩:=Iz i y j x h1 h2;simp only[hu,yI];exact hr
theorem yp{E:fU}{w:bK}{K:aE->Prop}{G:aE->aE->Pl}{i j:aE}{u:bj}{x:CV}(h:XC E w G i j u x)(hK:uj x=ai->(G i j).nil=ak->K (G i j).blk):da E w K u x:=by
 cases x with
 |l e ys=>obtain⟨rfl,t,ht,hp,hs,mG,gh⟩:=h;exact pT ht hs mG (gh.frame (λ_=>rfl) (λi j y x u hi hj hr=>kM (iq hp (mG y (aR hi)) hj) hr)) (hK rfl)
 |i=>exact kM rfl h
 |b=>exact kM rfl h
 |s=>exact kM rfl h
section
variable {P:cZ} {E:fU} {σ:St} {a:Act} {w:bK} {c:eZ} {o:fA} {nm:aE} {e:sO}
structure JS (E:fU) (σ:St) (w:bK) (c:eZ) (te:TI) (v:bj) (C5:aW) (xs:aQ) (b:aC aE) (p:Pl) (g:aE->aE->Pl):Prop where
 v:v=lO p
 sz:p.sz=te.ks.length
 sh:∀y∈xs,y.map CV.kd=te.ks
 at_:jg w p xs (λi j u x=>if C5=ai then XC E w g i j u x else da E w c.K u x)
 inn:C5=ai->Fh p g xs
 own:p.nil=ak->∃nm ob,nm∈b/\σ (c_ nm)= .o ob/\fN c nm ob p.blk
 owni:C5=ai->∀i j,gm xs i j->(g i j).nil=ak->∃nm ob,nm∈b/\σ (c_ nm)= .o ob/\fN c nm ob (g i j).blk
 kn:∀nm∈b,∃ob,σ (c_ nm)= .o ob
def K1(σ:St)(c:eZ)(D:aC (aE×Obj))(q:aE):Prop:=c.K q\/∃n e xs ob,(n,Obj.fV e xs)∈D/\σ (c_ n)= .o ob/\fN c n ob q
structure qU (E:fU) (σ:St) (w:bK) (c:eZ) (te:TI) (b:aC aE) (AE:aW) (ys:aQ) (D:aC (aE×Obj)) (news:aC bj) (gx:aE->aE->Pl):Prop where
 sh:∀y∈ys,y.map CV.kd=te.ks
 cellX:AE=ai->∀(i:aE) (y:aC CV) (j:aE) (x:CV),ys[i]? =ah y->y[j]? =ah x->∃u:bj,news[i*te.ks.length+j]? =ah u/\XC E w gx i j u x
 cellH:AE=ak->∀(i:aE) (y:aC CV) (j:aE) (x:CV),ys[i]? =ah y->y[j]? =ah x->∃u:bj,news[i*te.ks.length+j]? =ah u/\da E w (K1 σ c D) u x
 own:AE=ai->∀i j,gm ys i j->(gx i j).nil=ak->∃n ob,(n,Obj.dead)∈D/\σ (c_ n)= .o ob/\fN c n ob (gx i j).blk
 one:AE=ai->∀i j i' j',gm ys i j->gm ys i' j'->(gx i j).nil=ak->(gx i' j').nil=ak->(gx i j).blk=(gx i' j').blk->i=i'/\j=j'
 D:∀n x,(n,x)∈D->n∉b/\(∃ob,σ (c_ n)= .o ob)/\(x= .dead\/(AE=ak/\∃e xs,x= .fV e xs/\da E w (K1 σ c D) (lO (c.P n)) (.l e xs)/\(c.P n).n=xs.length/\∃ti,E.ty e=ah ti/\(c.P n).sz=ti.ks.length))
theorem Ew(cf:Ok E σ w c)(dJ:fC E σ a w c)(hd:∀d,o.dst=ah d->d<a.tmps.size){tz el:aE}{te:TI}(ht:E.ty el=ah te)(hf:σ (c_ tz)= .jX)(jm:tz<900000000)
  {v:bj} {C5 AE:aW} {xs ys:aQ} {b:aC aE} {p p':Pl} {g gx:aE->aE->Pl} {D2:aC (aE×Obj)} {news:aC bj} {w':bK}
  (hB:JS E σ w c te v C5 xs b p g) (hM:qU E σ w c te b AE ys D2 news gx) (hA:adu w w' p p' ys.length news) (hr:(execOp a.eval o).run P w= .ok (.value (lO p')) w'):
  gU P E σ a w c o (oc b++(ka D2++[(c_ tz,eO.o (.row el (C5&&AE) (xs++ys)))])++dw o (.v ak [.own tz])):=by
 have aeu:(C5&&AE)=ai->C5=ai/\AE=true:=λh=>by simpa using h
 generalize aet:(C5&&AE)=Oz at aeu;let D:aC (aE×Obj):=Ek b++(D2++[(tz, .row el Oz (xs++ys))])
 have hD:oc b++(ka D2++[(c_ tz,eO.o (.row el Oz (xs++ys)))])=ka D:=by rw[BU];simp only[D,ka,dh,fB,BD]
 rw[hD];have mem:∀m x,(m,x)∈D->(m∈b/\x= .dead)\/(m,x)∈D2\/(m=tz/\x= .row el Oz (xs++ys)):=by
  intro m x hm;rcases bc.1 hm with hm|hm
  ·obtain⟨q,hq,h⟩:=cX.1 hm;cases h;exact .inl ⟨hq,rfl⟩
  ·rcases bc.1 hm with hm|hm
   ·exact .inr (.inl hm)
   ·rw[a_]at hm;cases hm;exact .inr (.inr ⟨rfl,rfl⟩)
 have M5:∀m,m∈b->uE D m:=λm hm=>⟨.dead,bW _ (cX.2 ⟨m,hm,rfl⟩)⟩
 have Sb:∀m x,(m,x)∈D2->uE D m:=λm x hm=>⟨x,bP _ (bW _ hm)⟩
 have ail:uE D tz:=⟨_,bP _ (bP _ (a_.2 rfl))⟩
 have F1:p'.nil=ak->p'.blk=w.heap.size\/∃m ob,m∈b/\σ (c_ m)= .o ob/\fN c m ob p'.blk:=by
  intro hn;rcases hA.blk hn with ⟨h1,h2⟩|h
  ·rw[h2];exact .inr (hB.own h1)
  ·exact .inl h
 have Dne:∀n x ob q,(n,x)∈D2->σ (c_ n)= .o ob->fN c n ob q->¬(p'.nil=ak/\q=p'.blk):=by
  rintro n x ob q hx mS pN ⟨hn,rfl⟩;have W_:=wy.lt cf ⟨n,ob,mS,pN⟩;rcases F1 hn with h|⟨m,ob',h1,h2,h3⟩
  ·omega
  ·have:=cf.sep n ob m ob' _ mS h2 pN h3;subst this;exact(hM.D n x hx).1 h1
 have Kne:∀q,c.K q->¬(p'.nil=ak/\q=p'.blk):=by
  rintro q hq ⟨hn,rfl⟩;have W_:=cf.lt _ hq;rcases F1 hn with h|⟨m,ob',h1,h2,h3⟩
  ·omega
  ·exact cf.kk m ob' _ h2 h3 hq
 have Gne:C5=ai->∀i j,gm xs i j->(g i j).nil=ak->¬(p'.nil=ak/\(g i j).blk=p'.blk):=by
  rintro hx i j hh hn ⟨kF,he⟩;obtain⟨m,ob,q1,q2,q3⟩:=hB.owni hx i j hh hn;have W_:=wy.lt cf ⟨m,ob,q2,q3⟩;rcases hA.blk kF with ⟨h1,h2⟩|h
  ·exact(hB.inn hx).out i j hh hn h1 (he.trans h2)
  ·omega
 let K':aE->Prop:=λq=>c.K q\/(Oz=ak/\jZ (uE D) σ c q/\¬(p'.nil=ak/\q=p'.blk))
 have ah3:∀q,K' q->q<w.heap.size:=by
  rintro q (h|⟨_,h,_⟩)
  ·exact cf.lt q h
  ·exact wy.lt cf h.own
 have ah4:∀q,K' q->¬(p'.nil=ak/\q=p'.blk):=by
  rintro q (h|⟨_,_,h⟩)
  ·exact Kne q h
  ·exact h
 have F3:∀q,K' q->w'.heap[q]? =w.heap[q]? :=λq hq=>hA.old q (ah3 q hq) (λhn he=>ah4 q hq ⟨hn,he⟩);have F4:Oz=ak->∀q,K1 σ c D2 q->K' q:=by
  rintro hR q (h|⟨n,e',zs,ob,h1,h2,h3⟩)
  ·exact .inl h
  ·exact .inr ⟨hR,⟨n,ob,Sb n _ h1,h2,h3⟩,Dne n _ ob q h1 h2 h3⟩
 have F5:Oz=ak->C5=ai->∀i j,gm xs i j->(g i j).nil=ak->K' (g i j).blk:=by intro hR hx i j hh hn;obtain⟨m,ob,q1,q2,q3⟩:=hB.owni hx i j hh hn;exact .inr ⟨hR,⟨m,ob,M5 m q1,q2,q3⟩,Gne hx i j hh hn⟩
 have F6:Oz=ak->AE=ai->∀i j,gm ys i j->(gx i j).nil=ak->K' (gx i j).blk:=by intro hR hx i j hh hn;obtain⟨n,ob,q1,q2,q3⟩:=hM.own hx i j hh hn;exact .inr ⟨hR,⟨n,ob,Sb n _ q1,q2,q3⟩,Dne n _ ob _ q1 q2 q3⟩
 let G':aE->aE->Pl:=λi j=>if i<xs.length then g i j else gx (i-xs.length) j
 have G'l:∀i j,i<xs.length->G' i j=g i j:=λi j h=>bw h;have G'r:∀i j,¬i<xs.length->G' i j=gx (i-xs.length) j:=λi j h=>bG h;have Sz:∀i j,i<xs.length->gm (xs++ys) i j->gm xs i j:=by rintro i j hi ⟨y,x,h1,h2,h3⟩;rw[dF hi]at h1;exact⟨y,x,h1,h2,h3⟩
 have Xn:∀i j,¬i<xs.length->gm (xs++ys) i j->gm ys (i-xs.length) j:=by rintro i j hi ⟨y,x,h1,h2,h3⟩;rw[dc (by omega)]at h1;exact⟨y,x,h1,h2,h3⟩
 let c':eZ:=⟨λm=>if m=tz then p' else c.P m,λm=>if m=tz then G' else c.G m,K'⟩
 have hP:c'.P tz=p':=bw rfl;have hG:c'.G tz=G':=bw rfl;have hAg:jA σ c c':=λm hm=>by
  have:m≠tz:=by rintro rfl;rcases hm with h|h;exact h hf;omega
  exact⟨bG this,bG this⟩
 have aiY:Oz=ai->∀i j,gm (xs++ys) i j->(G' i j).nil=ak->¬(p'.nil=ak/\(G' i j).blk=p'.blk)/\jZ (uE D) σ c (G' i j).blk:=by
  intro hR i j hh hn;obtain⟨r1,r2⟩:=aeu hR;by_cases hi:i<xs.length
  ·rw[G'l i j hi]at hn⊢;obtain⟨m,ob,q1,q2,q3⟩:=hB.owni r1 i j (Sz i j hi hh) hn;exact⟨Gne r1 i j (Sz i j hi hh) hn,m,ob,M5 m q1,q2,q3⟩
  ·rw[G'r i j hi]at hn⊢;obtain⟨n,ob,q1,q2,q3⟩:=hM.own r2 _ j (Xn i j hi hh) hn;exact⟨Dne n _ ob _ q1 q2 q3,n,ob,Sb n _ q1,q2,q3⟩
 have hlen:∀y∈xs++ys,y.map CV.kd=te.ks:=λy hy=>(bc.1 hy).elim (hB.sh y) (hM.sh y);refine KE cf dJ hd (D:=D) (c':=c') (w':=w') hAg ?_ ?_ ?_ ?_ (λq h=> .inl h) ?_ (λq hq=>jt (ah3 q hq) hA.size) ?_ hA.size hA.os hA.tape hA.output ?_ ?_ hr
 ·intro m x hm;rcases mem m x hm with ⟨_,rfl⟩|W5|⟨rfl,rfl⟩
  ·trivial
  ·obtain⟨_,⟨ob,mS⟩,hx⟩:=hM.D m x W5;rcases hx with rfl|⟨VX,e',zs,rfl,q1,q2,q3⟩
   ·trivial
   ·have hR:Oz=false:=by rw[<-aet,VX];simp
    obtain⟨a1,a2⟩:=hAg m (.inl (by rw[mS];simp));show da E w' K' (lO (c'.P m)) _/\(c'.P m).n=_/\_;rw[a1];exact⟨q1.frame (λq hq=>F3 q (F4 hR q hq)) (F4 hR),q2,q3⟩
  ·refine⟨⟨te,ht,by rw[hP,hA.sz];exact hB.sz,hlen⟩, ?_,λhR=> ?_⟩
   ·rw[hP,hG];refine⟨by rw[hA.n,hB.at_.n,bV],λhn=> ?_,λhn=> ?_⟩
    ·obtain⟨n1,n2,n3⟩:=hA.nil hn;refine⟨?_,n1⟩
     have e1:xs.length=0:=by rw[<-hB.at_.n];exact n2
     rw[gg e1,gg n3];rfl
    ·obtain⟨i9,m1,m2,m3,m4,m5,m6⟩:=hA.mem hn;refine⟨i9,m1,m2,m3,m4,λi y j x hy hx=> ?_⟩
     have hj:j<te.ks.length:=by rw[<-hlen y (aR hy),bR];exact(aT.1 hx).1
     by_cases hi:i<xs.length
     ·rw[dF hi]at hy;have hpn:p.nil=false:=by
       cases hq:p.nil with
       |false=>rfl
       |true=>have:=(hB.at_.nil hq).1;subst this;simp at hi
      obtain⟨vals,k1,k2,k3,k4,k5⟩:=hB.at_.mem hpn;obtain⟨u,hu,hR⟩:=k5 i y j x hy hx;have hk:i*p.sz+j<p.n*p.sz:=by have:(i+1)*p.sz<=p.n*p.sz:=bZ _ (by rw[hB.at_.n];exact hi);rw[dp]at this;rw[hB.sz]at this⊢;omega
      refine⟨u, ?_, ?_⟩
      ·rw[hA.sz,lW];refine m5 _ u hk ?_;rw[k1.cell,<-lW];exact hu
      ·cases hxb:C5 with
       |true=>
        rw[hxb,bw rfl]at hR;cases Xi:Oz with
        |true=>
         rw[bw rfl];have VW:XC E w' g i j u x:=hR.frame (λhl kF=>hA.old _ (by obtain⟨m,ob,_,q2,q3⟩:=hB.owni hxb i j ⟨y,x,hy,hx,hl⟩ kF;exact wy.lt cf ⟨m,ob,q2,q3⟩) (λaeE he=>Gne hxb i j ⟨y,x,hy,hx,hl⟩ kF ⟨aeE,he⟩));cases x with
         |l e1 z1=>simpa only[XC,G'l i j hi]using VW
         |_=>exact VW
        |false=>rw[bG (by simp)];have:=yp (K:=K') hR (λhl kF=>F5 Xi hxb i j ⟨y,x,hy,hx,hl⟩ kF);exact this.frame F3 (λ_ h=>h)
       |false=>
        have Xi:Oz=false:=by rw[<-aet,hxb];rfl
        rw[hxb,bG (by simp)]at hR;rw[Xi,bG (by simp)];exact hR.frame (λq hq=>F3 q (.inl hq)) (λq hq=> .inl hq)
     ·rw[dc (by omega)]at hy;have IP:i-xs.length<ys.length:=(aT.1 hy).1;have hk:(i-xs.length)*p.sz+j<ys.length*p.sz:=by have:(i-xs.length+1)*p.sz<=ys.length*p.sz:=bZ _ IP;rw[dp]at this;rw[hB.sz]at this⊢;omega
      have arG:p'.off+i*p'.sz+j=p'.off+p.n*p.sz+((i-xs.length)*p.sz+j):=by
       rw[hA.sz,hB.at_.n];have:i*p.sz=xs.length*p.sz+(i-xs.length)*p.sz:=by rw[<-dp];congr 1;omega
       omega
      have got:∀u,news[(i-xs.length)*te.ks.length+j]? =ah u->i9[p'.off+i*p'.sz+j]? =ah u:=λu hu=>by rw[arG,m6 _ hk,hB.sz];exact hu
      cases VX:AE with
      |true=>
       obtain⟨u,hu,hX⟩:=hM.cellX VX _ y j x hy hx;refine⟨u,got u hu, ?_⟩
       cases Xi:Oz with
       |true=>
        rw[bw rfl];have VW:XC E w' gx (i-xs.length) j u x:=hX.frame (λhl kF=>hA.old _ (by obtain⟨n,ob,_,q2,q3⟩:=hM.own VX _ j ⟨y,x,hy,hx,hl⟩ kF;exact wy.lt cf ⟨n,ob,q2,q3⟩) (λaeE he=>by obtain⟨n,ob,q1,q2,q3⟩:=hM.own VX _ j ⟨y,x,hy,hx,hl⟩ kF;exact Dne n _ ob _ q1 q2 q3 ⟨aeE,he⟩));cases x with
        |l e1 z1=>simpa only[XC,G'r i j hi]using VW
        |_=>exact VW
       |false=>rw[bG (by simp)];have:=yp (K:=K') hX (λhl kF=>F6 Xi VX _ j ⟨y,x,hy,hx,hl⟩ kF);exact this.frame F3 (λ_ h=>h)
      |false=>
       have Xi:Oz=false:=by rw[<-aet,VX];simp
       obtain⟨u,hu,hH⟩:=hM.cellH VX _ y j x hy hx;refine⟨u,got u hu, ?_⟩
       rw[Xi,bG (by simp)];exact hH.frame (λq hq=>F3 q (F4 Xi q hq)) (F4 Xi)
   ·rw[hP,hG];refine⟨λi j hh hn hpn he=>(aiY hR i j hh hn).1 ⟨hpn,he⟩,λi j i' j' hh AG hn kF he=> ?_⟩
    obtain⟨r1,r2⟩:=aeu hR;have Z8:∀i j i' j',i<xs.length->¬i'<xs.length->gm (xs++ys) i j->gm (xs++ys) i' j'->(G' i j).nil=ak->(G' i' j').nil=ak->(G' i j).blk≠(G' i' j').blk:=by intro i j i' j' hi lZ hh AG hn kF he;rw[G'l i j hi]at hn he;rw[G'r i' j' lZ]at kF he;obtain⟨m,ob,q1,q2,q3⟩:=hB.owni r1 i j (Sz i j hi hh) hn;obtain⟨n,ob',s1,s2,s3⟩:=hM.own r2 _ j' (Xn i' j' lZ AG) kF;rw[he]at q3;have:=cf.sep m ob n ob' _ q2 s2 q3 s3;subst this;exact(hM.D m _ s1).1 q1
    by_cases hi:i<xs.length
    ·by_cases lZ:i'<xs.length
     ·rw[G'l i j hi]at hn he;rw[G'l i' j' lZ]at kF he;exact(hB.inn r1).one i j i' j' (Sz i j hi hh) (Sz i' j' lZ AG) hn kF he
     ·exact cO he (Z8 i j i' j' hi lZ hh AG hn kF)
    ·by_cases lZ:i'<xs.length
     ·exact cO he.symm (Z8 i' j' i j lZ hi AG hh kF hn)
     ·rw[G'r i j hi]at hn he;rw[G'r i' j' lZ]at kF he;have:=hM.one r2 _ j _ j' (Xn i j hi hh) (Xn i' j' lZ AG) hn kF he;exact⟨by omega,this.2⟩
 ·intro m x q hm pN;rcases mem m x hm with ⟨_,rfl⟩|W5|⟨rfl,rfl⟩
  ·exact pN.elim
  ·obtain⟨_,_,hx⟩:=hM.D m x W5;rcases hx with rfl|⟨_,e',zs,rfl,_⟩
   ·exact pN.elim
   ·exact pN.elim
  ·rcases pN with ⟨hn,rfl⟩|⟨hR,i,j,hh,hn,rfl⟩
   ·rw[hP]at hn⊢;refine⟨?_,λhk=>ah4 _ hk ⟨hn,rfl⟩⟩
    rcases F1 hn with h|⟨m,ob,h1,h2,h3⟩
    ·right;omega
    ·exact .inl ⟨m,ob,M5 m h1,h2,h3⟩
   ·rw[hG]at hn⊢;obtain⟨q1,q2⟩:=aiY hR i j hh hn;refine⟨.inl q2, ?_⟩
    rintro (h|⟨h,_⟩)
    ·exact cf.Ja q2.own h
    ·rw[hR]at h;cases h
 ·intro m x m' x' q hm w_ pN Sg;have only:∀m x,(m,x)∈D->fN c' m x q->m=tz:=by
   intro m x hm pN;rcases mem m x hm with ⟨_,rfl⟩|W5|⟨rfl,rfl⟩
   ·exact pN.elim
   ·obtain⟨_,_,hx⟩:=hM.D m x W5;rcases hx with rfl|⟨_,e',zs,rfl,_⟩
    ·exact pN.elim
    ·exact pN.elim
   ·rfl
  rw[only m x hm pN,only m' x' w_ Sg]
 ·intro m zs hm;rcases mem m _ hm with ⟨_,h⟩|W5|⟨_,h⟩
  ·cases h
  ·obtain⟨_,_,hx⟩:=hM.D m _ W5;rcases hx with h|⟨_,e',zs,h,_⟩<;>cases h
  ·cases h
 ·rintro q (h|⟨_,h,_⟩)
  ·exact .inl h
  ·exact .inr (.inl h)
 ·intro q hq W6;refine hA.old q hq (λhn he=>W6 ?_);rcases F1 hn with h|⟨m,ob,h1,h2,h3⟩
  ·omega
  ·rw[he];exact⟨m,ob,M5 m h1,h2,h3⟩
 ·show _=lO (c'.P tz);rw[hP]
 ·intro m hm;have:m=tz:=by simpa [cJ,bN]using hm
  subst this;exact .inr ail
end
end Go.FG

namespace Go.FG
theorem IZ:∀{l:aC aE} {n:aE},n∈l->mF n l=true:=by
 intro l;induction l with
 |nil=>intro n h;cases h
 |cons m r ih=>
  intro n h;rcases cu.1 h with rfl|h
  ·simp[mF]
  ·simp only[mF,ih h,JT]
theorem qe{l:aC aE}{n:aE}(h:mF n l=ak):n∉l:=λhm=>by rw[IZ hm]at h;cases h
theorem da.one{E:fU}{w:bK}{K:aE->Prop}{u:bj}{x:CV}(h:da E w K u x):u.oneCell'=true:=by cases h<;>rfl
theorem W4(p:Pl):(lO p).oneCell'=true:=by unfold lO;split<;>rfl
theorem XC.one{E:fU}{w:bK}{G:aE->aE->Pl}{i j:aE}{u:bj}{x:CV}(h:XC E w G i j u x):u.oneCell'=true:=by
 cases x with
 |l e ys=>rw[h.1];exact W4 _
 |i=>rw[show u=_ from h.1];rfl
 |b=>rw[show u=_ from h.1];rfl
 |s=>rw[show u=_ from h.1];rfl
theorem Jv{x:CV}:(PF x).oneCell'=true:=by cases x<;>rfl
theorem wO{α:Type}{b:aW}{x y:Rd α}(h:b=ai):(bif b then x else y)=x:=by rw[h];rfl
theorem Eh{α:Type}{b:aW}{x y:Rd α}(h:b=ak):(bif b then x else y)=y:=by rw[h];rfl
theorem sG{α β γ:Type}{σ:St}{a x:α}{b y:β}{c z:γ}(h:(Rd.ret (a,b,c)).val σ=ah (x,y,z)):a=x/\b=y/\c=z:=by obtain⟨h1,h2⟩:=bT (aJ h);obtain⟨h2,h3⟩:=bT h2;exact⟨h1,h2,h3⟩
section
variable {P:cZ} {E:fU} {σ:St} {a:Act} {w:bK} {c:eZ} {o:fA} {nm:aE} {e:sO}
theorem BP(cf:Ok E σ w c){el:aE}{te:TI}(ht:E.ty el=ah te){s:AV}{v:bj}(hs:eG E w c s v){C5:aW}{xs:aQ}{b:aC aE}(h:(wN el s).val σ=ah (C5,xs,b)):
  ∃p g,JS E σ w c te v C5 xs b p g:=by
 have ajs:∀b,(∀m∈b,∃ob,σ (c_ m)= .o ob)->v= .slice aj 0 0->∀C5,JS E σ w c te v C5 [] b ⟨ai,0,0,0,0,te.ks.length⟩ (K7 E te.ks):=λb hb hv C5=>
  ⟨hv,rfl,λy hy=>(by cases hy),⟨rfl,λ_=>⟨rfl,rfl⟩,λh=>(by cases h)⟩,λ_=>vV (λ_ _=>rfl),λh=>(by cases h),λ_ i j ⟨y,x,h,_⟩=>(by simp at h),hb⟩
 cases s with
 |nl=>obtain⟨rfl,rfl,rfl⟩:=sG h;exact⟨_,_,ajs [] (λm hm=>by cases hm) hs ai⟩
 |own n=>
  obtain⟨ob,hg,h⟩:=Rd.bind_some h;have hg:=dy hg;cases ob with
  |row e' ex ys=>obtain⟨h1,h9⟩:=cM h;have:=aU h1;subst this;have h:=h9;obtain⟨rfl,rfl,rfl⟩:=sG h;obtain⟨⟨t2,q1,q2,q3⟩,q4,q5⟩:=cf.obj n _ hg;obtain rfl:te=t2:=aJ (ht.symm.trans q1);exact⟨c.P n,c.G n,hs,q2,q3,q4,q5,λhn=>⟨n,_,by simp,hg, .inl ⟨hn,rfl⟩⟩,λhx i j hh hn=>⟨n,_,by simp,hg, .inr ⟨hx,i,j,hh,hn,rfl⟩⟩,λm hm=>by rw[a_]at hm;subst hm;exact⟨_,hg⟩⟩
  |_=>simp at h
 |vw n lo hi=>
  obtain⟨ob,hg,h⟩:=Rd.bind_some h;have hg:=dy hg;cases ob with
  |row e' ex ys=>
   obtain⟨h1,h9⟩:=cM h;have:=aU h1;subst this;have h:=h9;obtain⟨rfl,rfl,rfl⟩:=sG h;obtain⟨⟨t2,q1,q2,q3⟩,q4,q5⟩:=cf.obj n _ hg;obtain rfl:te=t2:=aJ (ht.symm.trans q1);obtain⟨v1,v2,v3,v4⟩:=hs;have hle:hi<=ys.length:=by rw[<-q4.n];exact v2
   have hvl:=mv (xs:=ys) (lo:=lo) hle;have hb:∀m∈[n],∃ob,σ (c_ m)= .o ob:=λm hm=>by rw[a_]at hm;subst hm;exact⟨_,hg⟩
   cases hq:(c.P n).nil with
   |true=>
    have hy:=(q4.nil hq).1;subst hy;have P6:eW ([]:aQ) lo hi=[]:=by unfold eW;simp
    rw[P6];exact⟨_,_,ajs [n] hb (v3 hq) ex⟩
   |false=>
    obtain⟨vals,k1,k2,k3,k4,k5⟩:=q4.mem hq;rcases v4 hq with ⟨u1,hv⟩|⟨u1,oo,u2,hv⟩
    ·have Xm:∀i j,gm (eW ys lo hi) i j->gm ys (lo+i) j:=by
      rintro i j ⟨y,x,h1,h2,h3⟩;rw[tQ]at h1;split at h1
      ·exact⟨y,x,h1,h2,h3⟩
      ·cases h1
     refine⟨⟨ak,(c.P n).blk,(c.P n).off+lo*(c.P n).sz,(c.P n).cap-lo,hi-lo,(c.P n).sz⟩,λi j=>c.G n (lo+i) j,hv,q2,λy hy=>q3 y (Ci hy),⟨hvl.symm,λh=>(by cases h),λ_=>⟨vals,k1,by show hi-lo<=(c.P n).cap-lo;omega,by show(c.P n).cap-lo<=maxLen;omega, ?_,λi y j x h1 h2=> ?_⟩⟩,λhx=>⟨λi j hh hn _=>(q5 hx).out _ j (Xm i j hh) hn hq,λi j i' j' hh AG hn kF he=> ?_⟩,λ_=>⟨n,_,by simp,hg, .inl ⟨hq,rfl⟩⟩,λhx i j hh hn=>⟨n,_,by simp,hg, .inr ⟨hx,lo+i,j,Xm i j hh,hn,rfl⟩⟩,hb⟩
     ·show(c.P n).off+lo*(c.P n).sz+((c.P n).cap-lo)*(c.P n).sz<=vals.size;have:lo*(c.P n).sz+((c.P n).cap-lo)*(c.P n).sz=(c.P n).cap*(c.P n).sz:=by rw[<-dp];congr 1;omega
      omega
     ·rw[tQ]at h1;split at h1
      ·obtain⟨u,hu,hr⟩:=k5 (lo+i) y j x h1 h2;refine⟨u, ?_, ?_⟩
       ·show vals[(c.P n).off+lo*(c.P n).sz+i*(c.P n).sz+j]? =ah u;rw[<-hu];congr 1;rw[dp];omega
       ·split at hr
        ·rename_i hx;rw[bw hx];cases x with
         |l e1 z1=>exact hr
         |_=>exact hr
        ·rename_i hx;rw[bG hx];exact hr
      ·cases h1
     ·have:=(q5 hx).one _ j _ j' (Xm i j hh) (Xm i' j' AG) hn kF he;exact⟨by omega,this.2⟩
    ·have h0:hi-lo=0:=by omega
     have P6:eW ys lo hi=[]:=gg (hvl.trans h0);rw[P6];exact⟨⟨ak,(c.P n).blk,oo,0,0,(c.P n).sz⟩,K7 E te.ks,hv,q2,λy hy=>(by cases hy),⟨rfl,λh=>(by cases h),λ_=>⟨vals,k1,cw _,bB _,by show oo+0*(c.P n).sz<=vals.size;rw[Nat.zero_mul];omega,λi y j x h=>(by simp at h)⟩⟩,λ_=>vV (λ_ _=>rfl),λ_=>⟨n,_,by simp,hg, .inl ⟨hq,rfl⟩⟩,λ_ i j ⟨y,x,h,_⟩=>(by simp at h),hb⟩
  |_=>simp at h
 |_=>simp[wN]at h
theorem rA{u:aE}(hu:(∃e',P.underlying u=ah (.slice e'))\/P.underlying u=ah .string){z:dq bj}{v:bj}{ys:aQ}{ks:aC Ck}(kZ:0<ks.length){R:aE->aE->bj->CV->Prop}(hs:oa w v ys ks.length R)(mG:∀y∈ys,y.map CV.kd=ks)(h1:∀i j u x,R i j u x->u.oneCell'=ai):
  ∃news,App P w u v z ks.length ys.length news/\∀(i:aE) (y:aC CV) (j:aE) (x:CV),ys[i]? =ah y->y[j]? =ah x->∃u:bj,news[i*ks.length+j]? =ah u/\R i j u x:=by
 have hl:∀y∈ys,y.length=ks.length:=λy hy=>by rw[<-mG y hy];simp
 obtain⟨A,cp,news,rfl,n1,n2,n3⟩:=hs.list hl;have first:∀W:bK,(∀q,W.cell? q=w.cell? q)->(fy ks.length ys.length (.slice A ys.length cp)).run P W= .ok news.toArray W:=by
  intro W hW;rcases n2 with h|⟨b,oo,rfl,h⟩
  ·subst h;have hn:news=[]:=gg (by rw[n1];simp);subst hn;cases A with
   |none=>exact run_firstCells_none _ _ _ _ _
   |some a=>exact run_firstCells_some W ks.length 0 a _ _ [] (by simp) (λj v hj=>by simp at hj)
  ·exact run_firstCells_some W ks.length ys.length _ _ _ news n1 (λj v hj=>by rw[hW,Addr.nV];exact h j v hj)
 refine⟨news,⟨.inl ⟨hu,by simp[pq],first w (λ_=>rfl),first w.drew (λ_=>rfl)⟩,n1,λv hv=> ?_⟩,n3⟩
 obtain⟨q,hq⟩:=bX hv;have W_:q<ys.length*ks.length:=by rw[<-n1];exact(aT.1 hq).1
 have hi:q/ks.length<ys.length:=by rw[yu kZ];exact W_
 have hj:q%ks.length<ys[q/ks.length].length:=by rw[hl _ (bA hi)];exact C4 _ kZ
 obtain⟨u',r_,hr⟩:=n3 (q/ks.length) ys[q/ks.length] (q%ks.length) (ys[q/ks.length][q%ks.length]) (by simp[hi]) (by simp[hj]);have:q/ks.length*ks.length+q%ks.length=q:=by have:=JG q ks.length;rw[D3]at this;exact this
 rw[this,hq]at r_;cases r_;exact h1 _ _ _ _ hr
theorem Tk(hE:eC P E)(cf:Ok E σ w c){tz el:aE}{te:TI}(ht:E.ty el=ah te)(kZ:0<te.ks.length){u:aE}(hu:(∃e',P.underlying u=ah (.slice e'))\/P.underlying u=ah .string){z:dq bj}{b:aC aE}{x:AV}{v:bj}(hx:eG E w c x v)
  {AE:aW} {ys:aQ} {w2:aC (aE×eO)} (h:(Tj E tz el te.ks b x).val σ=ah (AE,ys,w2)):
  ∃D news gx,w2=ka D/\App P w u v z te.ks.length ys.length news/\qU E σ w c te b AE ys D news gx:=by
 have inK:∀D q,c.K q->K1 σ c D q:=λD q h=> .inl h;have PL:plain te.ks=ai->∀ys,oa w v ys te.ks.length (λ_ _ u x=>Sc u x)->(∀y∈ys,y.map CV.kd=te.ks)->∃D news gx,([]:aC (aE×eO))=ka D/\App P w u v z te.ks.length ys.length news/\qU E σ w c te b ai ys D news gx:=by
  intro hp ys hs mG;obtain⟨news,n1,n2⟩:=rA (P:=P) (z:=z) hu kZ hs mG (λi j u x hr=>by rw[hr.1];exact Jv);refine⟨[],news,λ_ _=>⟨ai,0,0,0,0,0⟩,rfl,n1,mG,λ_ i y j x hy hx=> ?_,λh=>(by cases h),λ_ i j _ hn=>(by cases hn),λ_ i j _ _ _ _ hn=>(by cases hn),λn x hn=>(by cases hn)⟩
  obtain⟨u,hu,hr⟩:=n2 i y j x hy hx;exact⟨_,hu,uz (iq hp (mG y (aR hy)) hx) hr⟩
 have PLr:plain te.ks=ai->∀ys,(mz E x).val σ=ah (el,ys)->∃D news gx,([]:aC (aE×eO))=ka D/\App P w u v z te.ks.length ys.length news/\qU E σ w c te b ai ys D news gx:=by intro hp ys hr;obtain⟨q1,q2,_⟩:=z_ cf hx hr ht hp;exact PL hp ys q1 q2
 have SH:∀ys,oa w v ys te.ks.length (λ_ _ u x=>da E w c.K u x)->(∀y∈ys,y.map CV.kd=te.ks)->∃D news gx,([]:aC (aE×eO))=ka D/\App P w u v z te.ks.length ys.length news/\qU E σ w c te b ak ys D news gx:=by
  intro ys hs mG;obtain⟨news,n1,n2⟩:=rA (P:=P) (z:=z) hu kZ hs mG (λi j u x hr=>hr.one);refine⟨[],news,λ_ _=>⟨ai,0,0,0,0,0⟩,rfl,n1,mG,λh=>(by cases h),λ_ i y j x hy hx=> ?_,λh=>(by cases h),λh=>(by cases h),λn x hn=>(by cases hn)⟩
  obtain⟨u,hu,hr⟩:=n2 i y j x hy hx;exact⟨_,hu,hr.frame (λ_ _=>rfl) (inK [])⟩
 have SHv:∀ys,da E w c.K v (.l el ys)->∃D news gx,([]:aC (aE×eO))=ka D/\App P w u v z te.ks.length ys.length news/\qU E σ w c te b ak ys D news gx:=by intro ys hh;obtain⟨q1,q2⟩:=zF ht hh;exact SH ys q1 q2
 have HP:∀ys,da E w c.K v (.l el ys)->(mz E x).val σ=ah (el,ys)->∃D news gx,([]:aC (aE×eO))=ka D/\App P w u v z te.ks.length ys.length news/\qU E σ w c te b (plain te.ks) ys D news gx:=by
  intro ys hh hr;cases hp:plain te.ks with
  |true=>exact PLr hp ys hr
  |false=>exact SHv ys hh
 have FZ:∀n xs lo hi,σ (c_ n)= .o (.row el ai xs)->n∉b->wM (c.P n) lo hi v->∃D news gx,[(c_ n,eO.o (.fV el xs))]=ka D/\App P w u v z te.ks.length (eW xs lo hi).length news/\qU E σ w c te b ak (eW xs lo hi) D news gx:=by
  intro n xs lo hi hg KP hv;obtain⟨⟨t2,q1,q2,q3⟩,q4,q5⟩:=cf.obj n _ hg;obtain rfl:te=t2:=aJ (ht.symm.trans q1);obtain⟨t3,r1,r2,r3⟩:=xN cf hg hv;obtain rfl:te=t3:=aJ (ht.symm.trans r1);let D:aC (aE×Obj):=[(n, .fV el xs)]
  have kin:∀i j,gm xs i j->(c.G n i j).nil=ak->K1 σ c D (c.G n i j).blk:=λi j hh hn=> .inr ⟨n,el,xs,_,a_.2 rfl,hg, .inr ⟨rfl,i,j,hh,hn,rfl⟩⟩;have gh:jg w (c.P n) xs (λ_ _ u x=>da E w (K1 σ c D) u x):=q4.frame (λ_=>rfl) (λi j y x u hy hx hr=>by rw[bw rfl]at hr;exact yp hr (λhl hn=>kin i j ⟨y,x,hy,hx,hl⟩ hn));have DG:oa w v (eW xs lo hi) te.ks.length (λ_ _ u x=>da E w (K1 σ c D) u x):=by have:=LD gh hv;rwa[q2]at this
  obtain⟨news,n1,n2⟩:=rA (P:=P) (z:=z) hu kZ DG r2 (λi j u x hr=>hr.one);refine⟨D,news,λ_ _=>⟨ai,0,0,0,0,0⟩,rfl,n1,r2,λh=>(by cases h),λ_=>n2,λh=>(by cases h),λh=>(by cases h),λm y hm=> ?_⟩
  rw[a_]at hm;cases hm;exact⟨KP,⟨_,hg⟩, .inr ⟨rfl,el,xs,rfl,pT ht q2 q3 gh (λhn=> .inr ⟨n,el,xs,_,a_.2 rfl,hg, .inl ⟨hn,rfl⟩⟩),q4.n,te,ht,q2⟩⟩
 cases x with
 |s s=>
  obtain⟨h1,h⟩:=cM h;obtain⟨rfl,rfl,rfl⟩:=sG h;have hk:te.ks=[.i .u8]:=by
   unfold u8s at h1;split at h1
   ·assumption
   ·cases h1
  have hv:v= .string s:=hx.1;subst hv;refine⟨[],(s.data.map λb=>Value.int .u8 b.toNat).toList,λ_ _=>⟨ai,0,0,0,0,0⟩,rfl,⟨.inl ⟨hu, ?_, ?_, ?_⟩, ?_, ?_⟩,by rw[hk];exact Jl s,λ_ i y j x hy hx=> ?_,λh=>(by cases h),λ_ i j _ hn=>(by cases hn),λ_ i j _ _ _ _ hn=>(by cases hn),λn x hn=>(by cases hn)⟩
  ·simp[pq,l8]
  ·simp[fy,l8];apply si;simp
  ·simp[fy,l8];apply si;simp
  ·rw[hk,l8];simp
  ·intro v hv;have hv:∃b,b∈s.data/\Value.int ba (b.toNat:ax)=v:=by simpa using hv
   obtain⟨b,_,rfl⟩:=hv;rfl
  ·obtain⟨rfl,b,hb,rfl⟩:=G5 hy hx;refine⟨.int .u8 b.toNat, ?_,rfl,trivial⟩
   rw[hk];simp[hb]
 |nl=>obtain⟨rfl,rfl,rfl⟩:=sG h;have hv:v= .slice aj 0 0:=hx;subst hv;refine⟨[],[],λ_ _=>⟨ai,0,0,0,0,0⟩,rfl,⟨.inl ⟨hu,by simp[pq],run_firstCells_none _ _ _ _ _,run_firstCells_none _ _ _ _ _⟩,by simp,λv hv=>(by cases hv)⟩,λy hy=>(by cases hy),λ_ i y j x hy=>(by simp at hy),λh=>(by cases h),λ_ i j _ hn=>(by cases hn),λ_ i j _ _ _ _ hn=>(by cases hn),λn x hn=>(by cases hn)⟩
 |sh e' xs=>obtain⟨h1,h9⟩:=cM h;have:=aU h1;subst this;have h:=h9;obtain⟨rfl,rfl,rfl⟩:=sG h;exact HP xs hx rfl
 |own n=>
  obtain⟨ob,hg,h⟩:=Rd.bind_some h;have hg:=dy hg;have hv:v=lO (c.P n):=hx;cases ob with
  |row e' ex xs=>
   obtain⟨h1,h9⟩:=cM h;have:=aU h1;subst this;have h:=h9;have IL:(mz E (.own n)).val σ=ah (el,xs):=by simp[mz,jH,hg]
   have hvw:wM (c.P n) 0 xs.length v:=by rw[hv];exact v_ cf hg
   cases hp:plain te.ks with
   |true=>rw[wO (by rw[hp];rfl)]at h;obtain⟨rfl,rfl,rfl⟩:=sG h;rw[hp];exact PLr hp xs IL
   |false=>
    cases ex with
    |false=>rw[wO (by simp)]at h;obtain⟨rfl,rfl,rfl⟩:=sG h;rw[hp];obtain⟨t3,r1,r2,r3⟩:=xN cf hg hvw;obtain rfl:te=t3:=aJ (ht.symm.trans r1);rw[qH]at r2 r3;exact SH xs (r3.imp λi y j x u _ _ hr=>by simpa using hr) r2
    |true=>
     rw[Eh (by rw[hp];rfl)]at h;cases hm:mF n b with
     |true=>rw[hm]at h;simp at h
     |false=>
      have KP:=qe hm;rw[hm]at h;cases GL:E.tk tz with
      |true=>rw[GL]at h;obtain⟨rfl,rfl,rfl⟩:=sG h;have:=FZ n xs 0 xs.length hg KP hvw;rwa[qH]at this
      |false=>
       rw[GL]at h;obtain⟨rfl,rfl,rfl⟩:=sG h;obtain⟨t3,r1,r2,r3⟩:=xN cf hg hvw;obtain rfl:te=t3:=aJ (ht.symm.trans r1);rw[qH]at r2 r3;have r3':=r3.imp (R':=λi j u x=>XC E w (c.G n) i j u x) (λi y j x u _ _ hr=>by rw[bw rfl,bS]at hr;exact hr);obtain⟨news,n1,n2⟩:=rA (P:=P) (z:=z) hu kZ r3' r2 (λi j u x hr=>hr.one);refine⟨[(n, .dead)],news,c.G n,rfl,n1,r2,λ_=>n2,λh=>(by cases h),λ_ i j hh hn=>⟨n,_,a_.2 rfl,hg, .inr ⟨rfl,i,j,hh,hn,rfl⟩⟩,λ_=>((cf.obj n _ hg).inn rfl).one,λm y hm=> ?_⟩
       rw[a_]at hm;cases hm;exact⟨KP,⟨_,hg⟩, .inl rfl⟩
  |fV e' xs=>obtain⟨h1,h9⟩:=cM h;have:=aU h1;subst this;have h:=h9;obtain⟨rfl,rfl,rfl⟩:=sG h;refine HP xs ?_ (by simp[mz,jH,hg]);rw[hv];exact(cf.obj n _ hg).1
  |_=>simp at h
 |vw n lo hi=>
  obtain⟨ob,hg,h⟩:=Rd.bind_some h;have hg:=dy hg;cases ob with
  |row e' ex xs=>
   obtain⟨h1,h9⟩:=cM h;have:=aU h1;subst this;have h:=h9;have IL:(mz E (.vw n lo hi)).val σ=ah (el,eW xs lo hi):=by simp[mz,jH,hg]
   cases hp:plain te.ks with
   |true=>rw[wO (by rw[hp];rfl)]at h;obtain⟨rfl,rfl,rfl⟩:=sG h;rw[hp];exact PLr hp _ IL
   |false=>
    cases ex with
    |false=>rw[wO (by simp)]at h;obtain⟨rfl,rfl,rfl⟩:=sG h;rw[hp];obtain⟨t3,r1,r2,r3⟩:=xN cf hg hx;obtain rfl:te=t3:=aJ (ht.symm.trans r1);exact SH _ (r3.imp λi y j x u _ _ hr=>by simpa using hr) r2
    |true=>
     rw[Eh (by rw[hp];rfl)]at h;cases hm:mF n b with
     |true=>rw[hm]at h;simp at h
     |false=>
      have KP:=qe hm;rw[hm]at h;cases GL:E.tk tz with
      |true=>rw[GL]at h;obtain⟨rfl,rfl,rfl⟩:=sG h;exact FZ n xs lo hi hg KP hx
      |false=>rw[GL]at h;simp at h
  |fV e' xs=>obtain⟨h1,h9⟩:=cM h;have:=aU h1;subst this;have h:=h9;obtain⟨rfl,rfl,rfl⟩:=sG h;exact HP _ (pd cf hg hx) (by simp[mz,jH,hg])
  |_=>simp at h
 |inn n i j=>obtain⟨h1,h⟩:=cM h;obtain⟨⟨e',xs⟩,h2,h⟩:=Rd.bind_some h;obtain⟨h3,h9⟩:=cM h;have:=aU h3;subst this;have h:=h9;obtain⟨rfl,rfl,rfl⟩:=sG h;exact PLr h1 xs h2
 |_=>simp[Tj]at h
theorem Pb(hE:eC P E)(cf:Ok E σ w c)(dJ:fC E σ a w c)(hd:∀d,o.dst=ah d->d<a.tmps.size){cl:Call}(ho:o.op= .call cl)(hb:cl.callee= .builtin .append)(h:(l_ E nm o).val σ=ah e)(hc:e.cond=ai):gU P E σ a w c o e.ws:=by
 simp only[l_,ho,hb]at h;split at h
 ·rename_i s x t u rZ aeK;obtain⟨ku,h1,h⟩:=Rd.bind_some h;obtain⟨sv,h2,h⟩:=Rd.bind_some h;obtain⟨xv,h3,h⟩:=Rd.bind_some h;obtain⟨es,_⟩:=iX dJ h2;obtain⟨ex,_⟩:=iX dJ h3;have rZ:=CT rZ;have aeK:=CT aeK;have exec:∀{r w'},(iu #[t,u] o.type #[a.eval s,a.eval x]).run P w= .ok r w'->(execOp a.eval o).run P w= .ok (.value r) w':=by intro r w' hr;obtain⟨cs,Hz⟩:=mP (P:=P) (a:=a) (w:=w) ho hb;rw[Hz,rZ,aeK];simp only[builtin,Dg,fB,BD];exact iW hr
  have APP:((∃e',P.underlying u=ah (.slice e'))\/P.underlying u=ah .string)->∀b v wl,(Gh E nm t sv xv).val σ=ah (b,v,wl)->b=ai->gU P E σ a w c o (wl++dw o (.v ak [v])):=by
   intro hu b v wl h hbt;obtain⟨ti,k1,h⟩:=Rd.bind_some h;have k1:=dX k1;split at h
   ·rename_i el ui AH;obtain⟨te,k2,h⟩:=Rd.bind_some h;have k2:=dX k2;obtain⟨xA,h⟩:=cM h;obtain⟨⟨C5,xs,bl⟩,k3,h⟩:=Rd.bind_some h;obtain⟨⟨AE,ys,w2⟩,k4,h⟩:=Rd.bind_some h;obtain⟨_,k5,h⟩:=Rd.bind_some h;obtain⟨rfl,rfl,rfl⟩:=sG h;obtain⟨hf,jm⟩:=kE k5;have ht:=o7 hE k1 ui AH;obtain⟨inf,hi,gi,hby,kZ,hz⟩:=hE.info el te k2;obtain⟨z,JL,DI,_⟩:=hz xA;obtain⟨p,g,hB⟩:=BP cf k2 es k3;obtain⟨D,news,gx,rfl,hA,hM⟩:=Tk (P:=P) (z:=z.cells) hE cf k2 kZ hu ex k4;simp only[cg,aL,bg]at hbt;obtain⟨p',w',hr,hAd⟩:=tI (P:=P) (w:=w) (ty:=o.type) (p:=p) (x:=a.eval x) ht hi JL (by rw[DI,hB.sz];simp) (by rw[gi,hB.sz]) (λhn=>by rw[hB.at_.n,(hB.at_.nil hn).1];rfl) (λhn=>by obtain⟨vals,m1,m2,m3,m4,_⟩:=hB.at_.mem hn;exact⟨vals,m1,m2,m3,m4⟩) (by rw[hB.sz];exact hA) (by rw[hB.at_.n,hby];exact hbt.1) (by rw[hB.at_.n];exact hbt.2);rw[<-hB.v]at hr;exact Ew cf dJ hd k2 hf jm hB hM hAd (exec hr)
   ·simp at h
  have ZER:∀k,P.underlying u=ah (.int k)->∀(kn:nc) (n:ax),a.eval x= .int kn n->∀b v wl,(Vu E nm t sv n).val σ=ah (b,v,wl)->b=ai->gU P E σ a w c o (wl++dw o (.v ak [v])):=by
   intro k hu kn n hxn b v wl h hbt;obtain⟨ti,k1,h⟩:=Rd.bind_some h;have k1:=dX k1;split at h
   ·rename_i el ui AH;obtain⟨te,k2,h⟩:=Rd.bind_some h;have k2:=dX k2;obtain⟨P4,h⟩:=cM h;simp only[aL]at P4;obtain⟨xA,OP⟩:=P4;obtain⟨⟨C5,xs,bl⟩,k3,h⟩:=Rd.bind_some h;obtain⟨_,k5,h⟩:=Rd.bind_some h;obtain⟨rfl,rfl,rfl⟩:=sG h;obtain⟨hf,jm⟩:=kE k5;have ht:=o7 hE k1 ui AH;obtain⟨inf,hi,gi,hby,kZ,hz⟩:=hE.info el te k2;obtain⟨z,JL,DI,_⟩:=hz xA;obtain⟨p,g,hB⟩:=BP cf k2 es k3;simp only[cg,aL,bg]at hbt;obtain⟨⟨c0,c1,c2⟩,c3⟩:=hbt;have KU:(aN te.ks n.toNat).length=n.toNat:=by simp[aN]
    have hzc:fP z.cells n.toNat=madeCells (te.ks.map iJ).toArray (n.toNat*te.ks.length):=by rw[DI];show madeCells _ (n.toNat*(te.ks.map iJ).toArray.size)=_;simp
    have hA:App P w u (a.eval x) z.cells te.ks.length (aN te.ks n.toNat).length (fP z.cells n.toNat).toList:=by
     refine⟨.inr ⟨⟨k,hu⟩,⟨kn, ?_⟩, ?_⟩, ?_,λv hv=> ?_⟩
     ·rw[hxn,KU,Int.toNat_of_nonneg c0]
     ·rw[KU]
     ·rw[KU,dS,size_zeroCells,DI];simp
     ·rw[hzc]at hv;obtain⟨q,hq⟩:=bX hv;have W_:q<n.toNat*te.ks.length:=by have:=(aT.1 hq).1;simpa [size_madeCells]using this
      have h1:q/te.ks.length<n.toNat:=by rw[yu kZ];exact W_
      have h2:q%te.ks.length<te.ks.length:=C4 _ kZ;have:=lP (n:=n.toNat) h1 (show te.ks[q%te.ks.length]? =ah te.ks[q%te.ks.length]by simp[h2]);rw[show q/te.ks.length*te.ks.length+q%te.ks.length=q by have:=JG q te.ks.length;rw[D3]at this;exact this]at this;rw[cW,this]at hq;cases hq;cases te.ks[q%te.ks.length]<;>rfl
    have hM:qU E σ w c te bl ai (aN te.ks n.toNat) [] (fP z.cells n.toNat).toList (K7 E te.ks):=by
     refine⟨yq xA _,λ_ i y j x hy hx=> ?_,λh=>(by cases h),λ_ i j _ hn=>(by cases hn),λ_ i j _ _ _ _ hn=>(by cases hn),λn x hn=>(by cases hn)⟩
     obtain⟨gz,k,hk,rfl⟩:=uD hy hx;refine⟨iJ k, ?_,N9 OP xA hk⟩
     rw[hzc,cW];exact lP gz hk
    obtain⟨p',w',hr,hAd⟩:=tI (P:=P) (w:=w) (ty:=o.type) (p:=p) (x:=a.eval x) ht hi JL (by rw[DI,hB.sz];simp) (by rw[gi,hB.sz]) (λhn=>by rw[hB.at_.n,(hB.at_.nil hn).1];rfl) (λhn=>by obtain⟨vals,m1,m2,m3,m4,_⟩:=hB.at_.mem hn;exact⟨vals,m1,m2,m3,m4⟩) (by rw[hB.sz];exact hA) (by rw[hB.at_.n,hby,KU];exact c1) (by rw[hB.at_.n,KU];exact c2);rw[<-hB.v]at hr;have:=Ew cf dJ hd k2 hf jm hB hM hAd (exec hr);rw[jY]at this;exact this
   ·simp at h
  cases ku with
  |i k=>
   cases xv with
   |i k' n=>obtain⟨⟨b,v,wl⟩,h4,h⟩:=Rd.bind_some h;obtain rfl:=aJ h;exact ZER k (zp hE h1) k' n ex b v wl h4 hc
   |_=>simp at h
  |l e'=>obtain⟨⟨b,v,wl⟩,h4,h⟩:=Rd.bind_some h;obtain rfl:=aJ h;exact APP (.inl ⟨e',kH hE h1⟩) b v wl h4 hc
  |s=>obtain⟨⟨b,v,wl⟩,h4,h⟩:=Rd.bind_some h;obtain rfl:=aJ h;exact APP (.inr (la hE h1)) b v wl h4 hc
  |b=>simp at h
  |o=>simp at h
 ·simp at h
end
end Go.FG

namespace Go.FG
section
variable {P:cZ} {E:fU} {σ:St} {a:Act} {w:bK} {c:eZ} {o:fA} {nm:aE} {e:sO}
theorem WD:∀{xs:aC AV} {cs:aC CV},(RP.ad1 xs).val σ=ah cs->cs.length=xs.length/\∀(vals:dq bj),gb E w c vals xs->∀(q:aE) (x:CV),cs[q]? =ah x->∃u:bj,vals[q]? =ah u/\da E w c.K u x:=by
 intro xs;induction xs with
 |nil=>intro cs h;obtain rfl:=aJ h;exact⟨rfl,λ_ _ q x hq=>by simp at hq⟩
 |cons a xs ih=>
  intro cs h;obtain⟨l,h1,h⟩:=Rd.bind_some h;obtain⟨i1,i2⟩:=ih h1;have main:∀cv,(∀u,eG E w c a u->da E w c.K u cv)->cs=cv::l->cs.length=(a::xs).length/\∀(vals:dq bj),gb E w c vals (a::xs)->∀(q:aE) (x:CV),cs[q]? =ah x->∃u:bj,vals[q]? =ah u/\da E w c.K u x:=by
   rintro cv hcv rfl;refine⟨by simp[i1],λvals hv q x hq=> ?_⟩
   cases q with
   |zero=>cases hq;obtain⟨u,hu,ha⟩:=hv.2 0 a rfl;exact⟨u,hu,hcv u ha⟩
   |succ q=>
    have M_:gb E w c (vals.extract 1 vals.size) xs:=by
     refine⟨by simp;have:=hv.1;simp at this;omega,λj b hj=> ?_⟩
     obtain⟨u,hu,hb⟩:=hv.2 (j+1) b hj;refine⟨u, ?_,hb⟩
     have:=(dV.1 hu).1;rw[ea,bw (by omega),iZ];exact hu
    obtain⟨u,r1,r2⟩:=i2 _ M_ q x hq;refine⟨u, ?_,r2⟩
    rw[ea]at r1;split at r1
    ·rw[iZ];exact r1
    ·cases r1
  cases a with
  |i k n=>exact main (.i k n) (λu hu=>by rw[show u=_ from hu];exact .i _ _) (aJ h).symm
  |b x=>exact main (.b x) (λu hu=>by rw[show u=_ from hu];exact .b _) (aJ h).symm
  |s x=>exact main (.s x) (λu hu=>by rw[show u=_ from hu.1];exact .s _ hu.2) (aJ h).symm
  |sh e xs=>exact main (.l e xs) (λu hu=>hu) (aJ h).symm
  |_=>simp at h
def ahf(E:fU)(σ:St)(w:bK)(c:eZ)(D:aC (aE×Obj))(cs:aC CV)(v:bj):Prop:=
 ∃n,v= .pointer (ah (ad (c.P n).blk 0))/\(((n,Obj.nX cs)∈D)\/σ (c_ n)= .o (.nX cs))
theorem WE(cf:Ok E σ w c)(dJ:fC E σ a w c):∀{xs:aC dx} {l:aC (aC CV)} {ws:aC (aE×eO)},(RP xs).val σ=ah (l,ws)->l.length=xs.length/\∃D,ws=ka D/\
  (∀n x,(n,x)∈D->∃cs ys,x= .nX cs/\σ (c_ n)= .o (.box ys)/\∀(q:aE) (y:CV),cs[q]? =ah y->∃u:bj,w.cell? (ad (c.P n).blk q)=ah u/\da E w c.K u y)/\
  ∀(q:aE) (cs:aC CV),l[q]? =ah cs->∃x,xs[q]? =ah x/\ahf E σ w c D cs (a.eval x):=by
 intro xs;induction xs with
 |nil=>intro l ws h;obtain⟨rfl,rfl⟩:=bT (aJ h);exact⟨rfl,[],rfl,λn x h=>(by cases h),λq cs h=>by simp at h⟩
 |cons x xs ih=>
  intro l ws h;obtain⟨v,h1,h⟩:=Rd.bind_some h;have hv:=(iX dJ h1).1;split at h
  ·rename_i n;obtain⟨ob,hg,h⟩:=Rd.bind_some h;have hg:=dy hg;have hv:a.eval x= .pointer (ah (ad (c.P n).blk 0)):=hv;cases ob with
   |box ys=>
    obtain⟨cs,h2,h⟩:=Rd.bind_some h;obtain⟨⟨l',DR⟩,h3,h⟩:=Rd.bind_some h;obtain⟨rfl,rfl⟩:=bT (aJ h);obtain⟨i1,D,rfl,i2,i3⟩:=ih h3;obtain⟨_,c2⟩:=WD (E:=E) (w:=w) (c:=c) h2;obtain⟨vals,hb,gi,hcv⟩:=cf.obj n _ hg;refine⟨by simp[i1],(n, .nX cs)::D,rfl,λm y hm=> ?_,λq cs' hq=> ?_⟩
    ·rcases cu.1 hm with hm|hm
     ·cases hm;refine⟨cs,ys,rfl,hg,λq y hq=> ?_⟩
      obtain⟨u,hu,hh⟩:=c2 vals ⟨gi,hcv⟩ q y hq;exact⟨u,(hb.cell q).trans hu,hh⟩
     ·exact i2 m y hm
    ·cases q with
     |zero=>cases hq;exact⟨x,rfl,n,hv, .inl (dL ..)⟩
     |succ q=>obtain⟨x',py,m,e1,e2⟩:=i3 q cs' hq;exact⟨x',py,m,e1,e2.imp (c7 _) id⟩
   |nX cs=>
    obtain⟨⟨l',DR⟩,h3,h⟩:=Rd.bind_some h;obtain⟨rfl,rfl⟩:=bT (aJ h);obtain⟨i1,D,rfl,i2,i3⟩:=ih h3;refine⟨by simp[i1],D,rfl,i2,λq cs' hq=> ?_⟩
    cases q with
    |zero=>cases hq;exact⟨x,rfl,n,hv, .inr hg⟩
    |succ q=>exact i3 q cs' hq
   |_=>simp at h
  ·simp at h
theorem Jd(cf:Ok E σ w c)(dJ:fC E σ a w c)(hd:∀d,o.dst=ah d->d<a.tmps.size){fn:Fn}{first iQ:dq dx}(ho:o.op= .makeFunc fn first iQ)(h:(l_ E nm o).val σ=ah e):gU P E σ a w c o e.ws:=by
 cases fn with
 |func f=>
  simp only[l_,ho]at h;obtain⟨h1,h⟩:=cM h;obtain⟨⟨l,ws⟩,h2,h⟩:=Rd.bind_some h;obtain rfl:=aJ h;obtain⟨hl,D,rfl,hD,ON⟩:=WE cf dJ h2;have M6:first= #[]:=by simpa using h1
  let K':aE->Prop:=λb=>c.K b\/∃n x,(n,x)∈D/\b=(c.P n).blk;let c':eZ:=⟨c.P,c.G,K'⟩
  have kin:∀b,c.K b->K' b:=λb h=> .inl h;have own:∀n x,(n,x)∈D->jZ (uE D) σ c (c.P n).blk:=λn x hm=>by obtain⟨cs,ys,_,hg,_⟩:=hD n x hm;exact⟨n,_,⟨x,hm⟩,hg,rfl⟩
  have fb:∀n cs,(n,Obj.nX cs)∈D->FB E w K' (c.P n).blk cs:=λn cs hm=>by obtain⟨cs',ys,hx,hg,hc⟩:=hD n _ hm;cases hx;exact⟨.inr ⟨n,_,hm,rfl⟩,λq x hq=>by obtain⟨u,hu,hh⟩:=hc q x hq;exact⟨u,hu,hh.frame (λ_ _=>rfl) kin⟩⟩
  refine KE cf dJ hd (c':=c') (w':=w) (v:= .func (.func f) #[] (iQ.map a.eval)) (λm _=>⟨rfl,rfl⟩) ?_ ?_ ?_ ?_ kin ?_ ?_ (λb _ _=>rfl) (cw _) rfl rfl rfl ?_ ?_ ?_
  ·intro n x hm;obtain⟨cs,ys,rfl,hg,hc⟩:=hD n x hm;exact fb n cs hm
  ·intro n x b hm hf;obtain⟨cs,ys,rfl,_⟩:=hD n x hm;exact hf.elim
  ·intro n x n' x' b hm _ hf;obtain⟨cs,ys,rfl,_⟩:=hD n x hm;exact hf.elim
  ·intro n xs hm;obtain⟨cs,ys,hx,_⟩:=hD n _ hm;cases hx
  ·rintro b (h|⟨n,x,hm,rfl⟩)
   ·exact .inl h
   ·exact .inr (.inl (own n x hm))
  ·rintro b (h|⟨n,x,hm,rfl⟩)
   ·exact cf.lt b h
   ·exact wy.lt cf (own n x hm).own
  ·refine⟨iQ.map a.eval,rfl,by simp[hl],λq cs hq=> ?_⟩
   obtain⟨x,hx,n,hv,hor⟩:=ON q cs hq;rw[cW]at hx;refine⟨(c.P n).blk,by rw[Oa,hx,<-hv];rfl, ?_⟩
   rcases hor with hm|hg
   ·exact fb n cs hm
   ·exact FB.frame (cf.obj n _ hg) (λ_ _=>rfl) kin
  ·intro n hn;simp[cJ,bN]at hn
  ·unfold execOp;rw[ho,M6];refine iW (s:=Vy (.func f) ((#[]:dq dx).map a.eval) (iQ.map a.eval)) ?_;simp[Vy]
 |_=>simp[l_,ho]at h
end
end Go.FG

namespace Go.FG
theorem nO:∀{l:aC (aE×eO)} {k:aE} {c:eO},fO l k=c->c≠ .jX->(k,c)∈l:=by
 intro l;induction l with
 |nil=>intro k c h hc;exact cO h.symm hc
 |cons d l ih=>
  obtain⟨k',c'⟩:=d;intro k c h hc;unfold fO at h;cases hb:bD k k' with
  |true=>rw[hb]at h;have:=aU hb;subst this;have:c'=c:=h;subst this;exact dL ..
  |false=>rw[hb]at h;exact c7 _ (ih h hc)
theorem rQ:∀{l:aC (aE×eO)} {k:aE} {c:eO},(k,c)∈l->(∀d∈l,d.2≠ .jX)->fO l k≠ .jX:=by
 intro l;induction l with
 |nil=>intro k c h;cases h
 |cons d l ih=>
  obtain⟨k',c'⟩:=d;intro k c h hn;unfold fO;cases hb:bD k k' with
  |true=>exact hn _ (dL ..)
  |false=>
   rcases cu.1 h with h|h
   ·cases h;simp at hb
   ·exact ih h (λd hd=>hn d (c7 _ hd))
theorem O8{nm:aE}{a:AA}{k:aE}{c:eO}:(k,c)∈EC nm a↔∃e ex xs,a= .ow e ex xs/\k=c_ nm/\c= .o (.row e ex xs):=by
 cases a with
 |ow e ex xs=>simp only[EC,a_,jd];exact⟨λ⟨h1,h2⟩=>⟨e,ex,xs,rfl,h1,h2⟩,λ⟨e',uh,LO,h,h1,h2⟩=>by cases h;exact⟨h1,h2⟩⟩
 |_=>simp[EC]
theorem Cf:∀{xs:aC AA} {nm:aE} {k:aE} {c:eO},(k,c)∈tp nm xs↔∃j e ex ys,xs[j]? =ah (.ow e ex ys)/\k=c_ (nm+j)/\c= .o (.row e ex ys):=by
 intro xs;induction xs with
 |nil=>intro nm k c;simp[tp]
 |cons a xs ih=>
  intro nm k c;simp only[tp,bc,O8,ih];constructor
  ·rintro (⟨e,ex,ys,rfl,h1,h2⟩|⟨j,e,ex,ys,h0,h1,h2⟩)
   ·exact⟨0,e,ex,ys,rfl,h1,h2⟩
   ·exact⟨j+1,e,ex,ys,h0,by rw[h1];congr 1;omega,h2⟩
  ·rintro ⟨j,e,ex,ys,h0,h1,h2⟩;cases j with
   |zero=>cases h0;exact .inl ⟨e,ex,ys,rfl,h1,h2⟩
   |succ j=>exact .inr ⟨j,e,ex,ys,h0,by rw[h1];congr 1;omega,h2⟩
theorem iz{p:aE}{a:fa}{k:aE}{c:eO}:(k,c)∈vh p a↔(∃xs,a= .pt xs/\k=c_ (dU p 900)/\c= .o (.box (gA (dU p 0) xs)))\/∃xs j e ex ys,((∃g,a= .v g xs)\/a= .pt xs)/\xs[j]? =ah (.ow e ex ys)/\k=c_ (dU p j)/\c= .o (.row e ex ys):=by
 have hn:∀j,dU p 0+j=dU p j:=λj=>by unfold dU;omega
 cases a with
 |v g xs=>
  simp only[vh,Cf,hn];constructor
  ·rintro ⟨j,e,ex,ys,h⟩;exact .inr ⟨xs,j,e,ex,ys, .inl ⟨g,rfl⟩,h⟩
  ·rintro (⟨LO,h,_⟩|⟨LO,j,e,ex,ys,h,h'⟩)
   ·cases h
   ·rcases h with ⟨g',h⟩|h<;>cases h;exact⟨j,e,ex,ys,h'⟩
 |pt xs=>
  simp only[vh,cu,Cf,hn,jd];constructor
  ·rintro (⟨h1,h2⟩|⟨j,e,ex,ys,h⟩)
   ·exact .inl ⟨xs,rfl,h1,h2⟩
   ·exact .inr ⟨xs,j,e,ex,ys, .inr rfl,h⟩
  ·rintro (⟨LO,h,h1,h2⟩|⟨LO,j,e,ex,ys,h,h'⟩)
   ·cases h;exact .inl ⟨h1,h2⟩
   ·rcases h with ⟨g',h⟩|h<;>cases h;exact .inr ⟨j,e,ex,ys,h'⟩
 |fb xs=>
  simp only[vh,lL,false_iff];rintro (⟨LO,h,_⟩|⟨LO,j,e,ex,ys,h,h'⟩)
  ·cases h
  ·rcases h with ⟨g',h⟩|h<;>cases h
theorem lQ:∀{l:aC fa} {q:aE} {k:aE} {c:eO},(k,c)∈KV q l↔∃p a,l[p]? =ah a/\((k=qg (q+p)/\c= .v (tq (q+p) a))\/(k,c)∈vh (q+p) a):=by
 intro l;induction l with
 |nil=>intro q k c;simp[KV]
 |cons a l ih=>
  intro q k c;simp only[KV,cu,bc,ih,jd];constructor
  ·rintro ((⟨h1,h2⟩|h)|⟨p,b,h0,h⟩)
   ·exact⟨0,a,rfl, .inl ⟨h1,h2⟩⟩
   ·exact⟨0,a,rfl, .inr h⟩
   ·exact⟨p+1,b,h0,by rw[show q+(p+1)=q+1+p by omega];exact h⟩
  ·rintro ⟨p,b,h0,h⟩;cases p with
   |zero=>
    cases h0;rcases h with ⟨h1,h2⟩|h
    ·exact .inl (.inl ⟨h1,h2⟩)
    ·exact .inl (.inr h)
   |succ p=>exact .inr (⟨p,b,h0,by rw[show q+1+p=q+(p+1)by omega];exact h⟩)
theorem IQ{l:aC fa}{q:aE}:∀d∈KV q l,d.2≠ .jX:=by
 rintro ⟨k,c⟩ h;obtain⟨p,a,_,h⟩:=lQ.1 h;rcases h with ⟨_,h⟩|h
 ·rw[h];simp
 ·rcases iz.1 h with ⟨_,_,_,h⟩|⟨_,_,_,_,_,_,_,_,h⟩<;>rw[h]<;>simp
theorem Bd{args:aC fa}{m:aE}{ob:Obj}(h:inj args (c_ m)= .o ob):∃p a,args[p]? =ah a/\((∃xs,a= .pt xs/\m=dU p 900/\ob= .box (gA (dU p 0) xs))\/∃xs j e ex ys,((∃g,a= .v g xs)\/a= .pt xs)/\xs[j]? =ah (.ow e ex ys)/\m=dU p j/\ob= .row e ex ys):=by
 obtain⟨p,a,h0,h⟩:=lQ.1 (nO h (by simp));rw[bS]at h;refine⟨p,a,h0, ?_⟩
 rcases h with ⟨h,_⟩|h
 ·exact cO h (ml _ _)
 ·rcases iz.1 h with ⟨xs,h1,h2,h3⟩|⟨xs,j,e,ex,ys,h1,h2,h3,h4⟩
  ·cases h3;exact .inl ⟨xs,h1,jT h2,rfl⟩
  ·cases h4;exact .inr ⟨xs,j,e,ex,ys,h1,h2,jT h3,rfl⟩
theorem IV{args:aC fa}{n:aE}:(∃a,args[n]? =ah a/\slot (inj args) n=tq n a)\/slot (inj args) n= .un:=by
 unfold slot;cases h:inj args (qg n)with
 |v x=>
  obtain⟨p,a,h0,h⟩:=lQ.1 (nO h (by simp));rw[bS]at h;rcases h with ⟨h1,h2⟩|h
  ·have:=Ha h1;subst this;cases h2;exact .inl ⟨a,h0,rfl⟩
  ·rcases iz.1 h with ⟨_,_,h,_⟩|⟨_,_,_,_,_,_,_,h,_⟩<;>exact cO h (rO _ _)
 |o=>exact .inr rfl
 |jX=>exact .inr rfl
theorem qy{args:aC fa}{p:aE}{a:fa}(h:args[p]? =ah a):(∀xs,a= .pt xs->inj args (c_ (dU p 900))≠ .jX)/\∀xs j e ex ys,((∃g,a= .v g xs)\/a= .pt xs)->xs[j]? =ah (.ow e ex ys)->inj args (c_ (dU p j))≠ .jX:=by
 constructor
 ·intro xs hx;exact rQ (lQ.2 ⟨p,a,h, .inr (iz.2 (.inl ⟨xs,hx,by rw[bS],rfl⟩))⟩) IQ
 ·intro xs j e ex ys hx hj;exact rQ (lQ.2 ⟨p,a,h, .inr (iz.2 (.inr ⟨xs,j,e,ex,ys,hx,hj,by rw[bS],rfl⟩))⟩) IQ
theorem iB:∀{xs:aC AA} {nm j:aE},(gA nm xs)[j]? =(xs[j]?).map (lu (nm+j)):=by
 intro xs;induction xs with
 |nil=>intro nm j;simp[gA]
 |cons a xs ih=>
  intro nm j;cases j with
  |zero=>rfl
  |succ j=>simp only[gA,dO,ih];congr 2;omega
theorem iO:∀{xs:aC AA} {nm:aE},(gA nm xs).length=xs.length:=by
 intro xs;induction xs with
 |nil=>intro nm;rfl
 |cons a xs ih=>intro nm;simp[gA,ih]
theorem tw{nm:aE}{a:AA}{n:aE}(h:n∈bN (lu nm a)):n=nm/\∃e ex ys,a= .ow e ex ys:=by cases a<;>simp[lu,bN]at h;exact⟨h,_,_,_,rfl⟩
theorem IU{args:aC fa}(n:aE):mL (inj args) (slot (inj args) n):=by
 rcases IV (args:=args) (n:=n)with ⟨a,h0,h⟩|h
 ·rw[h];intro m hm;have cells:∀xs,((∃g,a= .v g xs)\/a= .pt xs)->m∈(gA (dU n 0) xs).flatMap bN->inj args (c_ m)≠ .jX:=by
   intro xs hx hm;obtain⟨v,hv,hm⟩:=bL.1 hm;obtain⟨j,hj⟩:=bX hv;rw[iB]at hj;cases hy:xs[j]? with
   |none=>rw[hy]at hj;cases hj
   |some y=>
    rw[hy]at hj;cases hj;obtain⟨rfl,e,ex,ys,rfl⟩:=tw hm;have:=(qy h0).2 xs j e ex ys hx hy;have hn:dU n 0+j=dU n j:=by unfold dU;omega
    rw[hn];exact this
  cases a with
  |v g xs=>exact cells xs (.inl ⟨g,rfl⟩) hm
  |pt xs=>
   have:m=dU n 900:=by simpa [tq,cJ,bN]using hm
   rw[this];exact(qy h0).1 xs rfl
  |fb xs=>simp[tq,cJ,bN]at hm
 ·rw[h];intro m hm;simp[cJ]at hm
theorem GM{args:aC fa}{nm:aE}{xs:aC AV}(h:inj args (c_ nm)= .o (.box xs)):∀a∈xs,jf (inj args) a:=by
 obtain⟨p,a,h0,hh⟩:=Bd h;rcases hh with ⟨ys,rfl,_,hb⟩|⟨_,_,_,_,_,_,_,_,hb⟩
 ·cases hb;intro v hv m hm;obtain⟨j,hj⟩:=bX hv;rw[iB]at hj;cases hy:ys[j]? with
  |none=>rw[hy]at hj;cases hj
  |some y=>
   rw[hy]at hj;cases hj;obtain⟨rfl,e,ex,zs,rfl⟩:=tw hm;have:=(qy h0).2 ys j e ex zs (.inr rfl) hy;have hn:dU p 0+j=dU p j:=by unfold dU;omega
   rw[hn];exact this
 ·cases hb
end Go.FG

namespace Go.FG
theorem uo{p j:aE}(h:j<1000):(dU p j-900000000)/1000=p/\(dU p j-900000000)%1000=j:=by unfold dU;omega
theorem Cp(p j:aE):900000000<=dU p j:=by unfold dU;omega
theorem uq{p j p' j':aE}(h:j<1000)(h':j'<1000)(e:dU p j=dU p' j'):p=p'/\j=j':=by unfold dU at e;omega
section
variable {P:cZ} {E:fU} {σ:St} {a:Act} {w:bK} {c:eZ} {o:fA} {nm:aE} {e:sO}
theorem rN(cf:Ok E σ w c){n el:aE}{ex:aW}{xs:aQ}(hg:σ (c_ n)= .o (.row el ex xs)){K:aE->Prop}(hK:∀b,c.K b->K b)(hF:∀b,fN c n (.row el ex xs) b->K b):da E w K (lO (c.P n)) (.l el xs):=by
 obtain⟨⟨t2,q1,q2,q3⟩,q4,q5⟩:=cf.obj n _ hg;refine pT q1 q2 q3 (q4.frame (λ_=>rfl) (λi j y x u hy hx hr=> ?_)) (λhn=>hF _ (.inl ⟨hn,rfl⟩));split at hr
 ·rename_i py;exact yp hr (λhl hn=>hF _ (.inr ⟨py,i,j,⟨y,x,hy,hx,hl⟩,hn,rfl⟩))
 ·exact hr.frame (λ_ _=>rfl) hK
theorem EY(cf:Ok E σ w c){n el:aE}{ex:aW}{xs:aQ}(hg:σ (c_ n)= .o (.row el ex xs)){K:aE->Prop}(hK:∀b,c.K b->K b)(hF:∀b,fN c n (.row el ex xs) b->K b){lo hi:aE}{v:bj}(hv:wM (c.P n) lo hi v):da E w K v (.l el (eW xs lo hi)):=by obtain⟨⟨t2,q1,q2,q3⟩,q4,q5⟩:=cf.obj n _ hg;exact IJ q1 (rN cf hg hK hF) q4.n q2 hv
def K1r(σ:St)(c:eZ)(nC:aC aE)(b:aE):Prop:=c.K b\/∃n∈nC,∃o,σ (c_ n)= .o o/\fN c n o b
def vF(T:Tab)(σ:St)(w:bK)(c:eZ)(nC:aC aE)(k:Pk)(u:bj):Prop:=
 match k.src with
 | .own nm e ex=>∃xs,σ (c_ nm)= .o (.row e ex xs)/\k.a= .ow e ex xs/\u=lO (c.P nm)
 | .no=>(∀c1:eZ,(∀b,K1r σ c nC b->c1.K b)->∀nm,eG T w c1 (lu nm k.a) u)/\∀e ex xs,k.a≠ .ow e ex xs
theorem vF.mono{T:Tab}{nC Ui:aC aE}{k:Pk}{u:bj}(h:vF T σ w c nC k u)(hs:∀n∈nC,n∈Ui):vF T σ w c Ui k u:=by
 unfold vF at h⊢;split
 ·rename_i hk;rw[hk]at h;exact h
 ·rename_i hk;rw[hk]at h;exact⟨λc1 h1=>h.1 c1 (λb hb=>h1 b (hb.imp id (λ⟨n,hn,hh⟩=>⟨n,hs n hn,hh⟩))),h.2⟩
theorem CA(cf:Ok E σ w c){mt:aW}{x:AV}{k:Pk}{u:bj}(h:(z5 E mt x).val σ=ah k)(hx:eG E w c x u):vF E σ w c k.rd k u:=by
 have rd:∀{n el:aE} {ex:aW} {xs:aQ},σ (c_ n)= .o (.row el ex xs)->∀c1:eZ,(∀b,K1r σ c [n] b->c1.K b)->(∀b,c.K b->c1.K b)/\∀b,fN c n (.row el ex xs) b->c1.K b:=λhg c1 h=>⟨λb hb=>h b (.inl hb),λb hb=>h b (.inr ⟨_,a_.2 rfl,_,hg,hb⟩)⟩
 cases x with
 |i=>obtain rfl:=aJ h;exact⟨λc1 _ _=>hx,λ_ _ _ hh=>by cases hh⟩
 |b=>obtain rfl:=aJ h;exact⟨λc1 _ _=>hx,λ_ _ _ hh=>by cases hh⟩
 |s=>obtain rfl:=aJ h;exact⟨λc1 _ _=>hx,λ_ _ _ hh=>by cases hh⟩
 |nl=>obtain rfl:=aJ h;exact⟨λc1 _ _=>hx,λ_ _ _ hh=>by cases hh⟩
 |sh e xs=>obtain rfl:=aJ h;exact⟨λc1 h1 _=>da.frame hx (λ_ _=>rfl) (λb hb=>h1 b (.inl hb)),λ_ _ _ hh=>by cases hh⟩
 |fn f iQ=>obtain rfl:=aJ h;exact⟨λc1 h1 _=>eG.frame (a:= .fn f iQ) hx (λ_ _=>rfl) (λb hb=>h1 b (.inl hb)) (λn hn=>by simp[bN]at hn),λ_ _ _ hh=>by cases hh⟩
 |own n=>
  obtain⟨ob,hg,h⟩:=Rd.bind_some h;have hg:=dy hg;have hx:u=lO (c.P n):=hx;cases ob with
  |row el ex xs=>
   cases mt with
   |true=>obtain rfl:=aJ h;exact⟨xs,hg,rfl,hx⟩
   |false=>
    obtain rfl:=aJ h;refine⟨λc1 h1 _=> ?_,λ_ _ _ hh=>by cases hh⟩
    obtain⟨r1,r2⟩:=rd hg c1 h1;rw[hx];exact rN cf hg r1 r2
  |fV el xs=>
   obtain rfl:=aJ h;refine⟨λc1 h1 _=> ?_,λ_ _ _ hh=>by cases hh⟩
   rw[hx];exact da.frame (cf.obj n _ hg).1 (λ_ _=>rfl) (λb hb=>h1 b (.inl hb))
  |_=>simp at h
 |vw n lo hi=>
  cases mt with
  |true=>simp[z5]at h
  |false=>
  obtain⟨ob,hg,h⟩:=Rd.bind_some h;have hg:=dy hg;cases ob with
  |row el ex xs=>
   obtain rfl:=aJ h;refine⟨λc1 h1 _=> ?_,λ_ _ _ hh=>by cases hh⟩
   obtain⟨r1,r2⟩:=rd hg c1 h1;exact EY cf hg r1 r2 hx
  |fV el xs=>
   obtain rfl:=aJ h;refine⟨λc1 h1 _=> ?_,λ_ _ _ hh=>by cases hh⟩
   exact da.frame (pd cf hg hx) (λ_ _=>rfl) (λb hb=>h1 b (.inl hb))
  |_=>simp at h
 |inn n i j=>
  obtain⟨ob,hg,h⟩:=Rd.bind_some h;have hg:=dy hg;cases ob with
  |row el ex xs=>
   cases ex with
   |false=>simp at h
   |true=>
   obtain⟨te,ht,h⟩:=Rd.bind_some h;have ht:=dX ht;split at h
   ·rename_i e2 zW;obtain⟨t2,GK,h⟩:=Rd.bind_some h;obtain⟨_,h⟩:=cM h;obtain rfl:=aJ h;obtain⟨⟨hi,hx⟩,_⟩:=hx;obtain⟨zs,y,t3,q1,q2,q3,q4,q5,q6,q7,q8⟩:=Be cf hg ht zW hi;refine⟨λc1 h1 _=> ?_,λ_ _ _ hh=>by cases hh⟩
    show da E w c1.K u (.l e2 (iR (ar xs i j)));rw[fD q1 q2,hx];obtain⟨r1,r2⟩:=rd hg c1 h1;exact pT q3 q5 q6 (q7.frame (λ_=>rfl) (λi' j' y' x' u' hy' py hr=>kM (iq q4 (q6 y' (aR hy')) py) hr)) (λhn=>r2 _ (.inr ⟨rfl,i,j,⟨y,_,q1,q2,rfl⟩,hn,rfl⟩))
   ·simp at h
  |_=>simp at h
 |_=>simp[z5]at h
theorem EN(cf:Ok E σ w c){mt:aW}:∀{xs:aC AV} {l:aC Pk},(CB E mt xs).val σ=ah l->l.length=xs.length/\∀(j:aE) (k:Pk),l[j]? =ah k->∃x,xs[j]? =ah x/\(z5 E mt x).val σ=ah k:=by
 intro xs;induction xs with
 |nil=>intro l h;obtain rfl:=aJ h;exact⟨rfl,λj k h=>by simp at h⟩
 |cons x xs ih=>
  intro l h;obtain⟨k,h1,h⟩:=Rd.bind_some h;obtain⟨l',h2,h⟩:=Rd.bind_some h;obtain rfl:=aJ h;obtain⟨i1,i2⟩:=ih h2;refine⟨by simp[i1],λj k' hj=> ?_⟩
  cases j with
  |zero=>cases hj;exact⟨x,rfl,h1⟩
  |succ j=>exact i2 j k' hj
structure Al (T:Tab) (σ:St) (w:bK) (c:eZ) (nC:aC aE) (pa:Pa) (v:bj):Prop where
 len:pa.cs.length<=100
 val:pa.box=aj->∃agg,pa.arg= .v agg (pa.cs.map (·.a))/\((agg=ak/\∃k,pa.cs=[k]/\vF T σ w c nC k v)\/(agg=ai/\∃vals:dq bj,v= .agg vals/\vals.size=pa.cs.length/\∀(j:aE) (k:Pk),pa.cs[j]? =ah k->∃u:bj,vals[j]? =ah u/\vF T σ w c nC k u))
 box:∀n xs,pa.box=ah (n,xs)->pa.arg= .pt (pa.cs.map (·.a))/\v= .pointer (ah (ad (c.P n).blk 0))/\σ (c_ n)= .o (.box xs)/\pa.cs.length=xs.length/\
  (∃vals,nQ w (c.P n).blk vals/\vals.size=xs.length/\∀(j:aE) (k:Pk),pa.cs[j]? =ah k->∃u:bj,vals[j]? =ah u/\vF T σ w c nC k u)/\
  ∀(j:aE) (k:Pk) (nm e:aE) (ex:aW),pa.cs[j]? =ah k->k.src= .own nm e ex->xs[j]? =ah (.own nm)
theorem GR{pa:Pa}{j:aE}{k:Pk}(h:pa.cs[j]? =ah k):∀n∈k.rd,n∈pa.nC:=λn hn=>bL.2 ⟨k,aR h,hn⟩
theorem Pm{mt:aW}{x:AV}{k:Pk}(h:(z5 E mt x).val σ=ah k){nm e:aE}{ex:aW}(hs:k.src= .own nm e ex):x= .own nm:=by
 cases x with
 |own n=>
  obtain⟨ob,hg,h⟩:=Rd.bind_some h;cases ob with
  |row el uh xs=>
   cases mt with
   |true=>obtain rfl:=aJ h;cases hs;rfl
   |false=>obtain rfl:=aJ h;cases hs
  |fV el xs=>obtain rfl:=aJ h;cases hs
  |_=>simp at h
 |vw n lo hi=>
  cases mt with
  |true=>simp[z5]at h
  |false=>
  obtain⟨ob,hg,h⟩:=Rd.bind_some h;cases ob with
  |row=>obtain rfl:=aJ h;cases hs
  |fV=>obtain rfl:=aJ h;cases hs
  |_=>simp at h
 |inn n i j=>
  obtain⟨ob,hg,h⟩:=Rd.bind_some h;cases ob with
  |row el ex xs=>
   cases ex with
   |false=>simp at h
   |true=>
   obtain⟨te,ht,h⟩:=Rd.bind_some h;split at h
   ·obtain⟨t2,GK,h⟩:=Rd.bind_some h;obtain⟨_,h⟩:=cM h;obtain rfl:=aJ h;cases hs
   ·simp at h
  |_=>simp at h
 |i=>obtain rfl:=aJ h;cases hs
 |b=>obtain rfl:=aJ h;cases hs
 |s=>obtain rfl:=aJ h;cases hs
 |nl=>obtain rfl:=aJ h;cases hs
 |sh=>obtain rfl:=aJ h;cases hs
 |fn=>obtain rfl:=aJ h;cases hs
 |_=>simp[z5]at h
theorem WA(cf:Ok E σ w c){mt:aW}{x:SV}{pa:Pa}{v:bj}(h:(adU E mt x).val σ=ah pa)(hl:pa.cs.length<=100)(hx:jh E w c x v):Al E σ w c pa.nC pa v:=by
 have gen:∀agg xs,x= .v agg xs->((CB E mt xs).bind λl=>Rd.ret (⟨.v agg (l.map (·.a)),aj,l⟩:Pa)).val σ=ah pa->Al E σ w c pa.nC pa v:=by
  rintro agg xs rfl h;obtain⟨l,h1,h⟩:=Rd.bind_some h;obtain rfl:=aJ h;obtain⟨i1,i2⟩:=EN cf h1;refine⟨hl,λ_=>⟨agg,rfl, ?_⟩,λn ys hb=>by cases hb⟩
  replace hx:qa E w c agg xs v:=hx;unfold qa at hx;split at hx
  ·rename_i y;left;obtain⟨k,rfl⟩:=gV.1 (i1.trans rfl);obtain⟨y',hy,hk⟩:=i2 0 k rfl;cases hy;exact⟨rfl,k,rfl,(CA cf hk hx).mono (GR (j:=0) (pa:=⟨.v ak ([k].map (·.a)),aj,[k]⟩) rfl)⟩
  ·obtain⟨vals,rfl,hs,hv⟩:=hx;right;refine⟨rfl,vals,rfl,by rw[hs];exact i1.symm,λj k hj=> ?_⟩
   obtain⟨y,hy,hk⟩:=i2 j k hj;obtain⟨u,hu,ha⟩:=hv j y hy;exact⟨u,hu,(CA cf hk ha).mono (GR (j:=j) (pa:=⟨.v ai (l.map (·.a)),aj,l⟩) hj)⟩
  ·exact hx.elim
 unfold adU at h;split at h
 ·rename_i n;obtain⟨_,h⟩:=cM h;obtain⟨ob,hg,h⟩:=Rd.bind_some h;have hg:=dy hg;cases ob with
  |box xs=>
   obtain⟨l,h1,h⟩:=Rd.bind_some h;obtain rfl:=aJ h;obtain⟨i1,i2⟩:=EN cf h1;obtain⟨vals,hb,hs,hv⟩:=cf.obj n _ hg;refine⟨hl,λhb=>(by cases hb),λm ys P3=> ?_⟩
   cases P3;refine⟨rfl,hx,hg,i1,⟨vals,hb,hs,λj k hj=> ?_⟩,λj k nm e ex hj DG=> ?_⟩
   ·obtain⟨y,hy,hk⟩:=i2 j k hj;obtain⟨u,hu,ha⟩:=hv j y hy;exact⟨u,hu,(CA cf hk ha).mono (GR (j:=j) (pa:=⟨.pt (l.map (·.a)),ah (n,xs),l⟩) hj)⟩
   ·obtain⟨y,hy,hk⟩:=i2 j k hj;rw[hy,Pm hk DG]
  |_=>simp at h
 ·rename_i agg xs _;exact gen _ _ rfl h
 ·simp at h
theorem Nn{T:Tab}{k:Ck}{y:AV}{u:bj}(h:eG T w c y u):eG T w c (YC k y) u:=by
 unfold YC;split
 ·rename_i e;have:u= .slice aj 0 0:=h;subst this;exact .nl _ _ _
 ·exact h
theorem I9:∀(ks:aC Ck) (xs:aC AV),(Co ks xs).length=xs.length
 |[],[]=>rfl
 |[],_::_=>rfl
 |_::_,[]=>rfl
 |k::ks,y::r=>by simp[Co,I9 ks r]
theorem Np{T:Tab}:∀(ks:aC Ck) (xs:aC AV) (j:aE) (y:AV),(Co ks xs)[j]? =ah y->∃z,xs[j]? =ah z/\∀u,eG T w c z u->eG T w c y u
 |[],xs,j,y,h=>⟨y,by simpa [Co]using h,λ_ h=>h⟩
 |_::_,[],j,y,h=>by simp[Co]at h
 |k::ks,x::r,0,y,h=>by
  simp only[Co,sj,jx]at h;subst h;exact⟨x,rfl,λu hu=>Nn hu⟩
 |k::ks,x::r,j+1,y,h=>by simp only[Co,dO]at h;exact Np ks r j y h
theorem aft{T:Tab}{t:az aE}{s:SV}{v:bj}(h:jh T w c s v):jh T w c (nlz T t s) v:=by
 unfold nlz;split
 ·exact h
 ·split
  ·rename_i ti g xs _;have h:qa T w c g xs v:=h;show qa T w c g (Co ti.ks xs) v;unfold qa at h;split at h
   ·rename_i y;cases hk:ti.ks with
    |nil=>exact h
    |cons k ks=>
     have e:∀z,Co (k::ks) [z]=[YC k z]:=λz=>by cases ks<;>rfl
     rw[e];exact Nn h
   ·obtain⟨vals,h1,h2,h3⟩:=h;refine⟨vals,h1,by rw[I9];exact h2,λj y hj=> ?_⟩
    obtain⟨z,hz,hy⟩:=Np (T:=T) (w:=w) (c:=c) ti.ks _ j y hj;obtain⟨u,hu,ha⟩:=h3 j z hz;exact⟨u,hu,hy u ha⟩
   ·cases h
  ·exact h
theorem RI(cf:Ok E σ w c)(dJ:fC E σ a w c){f:aE}{P_:az (aC aE)}:∀{xs:aC dx} {p:aE} {ps:aC Pa},(RH E f P_ p xs).val σ=ah ps->ps.length=xs.length/\∀(q:aE) (pa:Pa),ps[q]? =ah pa->∃x,xs[q]? =ah x/\Al E σ w c pa.nC pa (a.eval x):=by
 intro xs;induction xs with
 |nil=>intro p ps h;obtain rfl:=aJ h;exact⟨rfl,λq pa h=>by simp at h⟩
 |cons x xs ih=>
  intro p ps h;obtain⟨v,h1,h⟩:=Rd.bind_some h;obtain⟨pa,h2,h⟩:=Rd.bind_some h;obtain⟨hl,h⟩:=cM h;obtain⟨l,h3,h⟩:=Rd.bind_some h;obtain rfl:=aJ h;obtain⟨i1,i2⟩:=ih h3;refine⟨by simp[i1],λq pa' hq=> ?_⟩
  cases q with
  |zero=>
   cases hq;refine⟨x,rfl,WA cf h2 (cG hl) ?_⟩
   cases E.mode f p with
   |true=>exact(mm dJ h1).1
   |false=>exact aft (mm dJ h1).1
  |succ q=>exact i2 q pa' hq
theorem Al.mono{T:Tab}{nC Ui:aC aE}{pa:Pa}{v:bj}(h:Al T σ w c nC pa v)(hs:∀n∈nC,n∈Ui):Al T σ w c Ui pa v:=by
 refine⟨h.len,λhb=> ?_,λn xs hb=> ?_⟩
 ·obtain⟨agg,h1,h2⟩:=h.val hb;refine⟨agg,h1, ?_⟩
  rcases h2 with ⟨h3,k,h4,h5⟩|⟨h3,vals,h4,h5,h6⟩
  ·exact .inl ⟨h3,k,h4,h5.mono hs⟩
  ·exact .inr ⟨h3,vals,h4,h5,λj k hj=>by obtain⟨u,hu,hk⟩:=h6 j k hj;exact⟨u,hu,hk.mono hs⟩⟩
 ·obtain⟨h1,h2,h3,h4,⟨vals,h5,h6,h7⟩,h8⟩:=h.box n xs hb;exact⟨h1,h2,h3,h4,⟨vals,h5,h6,λj k hj=>by obtain⟨u,hu,hk⟩:=h7 j k hj;exact⟨u,hu,hk.mono hs⟩⟩,h8⟩
end
end Go.FG

namespace Go.FG
theorem lR{α:Type}{f:α->aC aE}:∀{l:aC α},(l.flatMap f).Nodup->(∀(i j:aE) (x y:α) (z:aE),l[i]? =ah x->l[j]? =ah y->z∈f x->z∈f y->i=j)/\∀x∈l,(f x).Nodup:=by
 intro l;induction l with
 |nil=>intro _;exact⟨λi j x y z h=>by simp at h,λx h=>by cases h⟩
 |cons a l ih=>
  intro h;rw[yG]at h;obtain⟨h1,h2,h3⟩:=eK.1 h;obtain⟨i1,i2⟩:=ih h2;refine⟨λi j x y z hi hj hx hy=> ?_,λx hx=> ?_⟩
  ·cases i with
   |zero=>
    cases hi;cases j with
    |zero=>rfl
    |succ j=>exact cO rfl (h3 z hx z (bL.2 ⟨y,aR hj,hy⟩))
   |succ i=>
    cases j with
    |zero=>cases hj;exact cO rfl (h3 z hy z (bL.2 ⟨x,aR hi,hx⟩))
    |succ j=>rw[i1 i j x y z hi hj hx hy]
  ·rcases cu.1 hx with rfl|hx
   ·exact h1
   ·exact i2 x hx
def loc(ps:aC Pa)(m:aE):az aE:=
 match ps[(m-900000000)/1000]? with
 |none=>aj
 |some pa=>if(m-900000000)%1000=900 then pa.box.map (·.1)else(pa.cs[(m-900000000)%1000]?).bind λk=>match k.src with| .own nm _ _=>ah nm| .no=>aj
theorem GP{ps:aC Pa}{p j:aE}{pa:Pa}{k:Pk}{nm e:aE}{ex:aW}(hp:ps[p]? =ah pa)(hj:pa.cs[j]? =ah k)(hs:k.src= .own nm e ex)(hl:j<900):loc ps (dU p j)=ah nm:=by obtain⟨h1,h2⟩:=uo (p:=p) (j:=j) (by omega);unfold loc;rw[h1,h2,hp];simp only;rw[bG (by omega),hj];simp only[Option.bind_some,hs]
theorem Bf{ps:aC Pa}{p n:aE}{pa:Pa}{xs:aC AV}(hp:ps[p]? =ah pa)(hb:pa.box=ah (n,xs)):loc ps (dU p 900)=ah n:=by obtain⟨h1,h2⟩:=uo (p:=p) (j:=900) (by omega);unfold loc;rw[h1,h2,hp];simp[hb]
def qv(σ:St)(c:eZ)(ps:aC Pa):eZ:=
 ⟨λm=>match loc ps m with|some n=>c.P n|none=>⟨ai,0,0,0,0,0⟩,λm=>match loc ps m with|some n=>c.G n|none=>λ_ _=>⟨ai,0,0,0,0,0⟩,K1r σ c (ps.flatMap (·.nC))⟩
theorem uf{σ:St}{c:eZ}{ps:aC Pa}{m n:aE}(h:loc ps m=ah n):(qv σ c ps).P m=c.P n/\(qv σ c ps).G m=c.G n:=by unfold qv;simp only[h];exact⟨trivial,trivial⟩
section
variable {P:cZ} {E:fU} {σ:St} {a:Act} {w:bK} {c:eZ} {o:fA} {nm:aE} {e:sO}
structure Handed (T:Tab) (σ:St) (w:bK) (c:eZ) (ps:aC Pa) (A7:aC (aC CV)) (vs:dq bj):Prop where
 size:vs.size=ps.length+A7.length
 at_:∀(q:aE) (pa:Pa),ps[q]? =ah pa->∃v,vs[q]? =ah v/\Al T σ w c (ps.flatMap (·.nC)) pa v
 fb:∀(q:aE) (cs:aC CV),A7[q]? =ah cs->∃b,vs[ps.length+q]? =ah (.pointer (ah (ad b 0)))/\FB T w c.K b cs
 nd:(ps.flatMap (·.um)).Nodup
 ap:∀n∈ps.flatMap (·.um),n∉ps.flatMap (·.nC)
def jG(ps:aC Pa)(A7:aC (aC CV)):aC fa:=ps.map (·.arg)++A7.map fa.fb
theorem vP{ps:aC Pa}{A7:aC (aC CV)}{p:aE}{x:fa}(h:(jG ps A7)[p]? =ah x):(∃pa,ps[p]? =ah pa/\x=pa.arg)\/(ps.length<=p/\∃cs,A7[p-ps.length]? =ah cs/\x= .fb cs):=by
 unfold jG at h;by_cases hp:p<ps.length
 ·rw[dF (by simpa using hp),bJ]at h;cases hq:ps[p]? with
  |none=>rw[hq]at h;cases h
  |some pa=>rw[hq]at h;cases h;exact .inl ⟨pa,rfl,rfl⟩
 ·rw[dc (by simp;omega),bJ,bR]at h;cases hq:A7[p-ps.length]? with
  |none=>rw[hq]at h;cases h
  |some cs=>rw[hq]at h;cases h;exact .inr ⟨by omega,cs,rfl,rfl⟩
theorem T8{T:Tab}{ps:aC Pa}{p j:aE}{pa:Pa}{k:Pk}{u:bj}(hp:ps[p]? =ah pa)(hj:pa.cs[j]? =ah k)(hl:j<900)(h:vF T σ w c (ps.flatMap (·.nC)) k u):eG T w (qv σ c ps) (lu (dU p j) k.a) u:=by
 unfold vF at h;split at h
 ·rename_i n e ex hs;obtain⟨xs,h1,h2,h3⟩:=h;rw[h2];show u=lO ((qv σ c ps).P (dU p j));rw[(uf (GP hp hj hs hl)).1];exact h3
 ·exact h.1 _ (λb hb=>hb) _
theorem T6{T:Tab}{nC:aC aE}{pa:Pa}{v:bj}(h:Al T σ w c nC pa v){xs:aC AA}(hx:(∃g,pa.arg= .v g xs)\/pa.arg= .pt xs):xs=pa.cs.map (·.a)/\∀(j:aE) (k:Pk),pa.cs[j]? =ah k->∃u,vF T σ w c nC k u:=by
 cases hb:pa.box with
 |none=>
  obtain⟨agg,h1,h2⟩:=h.val hb;rw[h1]at hx;have:xs=pa.cs.map (·.a):=by rcases hx with ⟨g,hx⟩|hx<;>cases hx;rfl
  refine⟨this,λj k hj=> ?_⟩
  rcases h2 with ⟨_,k',hk,hp⟩|⟨_,vals,_,_,hp⟩
  ·rw[hk]at hj;cases j with
   |zero=>cases hj;exact⟨_,hp⟩
   |succ j=>simp at hj
  ·obtain⟨u,_,hu⟩:=hp j k hj;exact⟨u,hu⟩
 |some nx=>
  obtain⟨n,ys⟩:=nx;obtain⟨h1,_,_,_,⟨vals,_,_,hp⟩,_⟩:=h.box n ys hb;rw[h1]at hx;have:xs=pa.cs.map (·.a):=by rcases hx with ⟨g,hx⟩|hx<;>cases hx;rfl
  exact⟨this,λj k hj=>by obtain⟨u,_,hu⟩:=hp j k hj;exact⟨u,hu⟩⟩
theorem xC(cf:Ok E σ w c){ps:aC Pa}{A7:aC (aC CV)}{vs:dq bj}(hh:Handed E σ w c ps A7 vs){m:aE}{ob:Obj}(h:inj (jG ps A7) (c_ m)= .o ob):
  ∃n o p pa,loc ps m=ah n/\ps[p]? =ah pa/\n∈pa.um/\σ (c_ n)= .o o/\pJ E w (qv σ c ps) m ob/\(∀b,fN (qv σ c ps) m ob b->fN c n o b)/\
   ((m=dU p 900/\∃xs,pa.box=ah (n,xs))\/∃j k e ex,m=dU p j/\j<900/\pa.cs[j]? =ah k/\k.src= .own n e ex):=by
 obtain⟨p,x,h0,h⟩:=Bd h;have auG:∀cs xs,x= .fb cs->¬((∃g,x= .v g xs)\/x= .pt xs):=by rintro cs xs rfl (⟨g,h⟩|h)<;>cases h
 rcases vP h0 with ⟨pa,hp,rfl⟩|⟨_,cs,_,hx⟩
 ·obtain⟨v,hv,KQ⟩:=hh.at_ p pa hp;rcases h with ⟨xs,hx,rfl,rfl⟩|⟨xs,j,e,ex,ys,hx,hj,rfl,rfl⟩
  ·cases hb:pa.box with
   |none=>obtain⟨agg,h1,_⟩:=KQ.val hb;rw[h1]at hx;cases hx
   |some nx=>
    obtain⟨n,zs⟩:=nx;obtain⟨h1,h2,h3,h4,⟨vals,h5,h6,h7⟩,_⟩:=KQ.box n zs hb;rw[h1]at hx;cases hx;have Si:=Bf hp hb;obtain⟨e1,e2⟩:=uf (σ:=σ) (c:=c) Si;refine⟨n,_,p,pa,Si,hp,by simp[Pa.um,hb],h3, ?_,λb hf=>by rw[show b=_ from hf,e1];rfl, .inl ⟨rfl,zs,hb⟩⟩
    refine⟨vals,by rw[e1];exact h5,by rw[iO,bR,h6];exact h4.symm,λj y hj=> ?_⟩
    rw[iB,bJ]at hj;cases hk:pa.cs[j]? with
    |none=>rw[hk]at hj;cases hj
    |some k=>
     rw[hk]at hj;cases hj;obtain⟨u,hu,W8⟩:=h7 j k hk;have jW:j<900:=by have:=(aT.1 hk).1;have:=KQ.len;omega
     refine⟨u,hu, ?_⟩
     have hn:dU p 0+j=dU p j:=by unfold dU;omega
     rw[hn];exact T8 hp hk jW W8
  ·obtain⟨hxs,W8⟩:=T6 KQ hx;rw[hxs,bJ]at hj;cases hk:pa.cs[j]? with
   |none=>rw[hk]at hj;cases hj
   |some k=>
    rw[hk]at hj;have hka:k.a= .ow e ex ys:=by simpa using hj
    obtain⟨u,hu⟩:=W8 j k hk;have jW:j<900:=by have:=(aT.1 hk).1;have:=KQ.len;omega
    unfold vF at hu;split at hu
    ·rename_i n e' uh hs;obtain⟨zs,q1,q2,q3⟩:=hu;rw[hka]at q2;cases q2;have Si:=GP hp hk hs jW;obtain⟨e1,e2⟩:=uf (σ:=σ) (c:=c) Si;refine⟨n,_,p,pa,Si,hp, ?_,q1, ?_,λb hf=>by rw[mi (c:=⟨λ_=>c.P n,λ_=>c.G n,c.K⟩) (c':=qv σ c ps) ⟨e1,e2⟩]at hf;exact hf, .inr ⟨j,k,e,ex,rfl,jW,hk,hs⟩⟩
     ·refine bP _ (bL.2 ⟨k,aR hk, ?_⟩);simp[Pk.um,hs]
     ·have mS:=cf.obj n _ q1;obtain⟨⟨t2,r1,r2,r3⟩,r4,r5⟩:=mS;refine⟨⟨t2,r1,by rw[e1];exact r2,r3⟩, ?_,λhx=>by rw[e1,e2];exact r5 hx⟩
      rw[e1,e2];refine r4.frame (λ_=>rfl) (λi j y x u hy hx hr=> ?_);split at hr
      ·rename_i py;rw[bw py];exact hr
      ·rename_i py;rw[bG py];exact hr.frame (λ_ _=>rfl) (λb hb=> .inl hb)
    ·exact cO hka (hu.2 _ _ _)
 ·rcases h with ⟨xs,h,_⟩|⟨xs,j,e,ex,ys,h,_⟩
  ·rw[hx]at h;cases h
  ·exact cO h (auG cs xs hx)
theorem enter(cf:Ok E σ w c){ps:aC Pa}{A7:aC (aC CV)}{vs:dq bj}(hh:Handed E σ w c ps A7 vs):
  Ok E (inj (jG ps A7)) w (qv σ c ps)/\(∀(p:aE) (x:fa),(jG ps A7)[p]? =ah x->∃v,vs[p]? =ah v/\jh E w (qv σ c ps) (tq p x) v)/\
  ∀b,wy (inj (jG ps A7)) (qv σ c ps) b->∃n∈ps.flatMap (·.um),∃o,σ (c_ n)= .o o/\fN c n o b:=by
 have I8:∀{p:aE} {pa:Pa} {n:aE},ps[p]? =ah pa->n∈pa.um->n∈ps.flatMap (·.um):=λhp hn=>bL.2 ⟨_,aR hp,hn⟩;obtain⟨nd1,nd2⟩:=lR hh.nd;refine⟨⟨λm ob h=> ?_,λm ob m' ob' b h h' hf vd=> ?_,λm ob b h hf hk=> ?_,λb hb=> ?_,λm xs h=>GM h⟩,λp x hx=> ?_, ?_⟩
 ·obtain⟨n,o,p,pa,_,_,_,_,h,_⟩:=xC cf hh h;exact h
 ·obtain⟨n,o,p,pa,_,hp,hn,ho,_,pN,kZ⟩:=xC cf hh h;obtain⟨n',o',p',pa',_,mE,kF,vg,_,Sg,aap⟩:=xC cf hh h';have:=cf.sep n o n' o' b ho vg (pN b hf) (Sg b vd);subst this;have:=nd1 p p' pa pa' n hp mE hn kF;subst this;rw[hp]at mE;cases mE;have ndm:=nd2 pa (aR hp);unfold Pa.um at ndm;obtain⟨_,m2,m3⟩:=eK.1 ndm;have aiX:∀(j:aE) (k:Pk) (e:aE) (ex:aW),pa.cs[j]? =ah k->k.src= .own n e ex->n∈pa.cs.flatMap (·.um):=λj k e ex hk hs=>bL.2 ⟨k,aR hk,by simp[Pk.um,hs]⟩;rcases kZ with ⟨rfl,xs,hb⟩|⟨j,k,e,ex,rfl,hj,hk,hs⟩
  ·rcases aap with ⟨rfl,_⟩|⟨j',k',e',uh,rfl,JK,vf,hs'⟩
   ·rfl
   ·exact cO rfl (m3 n (by simp[hb]) n (aiX _ _ _ _ vf hs'))
  ·rcases aap with ⟨rfl,xs,hb⟩|⟨j',k',e',uh,rfl,JK,vf,hs'⟩
   ·exact cO rfl (m3 n (by simp[hb]) n (aiX _ _ _ _ hk hs))
   ·have:=(lR m2).1 j j' k k' n hk vf (by simp[Pk.um,hs]) (by simp[Pk.um,hs']);rw[this]
 ·obtain⟨n,o,p,pa,_,hp,hn,ho,_,pN,_⟩:=xC cf hh h;rcases hk with hk|⟨n',kF,o',vg,vd⟩
  ·exact cf.kk n o b ho (pN b hf) hk
  ·have:=cf.sep n o n' o' b ho vg (pN b hf) vd;subst this;exact hh.ap n (I8 hp hn) kF
 ·rcases hb with hb|⟨n',kF,o',vg,vd⟩
  ·exact cf.lt b hb
  ·exact wy.lt cf ⟨n',o',vg,vd⟩
 ·rcases vP hx with ⟨pa,hp,rfl⟩|⟨hle,cs,Hz,rfl⟩
  ·obtain⟨v,hv,KQ⟩:=hh.at_ p pa hp;refine⟨v,hv, ?_⟩
   have small:∀{j:aE} {k:Pk},pa.cs[j]? =ah k->j<900:=λhj=>by have:=(aT.1 hj).1;have:=KQ.len;omega
   cases hb:pa.box with
   |none=>
    obtain⟨agg,h1,h2⟩:=KQ.val hb;rw[h1];rcases h2 with ⟨rfl,k,hk,W8⟩|⟨rfl,vals,rfl,hs,hc⟩
    ·rw[hk];have:=T8 (j:=0) hp (by rw[hk];rfl) (by omega) W8;exact this
    ·refine⟨vals,rfl,by rw[iO,bR];exact hs,λj y hj=> ?_⟩
     rw[iB,bJ]at hj;cases hk:pa.cs[j]? with
     |none=>rw[hk]at hj;cases hj
     |some k=>
      rw[hk]at hj;cases hj;obtain⟨u,hu,W8⟩:=hc j k hk;refine⟨u,hu, ?_⟩
      have hn:dU p 0+j=dU p j:=by unfold dU;omega
      rw[hn];exact T8 hp hk (small hk) W8
   |some nx=>obtain⟨n,zs⟩:=nx;obtain⟨h1,h2,_⟩:=KQ.box n zs hb;rw[h1];show v= .pointer (ah (ad ((qv σ c ps).P (dU p 900)).blk 0));rw[(uf (Bf hp hb)).1];exact h2
  ·obtain⟨b,hv,hf⟩:=hh.fb (p-ps.length) cs Hz;rw[show ps.length+(p-ps.length)=p by omega]at hv;exact⟨_,hv,b,rfl,hf.frame (λ_ _=>rfl) (λb hb=> .inl hb)⟩
 ·rintro b ⟨m,ob,h,hf⟩;obtain⟨n,o,p,pa,_,hp,hn,ho,_,pN,_⟩:=xC cf hh h;exact⟨n,I8 hp hn,o,ho,pN b hf⟩
end
end Go.FG

namespace Go.FG
def tD(p j:aE)(a:AA):AV:=match a with| .kp _=> .own (dU p j)|a=>lu (dU p (100+j)) a
def n5(p:aE):aE->aC AA->aC AV
 |_,[]=>[]|j,a::r=>tD p j a::n5 p (j+1) r
def Ji(p j:aE)(a b:AA):aC (aE×eO):=
 match b with
 | .kp ys=>(match a with| .ow e ex _=>[(c_ (dU p j), .o (.row e ex ys))]|_=>[])
 | .ow e ex ys=>[(c_ (dU p (100+j)), .o (.row e ex ys))]
 |_=>[]
def tE(p:aE):aE->aC AA->aC AA->aC (aE×eO)
 |_,_,[]=>[]|j,as,b::r=>Ji p j (as.headD .nl) b++tE p (j+1) as.tail r
def Cx(p:aE)(a:fa)(l:aC AA):aC (aE×eO):=
 match a with
 | .v _ xs=>tE p 0 xs l
 | .pt xs=>(c_ (dU p 900), .o (.box (n5 p 0 l)))::tE p 0 xs l
 | .fb _=>[]
def Le:aE->aC fa->aC (aC AA)->aC (aE×eO)
 |_,[],_=>[]|p,a::r,l=>Cx p a (l.headD [])++Le (p+1) r l.tail
def Ll:aE->aC fa->aC (aE×eO)
 |_,[]=>[]|q,a::r=>vh q a++Ll (q+1) r
def oe(args:aC fa)(r:dz):St:=fO (Ll 500 r.rs++Le 0 args r.outs)
def Gi(q:aE)(a:fa):aW×aC AV:=match a with| .v g xs=>(g,gA (dU q 0) xs)| .pt _=>(ak,[.bp (dU q 900) 0])| .fb xs=>(ak,[.fp xs 0])
def lx:aE->aC fa->aC (aW×aC AV)
 |_,[]=>[]|q,a::r=>Gi q a::lx (q+1) r
def Y0(rs:aC fa):SV:=sb (lx 500 rs)
def Rz(T:Tab)(args:aC fa)(r:dz)(c1:eZ)(w:bK)(v:bj)(w':bK):Prop:=
 ∃c3,Ok T (oe args r) w' c3/\oi (inj args) c1 w (oe args r) c3 w'/\(∀m,inj args (c_ m)≠ .jX->c3.P m=c1.P m/\c3.G m=c1.G m)/\jh T w' c3 (Y0 r.rs) v
def b7(P:cZ)(T:Tab)(g:aE)(spec:aC fa->az (aW×dz)):Prop:=
 ∀args r,spec args=ah (ai,r)->∀(w:bK) (c1:eZ) (vs:dq bj),Ok T (inj args) w c1->vs.size=args.length->(∀(p:aE) (x:fa),args[p]? =ah x->∃v,vs[p]? =ah v/\jh T w c1 (tq p x) v)->
  (∃fn,P.funcs[g]? =ah fn/\fn.body.isSome=ai/\(fn.name== "runtime.NumGoroutine")=ak)/\Calls P g vs w (λ| .returned v,w'=>Rz T args r c1 w v w'|_,_=>False)
abbrev Dc:=aE×az aE×Obj
def find(L:aC Dc)(m:aE):az aE:=
 match L with
 |[]=>aj
 |(n,t,_)::r=>if m=n then t else find r m
theorem Iv{L:aC Dc}{m x:aE}(h:find L m=ah x):∃ob,(m,ah x,ob)∈L:=by
 induction L with
 |nil=>cases h
 |cons d L ih=>
  obtain⟨n,t,ob⟩:=d;unfold find at h;split at h
  ·rename_i hm;subst hm;rw[h];exact⟨ob,dL ..⟩
  ·obtain⟨ob,h⟩:=ih h;exact⟨ob,c7 _ h⟩
theorem WU{L:aC Dc}{m:aE}{t:az aE}{ob:Obj}(h:(m,t,ob)∈L)(hn:(L.map (·.1)).Nodup):find L m=t:=by
 induction L with
 |nil=>cases h
 |cons d L ih=>
  obtain⟨n,t',ob'⟩:=d;rw[fB,kC]at hn;unfold find;rcases cu.1 h with h'|h'
  ·cases h';rw[bw rfl]
  ·have iw:m≠n:=λe=>hn.1 (cX.2 ⟨_,h',e⟩);rw[bG iw];exact ih h' hn.2
def lV(ok:aW)(L:aC Dc)(v v3:AV):Prop:=
 (v=v3/\match v with| .i _ _=>True| .b _=>True| .s _=>True| .nl=>True| .sh _ _=>ok=ai|_=>False)\/∃n x ob,v= .own n/\v3= .own x/\(n,ah x,ob)∈L
def Zr(L:aC Dc)(v v3:AV):Prop:=∃n x ob,v= .bp n 0/\v3= .bp x 0/\(n,ah x,ob)∈L
def nG(ok:aW)(L:aC Dc)(vs vs3:aC AV):Prop:=vs.length=vs3.length/\∀(j:aE) (v v3:AV),vs[j]? =ah v->vs3[j]? =ah v3->lV ok L v v3
def ArgRel(ok:aW)(L:aC Dc)(s s3:aW×aC AV):Prop:=s.1=s3.1/\s.2.length=s3.2.length/\∀(j:aE) (v v3:AV),s.2[j]? =ah v->s3.2[j]? =ah v3->lV ok L v v3\/Zr L v v3
def E2(ok:aW)(L:aC Dc)(s s3:aC (aW×aC AV)):Prop:=s.length=s3.length/\∀(j:aE) (x x3:aW×aC AV),s[j]? =ah x->s3[j]? =ah x3->ArgRel ok L x x3
structure Zz (σ σ3:St) (c c3:eZ) (ok:aW) (um:aC aE) (L:aC Dc) (n:aE) (t:az aE) (ob:Obj):Prop where
 old:σ (c_ n)≠ .jX->n∈um
 new:σ (c_ n)= .jX->n<900000000
 dead:t=aj->ob= .dead
 some_:∀x,t=ah x->(σ (c_ n)≠ .jX->c3.P x=c.P n/\c3.G x=c.G n)/\
  ((∃e ex ys,ob= .row e ex ys/\σ3 (c_ x)= .o (.row e ex ys)/\(ex=ai\/ok=ai))\/∃vs vs3,ob= .box vs/\σ3 (c_ x)= .o (.box vs3)/\nG ok L vs vs3)
section
variable {P:cZ} {E:fU} {σ:St} {a:Act} {w:bK} {c:eZ} {o:fA} {nm:aE} {e:sO}
theorem leave(cf:Ok E σ w c)(dJ:fC E σ a w c)(hd:∀d,o.dst=ah d->d<a.tmps.size){ps:aC Pa}{A7:aC (aC CV)}{vs:dq bj}(hh:Handed E σ w c ps A7 vs)
  {r:dz} {v:bj} {w':bK} {c3:eZ} (GI:Ok E (oe (jG ps A7) r) w' c3) (yv:oi (inj (jG ps A7)) (qv σ c ps) w (oe (jG ps A7) r) c3 w') (yw:jh E w' c3 (Y0 r.rs) v)
  {ok:aW} {L:aC Dc} {Fz:aC (aE×Obj)} (hL:∀n t ob,(n,t,ob)∈L->Zz σ (oe (jG ps A7) r) c c3 ok (ps.flatMap (·.um)) L n t ob) (II:(L.map (·.1)).Nodup)
  (arH:∀n n' x ob ob',(n,ah x,ob)∈L->(n',ah x,ob')∈L->n=n') (nN:∀n∈ps.flatMap (·.um),∃t ob,(n,t,ob)∈L)
  (hFz:∀n x,(n,x)∈Fz->ok=ai/\n∈ps.flatMap (·.nC)/\∃el ex xs,σ (c_ n)= .o (.row el ex xs)/\x= .fV el xs) (hFa:ok=ai->∀n∈ps.flatMap (·.nC),∃x,(n,x)∈Fz)
  {ss:aC (aW×aC AV)} (hss:E2 ok L ss (lx 500 r.rs)):
  ∃c',Ok E (wr σ (ka (Fz++L.map λt=>(t.1,t.2.2))++dw o (sb ss))) w' c'/\fC E (wr σ (ka (Fz++L.map λt=>(t.1,t.2.2))++dw o (sb ss))) (a.put o.dst v) w' c'/\oi σ c w (wr σ (ka (Fz++L.map λt=>(t.1,t.2.2))++dw o (sb ss))) c' w'/\jA σ c c':=by
 obtain⟨Sk,_,aiO⟩:=enter cf hh;let D:aC (aE×Obj):=Fz++L.map λt=>(t.1,t.2.2)
 have Tg:∀n x,(n,x)∈D->(n,x)∈Fz\/∃t,(n,t,x)∈L:=by
  intro n x hm;rcases bc.1 hm with h|h
  ·exact .inl h
  ·obtain⟨⟨n',t,ob⟩,h1,h2⟩:=cX.1 h;cases h2;exact .inr ⟨t,h1⟩
 have inD:∀n t ob,(n,t,ob)∈L->(n,ob)∈D:=λn t ob h=>bP _ (cX.2 ⟨_,h,rfl⟩);have auE:∀n,n∈ps.flatMap (·.um)->uE D n:=λn hn=>by obtain⟨t,ob,h⟩:=nN n hn;exact⟨ob,inD n t ob h⟩
 have Li:∀b,wy (inj (jG ps A7)) (qv σ c ps) b->jZ (uE D) σ c b:=λb hb=>by obtain⟨n,hn,ob,h1,h2⟩:=aiO b hb;exact⟨n,ob,auE n hn,h1,h2⟩
 let K':aE->Prop:=λb=>if ok=ai then c3.K b else c.K b
 let c':eZ:=⟨λm=>match find L m with|some x=>c3.P x|none=>c.P m,λm=>match find L m with|some x=>c3.G x|none=>c.G m,K'⟩
 have at_:∀n x ob,(n,ah x,ob)∈L->c'.P n=c3.P x/\c'.G n=c3.G x:=λn x ob h=>by have:=WU h II;simp only[c',this];exact⟨trivial,trivial⟩
 have ajq:∀n,find L n=aj->c'.P n=c.P n/\c'.G n=c.G n:=λn h=>by simp only[c',h];exact⟨trivial,trivial⟩
 have hA:jA σ c c':=by
  intro m hm;cases hf:find L m with
  |none=>exact ajq m hf
  |some x=>
   obtain⟨ob,hx⟩:=Iv hf;obtain⟨e1,e2⟩:=at_ m x ob hx;have he:=hL m _ ob hx;rw[e1,e2];by_cases hn:σ (c_ m)= .jX
   ·have:=he.new hn;rcases hm with h|h
    ·exact cO hn h
    ·omega
   ·exact(he.some_ x rfl).1 hn
 have Kok:ok=ai->∀b,K' b↔c3.K b:=λh b=>by simp only[K',h,if_true]
 have Kno:ok=ak->∀b,K' b↔c.K b:=λh b=>by simp only[K',h];simp
 have K13:∀b,(qv σ c ps).K b->c3.K b:=yv.K;have cK1:∀b,c.K b->(qv σ c ps).K b:=λb hb=> .inl hb;have hK:∀b,c.K b->K' b:=λb hb=>by
  cases h:ok with
  |true=>exact(Kok h b).2 (K13 b (cK1 b hb))
  |false=>exact(Kno h b).2 hb
 have VO:∀b,K' b->c.K b\/jZ (uE D) σ c b\/w.heap.size<=b:=λb hb=>by
  cases h:ok with
  |true=>
   rcases yv.kn b ((Kok h b).1 hb)with h1|h1|h1
   ·rcases h1 with h1|⟨n,hn,ob,h2,h3⟩
    ·exact .inl h1
    ·obtain⟨x,hx⟩:=hFa h n hn;exact .inr (.inl ⟨n,ob,⟨x,bW _ hx⟩,h2,h3⟩)
   ·exact .inr (.inl (Li b h1))
   ·exact .inr (.inr h1)
  |false=>exact .inl ((Kno h b).1 hb)
 have GD:∀b,K' b->b<w'.heap.size:=λb hb=>by
  cases h:ok with
  |true=>exact GI.lt b ((Kok h b).1 hb)
  |false=>exact jt (cf.lt b ((Kno h b).1 hb)) yv.size
 have R9:∀n x ob b,(n,ah x,ob)∈L->fN c' n ob b->∃o3,oe (jG ps A7) r (c_ x)= .o o3/\fN c3 x o3 b:=by
  intro n x ob b hm hf;obtain⟨e1,e2⟩:=at_ n x ob hm;rcases((hL n _ ob hm).some_ x rfl).2 with ⟨e,ex,ys,rfl,h3,_⟩|⟨us,us3,rfl,h3,_⟩
  ·refine⟨_,h3, ?_⟩
   simp only[fN,e1,e2]at hf⊢;exact hf
  ·refine⟨_,h3, ?_⟩
   simp only[fN,e1]at hf⊢;exact hf
 have RR:∀{v v3:AV} {u:bj},lV ok L v v3->eG E w' c3 v3 u->eG E w' c' v u/\∀n∈bN v,uE D n:=by
  rintro v v3 u (⟨rfl,h⟩|⟨n,x,ob,rfl,rfl,hm⟩) hu
  ·cases v with
   |sh e xs=>exact⟨da.frame hu (λ_ _=>rfl) (λb hb=>(Kok h b).2 hb),λn hn=>by simp[bN]at hn⟩
   |i=>exact⟨hu,λn hn=>by simp[bN]at hn⟩
   |b=>exact⟨hu,λn hn=>by simp[bN]at hn⟩
   |s=>exact⟨hu,λn hn=>by simp[bN]at hn⟩
   |nl=>exact⟨hu,λn hn=>by simp[bN]at hn⟩
   |_=>exact h.elim
  ·refine⟨?_,λm w_=> ?_⟩
   ·show u=lO (c'.P n);rw[(at_ n x ob hm).1];exact hu
   ·have:m=n:=by simpa [bN]using w_
    subst this;exact⟨ob,inD _ _ _ hm⟩
 have aq2:∀{v v3:AV} {u:bj},Zr L v v3->eG E w' c3 v3 u->eG E w' c' v u/\∀n∈bN v,uE D n:=by
  rintro v v3 u ⟨n,x,ob,rfl,rfl,hm⟩ hu;refine⟨?_,λm w_=> ?_⟩
  ·show u= .pointer (ah (ad (c'.P n).blk 0));rw[(at_ n x ob hm).1];exact hu
  ·have:m=n:=by simpa [bN]using w_
   subst this;exact⟨ob,inD _ _ _ hm⟩
 have Z5:∀{s s3:aW×aC AV} {u:bj},ArgRel ok L s s3->qa E w' c3 s3.1 s3.2 u->qa E w' c' s.1 s.2 u/\∀n∈s.2.flatMap bN,uE D n:=by
  rintro ⟨g,xs⟩ ⟨g3,xs3⟩ u ⟨h1,h2,h3⟩ hu;have h1:g=g3:=h1;subst h1;have one:∀(j:aE) (y:AV) (uu:bj),xs[j]? =ah y->(∀y3,xs3[j]? =ah y3->eG E w' c3 y3 uu)->eG E w' c' y uu/\∀n∈bN y,uE D n:=by
   intro j y uu hj hu3;have jW:j<xs3.length:=by rw[<-h2];exact(aT.1 hj).1
   have M4:=h3 j y xs3[j] hj (by simp[jW]);have r_:=hu3 xs3[j] (by simp[jW]);rcases M4 with h|h
   ·exact RR h r_
   ·exact aq2 h r_
  replace hu:qa E w' c3 g xs3 u:=hu;unfold qa at hu;split at hu
  ·rename_i y3;obtain⟨y,rfl⟩:=gV.1 (show xs.length=1 from h2);obtain⟨k1,k2⟩:=one 0 y u rfl (λy3' h=>by cases h;exact hu);exact⟨k1,λn hn=>k2 n (by simpa using hn)⟩
  ·obtain⟨vals,rfl,hs,hv⟩:=hu;have cell:∀(j:aE) (y:AV),xs[j]? =ah y->∃uu:bj,vals[j]? =ah uu/\eG E w' c' y uu/\∀n∈bN y,uE D n:=by
    intro j y hj;have jW:j<xs3.length:=by rw[<-h2];exact(aT.1 hj).1
    obtain⟨uu,hu,ha⟩:=hv j xs3[j] (by simp[jW]);obtain⟨k1,k2⟩:=one j y uu hj (λy3' h=>by simp[jW]at h;rw[<-h];exact ha);exact⟨uu,hu,k1,k2⟩
   refine⟨⟨vals,rfl,by rw[hs];exact h2.symm,λj y hj=> ?_⟩,λn hn=> ?_⟩
   ·obtain⟨uu,k1,k2,_⟩:=cell j y hj;exact⟨uu,k1,k2⟩
   ·obtain⟨y,hy,hn⟩:=bL.1 hn;obtain⟨j,hj⟩:=bX hy;obtain⟨uu,_,_,k3⟩:=cell j y hj;exact k3 n hn
  ·exact hu.elim
 have alO:jh E w' c' (sb ss) v/\∀n∈cJ (sb ss),uE D n:=by
  obtain⟨hl,hr⟩:=hss;have j9:∀(l l3:aC (aW×aC AV)),l=ss->l3=lx 500 r.rs->jh E w' c3 (.j9 l3) v->jh E w' c' (.j9 l) v/\∀n∈cJ (.j9 l),uE D n:=by
   rintro l l3 rfl rfl ⟨us,rfl,hs,hv⟩;have cell:∀(j:aE) (x:aW×aC AV),l[j]? =ah x->∃u:bj,us[j]? =ah u/\qa E w' c' x.1 x.2 u/\∀n∈x.2.flatMap bN,uE D n:=by
    intro j x hj;have jW:j<(lx 500 r.rs).length:=by rw[<-hl];exact(aT.1 hj).1
    have h3:(lx 500 r.rs)[j]? =ah ((lx 500 r.rs)[j].1,(lx 500 r.rs)[j].2):=by simp[jW]
    obtain⟨u,hu,ha⟩:=hv j _ _ h3;obtain⟨k1,k2⟩:=Z5 (hr j x _ hj h3) ha;exact⟨u,hu,k1,k2⟩
   refine⟨⟨us,rfl,by rw[hs];exact hl.symm,λj g xs hj=> ?_⟩,λn hn=> ?_⟩
   ·obtain⟨u,k1,k2,_⟩:=cell j (g,xs) hj;exact⟨u,k1,k2⟩
   ·obtain⟨x,hx,hn⟩:=bL.1 hn;obtain⟨j,hj⟩:=bX hx;obtain⟨u,_,_,k3⟩:=cell j x hj;exact k3 n hn
  unfold Y0 at yw;cases h3:lx 500 r.rs with
  |nil=>rw[h3]at yw hl;have:ss=[]:=gg hl;subst this;exact j9 [] [] rfl h3.symm yw
  |cons x l=>
   cases l with
   |nil=>obtain⟨g,xs⟩:=x;rw[h3]at yw hl;obtain⟨⟨g',LO⟩,rfl⟩:=gV.1 (show ss.length=1 from hl);exact Z5 (s3:=(g,xs)) (hr 0 _ _ rfl (by rw[h3];rfl)) yw
   |cons y l=>
    rw[h3]at yw hl;match ss,hl with
    |s1::s2::st,_=>exact j9 _ (x::y::l) rfl h3.symm yw
    |[_],hl=>simp at hl
    |[],hl=>simp at hl
 refine⟨c', ?_⟩
 have:=Ia cf dJ hd (D:=D) (s:=sb ss) (v:=v) (w':=w') (c':=c') hA ?_ ?_ ?_ ?_ hK VO GD ?_ yv.size yv.os yv.tape yv.output alO.1 (λn hn=> .inr (alO.2 n hn))
 ·exact⟨this.1,this.2.1,this.2.2,hA⟩
 ·intro n x hm;rcases Tg n x hm with hm|⟨t,hm⟩
  ·obtain⟨Sl,hn,el,ex,xs,hg,rfl⟩:=hFz n x hm;have aiL:find L n=none:=by
    cases hf:find L n with
    |none=>rfl
    |some x=>obtain⟨ob,hx⟩:=Iv hf;have:=(hL n _ ob hx).old (by rw[hg];simp);exact cO hn (hh.ap n this)
   obtain⟨e1,_⟩:=ajq n aiL;obtain⟨h1,h2,ti,h3,h4⟩:=lh cf hg;show da E w' K' (lO (c'.P n)) _/\(c'.P n).n=_/\_;rw[e1];refine⟨?_,h1,ti,h3,h4.1⟩
   have:=rN cf hg (K:=(qv σ c ps).K) cK1 (λb hb=> .inr ⟨n,hn,_,hg,hb⟩);exact this.frame (yv.ZC Sk) (λb hb=>(Kok Sl b).2 (K13 b hb))
  ·have he:=hL n t x hm;cases t with
   |none=>rw[he.dead rfl];trivial
   |some y=>
    obtain⟨e1,e2⟩:=at_ n y x hm;rcases(he.some_ y rfl).2 with ⟨el,ex,ys,rfl,h3,hor⟩|⟨us,us3,rfl,h3,hl,hc⟩
    ·obtain⟨⟨t2,r1,r2,r3⟩,r4,r5⟩:=GI.obj y _ h3;refine⟨⟨t2,r1,by rw[e1];exact r2,r3⟩, ?_,λhx=>by rw[e1,e2];exact r5 hx⟩
     rw[e1,e2];refine r4.frame (λ_=>rfl) (λi j yy xx u hy hx hr=> ?_);split at hr
     ·rename_i py;rw[bw py];exact hr
     ·rename_i py;rw[bG py];have Sl:=hor.resolve_left py;exact hr.frame (λ_ _=>rfl) (λb hb=>(Kok Sl b).2 hb)
    ·obtain⟨vals,hb,hs,hv⟩:=GI.obj y _ h3;refine⟨vals,by rw[e1];exact hb,by rw[hs];exact hl.symm,λj yy hj=> ?_⟩
     have jW:j<us3.length:=by rw[<-hl];exact(aT.1 hj).1
     obtain⟨u,hu,ha⟩:=hv j us3[j] (by simp[jW]);exact⟨u,hu,(RR (hc j yy us3[j] hj (by simp[jW])) ha).1⟩
 ·intro n x b hm hf;rcases Tg n x hm with hm|⟨t,hm⟩
  ·obtain⟨_,_,el,ex,xs,_,rfl⟩:=hFz n x hm;exact hf.elim
  ·cases t with
   |none=>rw[(hL n _ x hm).dead rfl]at hf;exact hf.elim
   |some y=>
    obtain⟨o3,h3,hf3⟩:=R9 n y x b hm hf;have vU:jZ (uE D) σ c b\/w.heap.size<=b:=(yv.own b ⟨y,o3,h3,hf3⟩).imp (Li b) id;refine⟨vU,λhk=> ?_⟩
    cases h:ok with
    |true=>exact GI.kk y o3 b h3 hf3 ((Kok h b).1 hk)
    |false=>
     have hk:=(Kno h b).1 hk;rcases vU with vU|vU
     ·exact cf.Ja vU.own hk
     ·have:=cf.lt b hk;omega
 ·intro n x n' x' b hm w_ hf vd;rcases Tg n x hm with hm|⟨t,hm⟩
  ·obtain⟨_,_,el,ex,xs,_,rfl⟩:=hFz n x hm;exact hf.elim
  ·rcases Tg n' x' w_ with w_|⟨t',w_⟩
   ·obtain⟨_,_,el,ex,xs,_,rfl⟩:=hFz n' x' w_;exact vd.elim
   ·cases t with
    |none=>rw[(hL n _ x hm).dead rfl]at hf;exact hf.elim
    |some y=>
     cases t' with
     |none=>rw[(hL n' _ x' w_).dead rfl]at vd;exact vd.elim
     |some y'=>obtain⟨o3,h3,hf3⟩:=R9 n y x b hm hf;obtain⟨o3',M4,arv⟩:=R9 n' y' x' b w_ vd;have:=GI.sep y o3 y' o3' b h3 M4 hf3 arv;subst this;exact arH n n' y x x' hm w_
 ·intro n xs hm y hy m hmm;rcases Tg n _ hm with hm|⟨t,hm⟩
  ·obtain⟨_,_,el,ex,zs,_,h⟩:=hFz n _ hm;cases h
  ·have he:=hL n t _ hm;cases t with
   |none=>have:=he.dead rfl;cases this
   |some z=>
    rcases(he.some_ z rfl).2 with ⟨el,ex,ys,h,_⟩|⟨us,us3,h,h3,hl,hc⟩
    ·cases h
    ·cases h;obtain⟨j,hj⟩:=bX hy;have jW:j<us3.length:=by rw[<-hl];exact(aT.1 hj).1
     rcases hc j y us3[j] hj (by simp[jW])with ⟨h1,h2⟩|⟨n',x',ob',h1,_,h2⟩
     ·exfalso;subst h1;cases h:us3[j]<;>rw[h]at hmm h2<;>first|(simp[bN]at hmm;done)|exact h2
     ·rw[h1]at hmm;have:m=n':=by simpa [bN]using hmm
      subst this;exact .inr ⟨ob',inD _ _ _ h2⟩
 ·intro b hb W6;exact yv.same b hb (λho=>W6 (Li b ho))
end
end Go.FG

namespace Go.FG
def LY(a:fa)(xs:aC AA):Prop:=(∃g,a= .v g xs)\/a= .pt xs
inductive Bq (args:aC fa) (r:dz):aE->eO->Prop
 |rb (q xs):r.rs[q]? =ah (.pt xs)->Bq args r (dU (500+q) 900) (.o (.box (gA (dU (500+q) 0) xs)))
 |rr (q a xs j e ex ys):r.rs[q]? =ah a->LY a xs->xs[j]? =ah (.ow e ex ys)->Bq args r (dU (500+q) j) (.o (.row e ex ys))
 |ob (p xs):args[p]? =ah (.pt xs)->Bq args r (dU p 900) (.o (.box (n5 p 0 (r.outs.getD p []))))
 |kp (p a xs j e ex z ys):args[p]? =ah a->LY a xs->xs[j]? =ah (.ow e ex z)->(r.outs.getD p [])[j]? =ah (.kp ys)->Bq args r (dU p j) (.o (.row e ex ys))
 |nw (p a xs j e ex ys):args[p]? =ah a->LY a xs->(r.outs.getD p [])[j]? =ah (.ow e ex ys)->Bq args r (dU p (100+j)) (.o (.row e ex ys))
theorem I7:∀{l:aC fa} {q:aE} {k:aE} {c:eO},(k,c)∈Ll q l↔∃i a,l[i]? =ah a/\(k,c)∈vh (q+i) a:=by
 intro l;induction l with
 |nil=>intro q k c;simp[Ll]
 |cons a l ih=>
  intro q k c;simp only[Ll,bc,ih];constructor
  ·rintro (h|⟨i,b,h0,h⟩)
   ·exact⟨0,a,rfl,h⟩
   ·exact⟨i+1,b,h0,by rw[show q+(i+1)=q+1+i by omega];exact h⟩
  ·rintro ⟨i,b,h0,h⟩;cases i with
   |zero=>cases h0;exact .inl h
   |succ i=>exact .inr ⟨i,b,h0,by rw[show q+1+i=q+(i+1)by omega];exact h⟩
theorem I6:∀{l:aC fa} {p:aE} {os:aC (aC AA)} {k:aE} {c:eO},(k,c)∈Le p l os↔∃i a,l[i]? =ah a/\(k,c)∈Cx (p+i) a (os.getD i []):=by
 intro l;induction l with
 |nil=>intro p os k c;simp[Le]
 |cons a l ih=>
  intro p os k c;have h0:os.headD []=os.getD 0 []:=by cases os<;>rfl
  have h1:∀i,os.tail.getD i []=os.getD (i+1) []:=λi=>by cases os<;>simp
  simp only[Le,bc,ih,h0,h1];constructor
  ·rintro (h|⟨i,b,hb,h⟩)
   ·exact⟨0,a,rfl,h⟩
   ·exact⟨i+1,b,hb,by rw[show p+(i+1)=p+1+i by omega];exact h⟩
  ·rintro ⟨i,b,hb,h⟩;cases i with
   |zero=>cases hb;exact .inl h
   |succ i=>exact .inr ⟨i,b,hb,by rw[show p+1+i=p+(i+1)by omega];exact h⟩
theorem zt{p j:aE}{a b:AA}{k:aE}{c:eO}:(k,c)∈Ji p j a b↔(∃e ex z ys,a= .ow e ex z/\b= .kp ys/\k=c_ (dU p j)/\c= .o (.row e ex ys))\/∃e ex ys,b= .ow e ex ys/\k=c_ (dU p (100+j))/\c= .o (.row e ex ys):=by
 cases b with
 |kp ys=>
  cases a with
  |ow e ex z=>
   constructor
   ·intro h;have h:=a_.1 h;cases h;exact .inl ⟨e,ex,z,ys,rfl,rfl,rfl,rfl⟩
   ·rintro (⟨e',uh,z',Da,h1,h2,h3,h4⟩|⟨_,_,_,h,_⟩)
    ·cases h1;cases h2;rw[h3,h4];exact a_.2 rfl
    ·cases h
  |_=>simp[Ji]
 |ow e ex ys=>
  constructor
  ·intro h;have h:=a_.1 h;cases h;exact .inr ⟨e,ex,ys,rfl,rfl,rfl⟩
  ·rintro (⟨_,_,_,_,_,h,_⟩|⟨e',uh,Da,h2,h3,h4⟩)
   ·cases h
   ·cases h2;rw[h3,h4];exact a_.2 rfl
 |_=>simp[Ji]
theorem K4{p:aE}:∀{l:aC AA} {j:aE} {as:aC AA} {k:aE} {c:eO},(k,c)∈tE p j as l↔∃i b,l[i]? =ah b/\(k,c)∈Ji p (j+i) (as.getD i .nl) b:=by
 intro l;induction l with
 |nil=>intro j as k c;simp[tE]
 |cons b l ih=>
  intro j as k c;have h0:as.headD .nl=as.getD 0 .nl:=by cases as<;>rfl
  have h1:∀i,as.tail.getD i .nl=as.getD (i+1) .nl:=λi=>by cases as<;>simp
  simp only[tE,bc,ih,h0,h1];constructor
  ·rintro (h|⟨i,b',hb,h⟩)
   ·exact⟨0,b,rfl,h⟩
   ·exact⟨i+1,b',hb,by rw[show j+(i+1)=j+1+i by omega];exact h⟩
  ·rintro ⟨i,b',hb,h⟩;cases i with
   |zero=>cases hb;exact .inl h
   |succ i=>exact .inr ⟨i,b',hb,by rw[show j+1+i=j+(i+1)by omega];exact h⟩
theorem GA{xs:aC AA}{i e:aE}{ex:aW}{z:aQ}:xs.getD i .nl= .ow e ex z↔xs[i]? =ah (.ow e ex z):=by
 rw[cY];cases h:xs[i]? with
 |none=>simp
 |some x=>simp
theorem qA{p:aE}{a:fa}{l:aC AA}{k:aE}{c:eO}:(k,c)∈Cx p a l↔(∃xs,a= .pt xs/\k=c_ (dU p 900)/\c= .o (.box (n5 p 0 l)))\/∃xs,LY a xs/\((∃j e ex z ys,xs[j]? =ah (.ow e ex z)/\l[j]? =ah (.kp ys)/\k=c_ (dU p j)/\c= .o (.row e ex ys))\/∃j e ex ys,l[j]? =ah (.ow e ex ys)/\k=c_ (dU p (100+j))/\c= .o (.row e ex ys)):=by
 have cells:∀xs,(k,c)∈tE p 0 xs l↔((∃j e ex z ys,xs[j]? =ah (.ow e ex z)/\l[j]? =ah (.kp ys)/\k=c_ (dU p j)/\c= .o (.row e ex ys))\/∃j e ex ys,l[j]? =ah (.ow e ex ys)/\k=c_ (dU p (100+j))/\c= .o (.row e ex ys)):=by
  intro xs;rw[K4];constructor
  ·rintro ⟨i,b,hb,h⟩;rw[bS]at h;rcases zt.1 h with ⟨e,ex,z,ys,h1,rfl,h2,h3⟩|⟨e,ex,ys,rfl,h2,h3⟩
   ·exact .inl ⟨i,e,ex,z,ys,GA.1 h1,hb,h2,h3⟩
   ·exact .inr ⟨i,e,ex,ys,hb,h2,h3⟩
  ·rintro (⟨i,e,ex,z,ys,h1,hb,h2,h3⟩|⟨i,e,ex,ys,hb,h2,h3⟩)
   ·exact⟨i,_,hb,zt.2 (.inl ⟨e,ex,z,ys,GA.2 h1,rfl,by rw[bS];exact h2,h3⟩)⟩
   ·exact⟨i,_,hb,zt.2 (.inr ⟨e,ex,ys,rfl,by rw[bS];exact h2,h3⟩)⟩
 cases a with
 |v g xs=>
  simp only[Cx,cells];constructor
  ·intro h;exact .inr ⟨xs, .inl ⟨g,rfl⟩,h⟩
  ·rintro (⟨ys,h,_⟩|⟨ys,h|h,h'⟩)
   ·cases h
   ·obtain⟨g',h⟩:=h;cases h;exact h'
   ·cases h
 |pt xs=>
  simp only[Cx,cu,cells,jd];constructor
  ·rintro (⟨h1,h2⟩|h)
   ·exact .inl ⟨xs,rfl,h1,h2⟩
   ·exact .inr ⟨xs, .inr rfl,h⟩
  ·rintro (⟨ys,h,h1,h2⟩|⟨ys,h|h,h'⟩)
   ·exact .inl ⟨h1,h2⟩
   ·obtain⟨g',h⟩:=h;cases h
   ·cases h;exact .inr h'
 |fb xs=>
  simp only[Cx,lL,false_iff];rintro (⟨ys,h,_⟩|⟨ys,h|h,_⟩)
  ·cases h
  ·obtain⟨g',h⟩:=h;cases h
  ·cases h
theorem wU{args:aC fa}{r:dz}{m:aE}{c:eO}:(c_ m,c)∈Ll 500 r.rs++Le 0 args r.outs↔Bq args r m c:=by
 rw[bc,I7,I6];constructor
 ·rintro (⟨q,a,h0,h⟩|⟨p,a,h0,h⟩)
  ·rcases iz.1 h with ⟨xs,rfl,h1,rfl⟩|⟨xs,j,e,ex,ys,hx,hj,h1,rfl⟩
   ·rw[jT h1];exact .rb q xs h0
   ·rw[jT h1];exact .rr q a xs j e ex ys h0 hx hj
  ·rw[bS]at h;rcases qA.1 h with ⟨xs,rfl,h1,rfl⟩|⟨xs,hx,⟨j,e,ex,z,ys,h2,h3,h1,rfl⟩|⟨j,e,ex,ys,h3,h1,rfl⟩⟩
   ·rw[jT h1];exact .ob p xs h0
   ·rw[jT h1];exact .kp p a xs j e ex z ys h0 hx h2 h3
   ·rw[jT h1];exact .nw p a xs j e ex ys h0 hx h3
 ·intro h;cases h with
  |rb q xs h0=>exact .inl ⟨q,_,h0,iz.2 (.inl ⟨xs,rfl,rfl,rfl⟩)⟩
  |rr q a xs j e ex ys h0 hx hj=>exact .inl ⟨q,a,h0,iz.2 (.inr ⟨xs,j,e,ex,ys,hx,hj,rfl,rfl⟩)⟩
  |ob p xs h0=>exact .inr ⟨p,_,h0,qA.2 (.inl ⟨xs,rfl,by rw[bS],by rw[bS]⟩)⟩
  |kp p a xs j e ex z ys h0 hx h2 h3=>exact .inr ⟨p,a,h0,qA.2 (.inr ⟨xs,hx, .inl ⟨j,e,ex,z,ys,h2,h3,by rw[bS],rfl⟩⟩)⟩
  |nw p a xs j e ex ys h0 hx h3=>exact .inr ⟨p,a,h0,qA.2 (.inr ⟨xs,hx, .inr ⟨j,e,ex,ys,h3,by rw[bS],rfl⟩⟩)⟩
def Y2:az AA->az eO
 |some (.ow e ex ys)=>ah (.o (.row e ex ys))|_=>aj
def kpC(a b:az AA):az eO:=
 match a,b with|some (.ow e ex _),ah (.kp ys)=>ah (.o (.row e ex ys))|_,_=>aj
def RF:fa->aC AA| .v _ xs=>xs| .pt xs=>xs| .fb _=>[]
theorem LY.eq{a:fa}{xs:aC AA}(h:LY a xs):RF a=xs:=by rcases h with ⟨g,rfl⟩|rfl<;>rfl
def Eo(args:aC fa)(r:dz)(P J:aE):az eO:=
 if 500<=P then(match r.rs[P-500]? with
  |some a=>if J=900 then ah (.o (.box (gA (dU P 0) (RF a))))else Y2 (RF a)[J]?
  |none=>aj)
 else(match args[P]? with
  |some a=>if J=900 then ah (.o (.box (n5 P 0 (r.outs.getD P []))))else if J<100 then kpC (RF a)[J]? (r.outs.getD P [])[J]? else Y2 (r.outs.getD P [])[J-100]?
  |none=>aj)
structure Small (args:aC fa) (r:dz):Prop where
 a:∀(p:aE) (a:fa) (xs:aC AA),args[p]? =ah a->LY a xs->p<500
 rl:∀(q:aE) (a:fa) (xs:aC AA),r.rs[q]? =ah a->LY a xs->xs.length<=100
 o:∀p:aE,(r.outs.getD p []).length<=100
theorem Ip{args:aC fa}{r:dz}(hs:Small args r){m:aE}{c:eO}(h:Bq args r m c):∃P J,m=dU P J/\J<1000/\Eo args r P J=ah c:=by
 cases h with
 |rb q xs h0=>exact⟨500+q,900,rfl,by omega,by simp[Eo,h0,RF]⟩
 |rr q a xs j e ex ys h0 hx hj=>
  have:=hs.rl q a xs h0 hx;have jW:=(aT.1 hj).1;refine⟨500+q,j,rfl,by omega, ?_⟩
  have:j≠900:=by omega
  simp[Eo,h0,hx.eq,hj,this,Y2]
 |ob p xs h0=>
  have:=hs.a p _ xs h0 (.inr rfl);have:¬500<=p:=by omega
  exact⟨p,900,rfl,by omega,by simp[Eo,h0,this]⟩
 |kp p a xs j e ex z ys h0 hx h2 h3=>
  have:=hs.a p _ xs h0 hx;have h5:¬500<=p:=by omega
  have jW:=(aT.1 h3).1;have:=hs.o p;have OR:j≠900:=by omega
  have VT:j<100:=by omega
  refine⟨p,j,rfl,by omega, ?_⟩
  simp only[Eo,h0,hx.eq,h2,h3,OR,VT,h5,if_false,if_true,kpC]
 |nw p a xs j e ex ys h0 hx h3=>
  have:=hs.a p _ xs h0 hx;have h5:¬500<=p:=by omega
  have jW:=(aT.1 h3).1;have:=hs.o p;have OR:¬100+j=900:=by omega
  have VT:¬100+j<100:=by omega
  refine⟨p,100+j,rfl,by omega, ?_⟩
  have hj3:100+j-100=j:=by omega
  simp only[Eo,h0,h3,OR,VT,hj3,h5,if_false,Y2]
theorem zG:∀{l:aC (aE×eO)} {k:aE} {c:eO},(k,c)∈l->(∀c',(k,c')∈l->c'=c)->fO l k=c:=by
 intro l;induction l with
 |nil=>intro k c h;cases h
 |cons d l ih=>
  obtain⟨k',c'⟩:=d;intro k c h hu;unfold fO;cases hb:bD k k' with
  |true=>have:=aU hb;subst this;exact hu c' (dL ..)
  |false=>
   rcases cu.1 h with h|h
   ·cases h;simp at hb
   ·exact ih h (λc'' h''=>hu c'' (c7 _ h''))
theorem wT{args:aC fa}{r:dz}(hs:Small args r){m:aE}{c:eO}(h:Bq args r m c):oe args r (c_ m)=c:=by refine zG (wU.2 h) (λc' h'=> ?_);obtain⟨P,J,h1,h2,h3⟩:=Ip hs h;obtain⟨P',J',KF,OJ,M4⟩:=Ip hs (wU.1 h');obtain⟨rfl,rfl⟩:=uq h2 OJ (h1.symm.trans KF);rw[h3]at M4;cases M4;rfl
theorem qw{args:aC fa}{r:dz}{m:aE}{o:Obj}(h:oe args r (c_ m)= .o o):Bq args r m (.o o):=wU.1 (nO h (by simp))
theorem v8{p:aE}:∀{xs:aC AA} {j i:aE},(n5 p j xs)[i]? =(xs[i]?).map (tD p (j+i)):=by
 intro xs;induction xs with
 |nil=>intro j i;simp[n5]
 |cons a xs ih=>
  intro j i;cases i with
  |zero=>rfl
  |succ i=>simp only[n5,dO,ih];congr 2;omega
theorem vi{p:aE}:∀{xs:aC AA} {j:aE},(n5 p j xs).length=xs.length:=by
 intro xs;induction xs with
 |nil=>intro j;rfl
 |cons a xs ih=>intro j;simp[n5,ih]
theorem ER:∀{l:aC fa} {q i:aE},(lx q l)[i]? =(l[i]?).map (Gi (q+i)):=by
 intro l;induction l with
 |nil=>intro q i;simp[lx]
 |cons a l ih=>
  intro q i;cases i with
  |zero=>rfl
  |succ i=>simp only[lx,dO,ih];congr 2;omega
theorem xF:∀{l:aC fa} {q:aE},(lx q l).length=l.length:=by
 intro l;induction l with
 |nil=>intro q;rfl
 |cons a l ih=>intro q;simp[lx,ih]
end Go.FG

namespace Go.FG
def mq(L:aC Dc):aC (aE×eO):=ka (L.map λt=>(t.1,t.2.2))
theorem iM(L R:aC Dc):mq (L++R)=mq L++mq R:=by simp[mq,ka]
def Qk(ok:aW)(σ:St)(n:aE)(a:AA):Prop:=
 match a with
 | .ow _ ex _=>(ex=ai\/ok=ai)/\σ (c_ n)= .jX/\n<900000000
 | .sh _ _=>ok=ai| .kp _=>False| .fn _ _=>False|_=>True
def O_(n x:aE)(a:AA):aC Dc:=match a with| .ow e ex ys=>[(n,ah x, .row e ex ys)]|_=>[]
theorem I0{n x:aE}{a:AA}{m:aE}{t:az aE}{ob:Obj}:(m,t,ob)∈O_ n x a↔∃e ex ys,a= .ow e ex ys/\m=n/\t=ah x/\ob= .row e ex ys:=by
 cases a with
 |ow e ex ys=>
  constructor
  ·intro h;have h:=a_.1 h;cases h;exact⟨e,ex,ys,rfl,rfl,rfl,rfl⟩
  ·rintro ⟨e',uh,Da,h,rfl,rfl,rfl⟩;cases h;exact a_.2 rfl
 |_=>simp[O_]
theorem lV.mono{ok:aW}{L L':aC Dc}{v v3:AV}(h:lV ok L v v3)(hs:∀e∈L,e∈L'):lV ok L' v v3:=h.imp id (λ⟨n,x,ob,h1,h2,h3⟩=>⟨n,x,ob,h1,h2,hs _ h3⟩)
theorem nG.mono{ok:aW}{L L':aC Dc}{v v3:aC AV}(h:nG ok L v v3)(hs:∀e∈L,e∈L'):nG ok L' v v3:=⟨h.1,λj x y hx hy=>(h.2 j x y hx hy).mono hs⟩
section
variable {P:cZ} {E:fU} {σ:St} {a:Act} {w:bK} {c:eZ} {o:fA} {nm:aE} {e:sO}
theorem Ef{ok:aW}{n:aE}{a:AA}{v:AV}{ws:aC (aE×eO)}(h:(rB ok n a).val σ=ah (v,ws)):Qk ok σ n a/\v=lu n a/\∀x,ws=mq (O_ n x a)/\lV ok (O_ n x a) v (lu x a):=by
 cases a with
 |i=>obtain⟨rfl,rfl⟩:=bT (aJ h);exact⟨trivial,rfl,λx=>⟨rfl, .inl ⟨rfl,trivial⟩⟩⟩
 |b=>obtain⟨rfl,rfl⟩:=bT (aJ h);exact⟨trivial,rfl,λx=>⟨rfl, .inl ⟨rfl,trivial⟩⟩⟩
 |s=>obtain⟨rfl,rfl⟩:=bT (aJ h);exact⟨trivial,rfl,λx=>⟨rfl, .inl ⟨rfl,trivial⟩⟩⟩
 |nl=>obtain⟨rfl,rfl⟩:=bT (aJ h);exact⟨trivial,rfl,λx=>⟨rfl, .inl ⟨rfl,trivial⟩⟩⟩
 |sh e xs=>obtain⟨h1,h⟩:=cM h;obtain⟨rfl,rfl⟩:=bT (aJ h);exact⟨h1,rfl,λx=>⟨rfl, .inl ⟨rfl,h1⟩⟩⟩
 |ow e ex xs=>obtain⟨h1,h⟩:=cM h;obtain⟨u,h2,h⟩:=Rd.bind_some h;obtain⟨rfl,rfl⟩:=bT (aJ h);obtain⟨f1,f2⟩:=kE h2;exact⟨⟨by simpa using h1,f1,f2⟩,rfl,λx=>⟨rfl, .inr ⟨n,x,_,rfl,rfl,a_.2 rfl⟩⟩⟩
 |kp=>simp[rB]at h
 |fn=>simp[rB]at h
theorem BN{ok:aW}{P:aE}:∀{xs:aC AA} {n j:aE} {vs:aC AV} {ws:aC (aE×eO)},(A0 ok n xs).val σ=ah (vs,ws)->vs=gA n xs/\(∀(i:aE) (a:AA),xs[i]? =ah a->Qk ok σ (n+i) a)/\
  ∃L,ws=mq L/\(∀m t ob,(m,t,ob)∈L↔∃i e ex ys,xs[i]? =ah (.ow e ex ys)/\m=n+i/\t=ah (dU P (j+i))/\ob= .row e ex ys)/\∀(i:aE) (v:AV) (a:AA),vs[i]? =ah v->xs[i]? =ah a->lV ok L v (lu (dU P (j+i)) a):=by
 intro xs;induction xs with
 |nil=>intro n j vs ws h;obtain⟨rfl,rfl⟩:=bT (aJ h);exact⟨rfl,λi a h=>by simp at h,[],rfl,λm t ob=>by simp,λi v a h=>by simp at h⟩
 |cons a xs ih=>
  intro n j vs ws h;obtain⟨⟨v,w1⟩,h1,h⟩:=Rd.bind_some h;obtain⟨⟨vr,w2⟩,h2,h⟩:=Rd.bind_some h;obtain⟨rfl,rfl⟩:=bT (aJ h);obtain⟨b1,rfl,b2⟩:=Ef h1;obtain⟨rfl,b3⟩:=b2 (dU P j);obtain⟨i1,i2,L,rfl,i3,i4⟩:=ih (j:=j+1) h2;refine⟨by rw[i1];rfl,λi a' hi=> ?_,O_ n (dU P j) a++L,by rw[iM],λm t ob=> ?_,λi v' a' hv ha=> ?_⟩
  ·cases i with
   |zero=>cases hi;exact b1
   |succ i=>have:=i2 i a' hi;rwa[show n+1+i=n+(i+1)by omega]at this
  ·rw[bc,I0,i3];constructor
   ·rintro (⟨e,ex,ys,rfl,rfl,rfl,rfl⟩|⟨i,e,ex,ys,h1,rfl,rfl,rfl⟩)
    ·exact⟨0,e,ex,ys,rfl,rfl,rfl,rfl⟩
    ·exact⟨i+1,e,ex,ys,h1,by omega,by rw[show j+1+i=j+(i+1)by omega],rfl⟩
   ·rintro ⟨i,e,ex,ys,h1,rfl,rfl,rfl⟩;cases i with
    |zero=>cases h1;exact .inl ⟨e,ex,ys,rfl,rfl,rfl,rfl⟩
    |succ i=>exact .inr ⟨i,e,ex,ys,h1,by omega,by rw[show j+1+i=j+(i+1)by omega],rfl⟩
  ·cases i with
   |zero=>cases hv;cases ha;exact b3.mono (λe he=>bW _ he)
   |succ i=>have:=(i4 i v' a' hv ha).mono (L':=O_ n (dU P j) a++L) (λe he=>bP _ he);rwa[show j+1+i=j+(i+1)by omega]at this
def HL(σ:St)(ok:aW)(b P:aE)(x:fa)(L:aC Dc)(n:aE)(t:az aE)(ob:Obj):Prop:=
 (∃xs j e ex ys,LY x xs/\xs[j]? =ah (.ow e ex ys)/\n=b+j/\t=ah (dU P j)/\ob= .row e ex ys/\(ex=ai\/ok=ai)/\σ (c_ n)= .jX/\n<900000000)\/
 ∃xs,x= .pt xs/\n=b+30/\t=ah (dU P 900)/\ob= .box (gA b xs)/\σ (c_ n)= .jX/\n<900000000/\nG ok L (gA b xs) (gA (dU P 0) xs)
theorem Kf{ok:aW}{b P:aE}{x:fa}{s:aW×aC AV}{ws:aC (aE×eO)}(h:(Gk ok b x).val σ=ah (s,ws)):∃L,ws=mq L/\(∀n t ob,(n,t,ob)∈L->HL σ ok b P x L n t ob)/\ArgRel ok L s (Gi P x):=by
 have tz:∀j,dU P (0+j)=dU P 0+j:=λj=>by unfold dU;omega
 cases x with
 |v g xs=>
  obtain⟨⟨vs,w1⟩,h1,h⟩:=Rd.bind_some h;obtain⟨rfl,rfl⟩:=bT (aJ h);obtain⟨rfl,i2,L,rfl,i3,i4⟩:=BN (P:=P) (j:=0) h1;refine⟨L,rfl,λn t ob hm=> ?_,rfl,by simp[Gi,iO],λj v v3 hv DH=> .inl ?_⟩
  ·obtain⟨i,e,ex,ys,h1,rfl,rfl,rfl⟩:=(i3 n t ob).1 hm;have:=i2 i _ h1;exact .inl ⟨xs,i,e,ex,ys, .inl ⟨g,rfl⟩,h1,rfl,by rw[bS],rfl,this⟩
  ·have DH:(gA (dU P 0) xs)[j]? =ah v3:=DH;rw[iB]at DH;cases hx:xs[j]? with
   |none=>rw[hx]at DH;cases DH
   |some a=>rw[hx]at DH;cases DH;have:=i4 j v a hv hx;rwa[tz]at this
 |pt xs=>
  obtain⟨⟨vs,w1⟩,h1,h⟩:=Rd.bind_some h;obtain⟨u,h2,h⟩:=Rd.bind_some h;obtain⟨rfl,rfl⟩:=bT (aJ h);obtain⟨f1,f2⟩:=kE h2;obtain⟨rfl,i2,L,rfl,i3,i4⟩:=BN (P:=P) (j:=0) h1;have cr:nG ok L (gA b xs) (gA (dU P 0) xs):=by
   refine⟨by rw[iO,iO],λj v v3 hv DH=> ?_⟩
   rw[iB]at DH;cases hx:xs[j]? with
   |none=>rw[hx]at DH;cases DH
   |some a=>rw[hx]at DH;cases DH;have:=i4 j v a hv hx;rwa[tz]at this
  refine⟨L++[(b+30,ah (dU P 900), .box (gA b xs))],by rw[iM];rfl,λn t ob hm=> ?_,rfl,rfl,λj v v3 hv DH=> .inr ?_⟩
  ·rcases bc.1 hm with hm|hm
   ·obtain⟨i,e,ex,ys,h1,rfl,rfl,rfl⟩:=(i3 n t ob).1 hm;have:=i2 i _ h1;exact .inl ⟨xs,i,e,ex,ys, .inr rfl,h1,rfl,by rw[bS],rfl,this⟩
   ·rw[a_]at hm;cases hm;exact .inr ⟨xs,rfl,rfl,rfl,rfl,f1,f2,cr.mono (λe he=>bW _ he)⟩
  ·cases j with
   |zero=>cases hv;cases DH;exact⟨_,_,_,rfl,rfl,bP _ (a_.2 rfl)⟩
   |succ j=>simp at hv
 |fb xs=>simp[Gk]at h
theorem ArgRel.mono{ok:aW}{L L':aC Dc}{s s3:aW×aC AV}(h:ArgRel ok L s s3)(hs:∀e∈L,e∈L'):ArgRel ok L' s s3:=⟨h.1,h.2.1,λj x y hx hy=>(h.2.2 j x y hx hy).imp (λh=>h.mono hs) (λ⟨n,x,ob,h1,h2,h3⟩=>⟨n,x,ob,h1,h2,hs _ h3⟩)⟩
theorem HL.mono{ok:aW}{b P:aE}{x:fa}{L L':aC Dc}{n:aE}{t:az aE}{ob:Obj}(h:HL σ ok b P x L n t ob)(hs:∀e∈L,e∈L'):HL σ ok b P x L' n t ob:=h.imp id (λ⟨xs,h1,h2,h3,h4,h5,h6,h7⟩=>⟨xs,h1,h2,h3,h4,h5,h6,h7.mono hs⟩)
theorem H0{ok:aW}:∀{l:aC fa} {b P:aE} {ss:aC (aW×aC AV)} {ws:aC (aE×eO)},(BO ok b l).val σ=ah (ss,ws)->∃L,ws=mq L/\(∀n t ob,(n,t,ob)∈L->∃q x,l[q]? =ah x/\HL σ ok (b+40*q) (P+q) x L n t ob)/\E2 ok L ss (lx P l):=by
 intro l;induction l with
 |nil=>intro b P ss ws h;obtain⟨rfl,rfl⟩:=bT (aJ h);exact⟨[],rfl,λn t ob h=>(by cases h),rfl,λj x x3 h=>by simp at h⟩
 |cons x l ih=>
  intro b P ss ws h;obtain⟨⟨v,w1⟩,h1,h⟩:=Rd.bind_some h;obtain⟨⟨vr,w2⟩,h2,h⟩:=Rd.bind_some h;obtain⟨rfl,rfl⟩:=bT (aJ h);obtain⟨L1,rfl,a1,a2⟩:=Kf (P:=P) h1;obtain⟨L2,rfl,b1,b2,b3⟩:=ih (P:=P+1) h2;refine⟨L1++L2,by rw[iM],λn t ob hm=> ?_,by simp[lx,b2],λj s s3 hs hs3=> ?_⟩
  ·rcases bc.1 hm with hm|hm
   ·exact⟨0,x,rfl,(a1 n t ob hm).mono (λe he=>bW _ he)⟩
   ·obtain⟨q,y,hq,hr⟩:=b1 n t ob hm;refine⟨q+1,y,hq, ?_⟩
    rw[show b+40*(q+1)=b+40+40*q by omega,show P+(q+1)=P+1+q by omega];exact hr.mono (λe he=>bP _ he)
  ·cases j with
   |zero=>cases hs;cases hs3;exact a2.mono (λe he=>bW _ he)
   |succ j=>exact(b3 j s s3 hs hs3).mono (λe he=>bP _ he)
end
end Go.FG

namespace Go.FG
section
variable {P:cZ} {E:fU} {σ:St} {a:Act} {w:bK} {c:eZ} {o:fA} {nm:aE} {e:sO}
def qO(σ:St)(ok bx:aW)(b p j:aE)(k:Pk)(a:AA)(n:aE)(t:az aE)(ob:Obj):Prop:=
 (∃e ex,k.src= .own n e ex/\t=aj/\ob= .dead)\/
 (∃e ex ys,k.src= .own n e ex/\a= .kp ys/\t=ah (dU p j)/\ob= .row e ex ys/\(ex=ai\/ok=ai))\/
 ∃e ex ys,bx=ai/\a= .ow e ex ys/\n=b+j/\t=ah (dU p (100+j))/\ob= .row e ex ys/\(ex=ai\/ok=ai)/\σ (c_ n)= .jX/\n<900000000
theorem T4{ok:aW}{b p j:aE}{k:Pk}{a:AA}{ws:aC (aE×eO)}(h:(EM ok k a).val σ=ah ws):∃L,ws=mq L/\(∀n t ob,(n,t,ob)∈L->qO σ ok ak b p j k a n t ob)/\∀n e ex,k.src= .own n e ex->∃t ob,(n,t,ob)∈L:=by
 cases hs:k.src with
 |no=>
  have h:(Rd.ret []:Rd (aC (aE×eO))).val σ=ah ws:=by unfold EM at h;rw[hs]at h;exact h
  obtain rfl:=aJ h;exact⟨[],rfl,λn t ob h=>(by cases h),λn e ex h=>by cases h⟩
 |own n e ex=>
  cases a with
  |kp ys=>
   have h:(bif ex||ok then Rd.ret [(c_ n,eO.o (.row e ex ys))]else .fail).val σ=ah ws:=by unfold EM at h;rw[hs]at h;exact h
   obtain⟨h1,h⟩:=cM h;obtain rfl:=aJ h;refine⟨[(n,ah (dU p j), .row e ex ys)],rfl,λm t ob hm=> ?_,λm e' uh h=> ?_⟩
   ·rw[a_]at hm;cases hm;exact .inr (.inl ⟨e,ex,ys,hs,rfl,rfl,rfl,by simpa using h1⟩)
   ·cases h;exact⟨_,_,a_.2 rfl⟩
  |nl=>
   have h:(Rd.ret [(c_ n,eO.o .dead)]:Rd (aC (aE×eO))).val σ=ah ws:=by unfold EM at h;rw[hs]at h;exact h
   obtain rfl:=aJ h;refine⟨[(n,aj, .dead)],rfl,λm t ob hm=> ?_,λm e' uh h=> ?_⟩
   ·rw[a_]at hm;cases hm;exact .inl ⟨e,ex,hs,rfl,rfl⟩
   ·cases h;exact⟨_,_,a_.2 rfl⟩
  |_=>unfold EM at h;rw[hs]at h;simp at h
theorem Ph{ok:aW}{b p:aE}:∀{r:aC Pk} {l:aC AA} {j:aE} {ws:aC (aE×eO)},(Lh ok r l).val σ=ah ws->∃L,ws=mq L/\(∀n t ob,(n,t,ob)∈L->∃i k,r[i]? =ah k/\qO σ ok ak b p (j+i) k (l.getD i .nl) n t ob)/\
  ∀(i:aE) (k:Pk) (n e:aE) (ex:aW),r[i]? =ah k->k.src= .own n e ex->∃t ob,(n,t,ob)∈L:=by
 intro r;induction r with
 |nil=>intro l j ws h;obtain rfl:=aJ h;exact⟨[],rfl,λn t ob h=>(by cases h),λi k n e ex h=>by simp at h⟩
 |cons k r ih=>
  intro l j ws h;obtain⟨w1,h1,h⟩:=Rd.bind_some h;obtain⟨w2,h2,h⟩:=Rd.bind_some h;obtain rfl:=aJ h;obtain⟨L1,rfl,a1,a2⟩:=T4 (b:=b) (p:=p) (j:=j) h1;obtain⟨L2,rfl,b1,b2⟩:=ih (j:=j+1) h2;have e0:l.headD .nl=l.getD 0 .nl:=by cases l<;>rfl
  have e1:∀i,l.tail.getD i .nl=l.getD (i+1) .nl:=λi=>by cases l<;>simp
  refine⟨L1++L2,by rw[iM],λn t ob hm=> ?_,λi k' n e ex hk hs=> ?_⟩
  ·rcases bc.1 hm with hm|hm
   ·exact⟨0,k,rfl,by rw[<-e0];exact a1 n t ob hm⟩
   ·obtain⟨i,k',hk,hc⟩:=b1 n t ob hm;rw[e1]at hc;exact⟨i+1,k',hk,by rw[show j+(i+1)=j+1+i by omega];exact hc⟩
  ·cases i with
   |zero=>cases hk;obtain⟨t,ob,h⟩:=a2 n e ex hs;exact⟨t,ob,bW _ h⟩
   |succ i=>obtain⟨t,ob,h⟩:=b2 i k' n e ex hk hs;exact⟨t,ob,bP _ h⟩
theorem Pf{ok:aW}{b p j:aE}{k:Pk}{v v':AV}{a:AA}{ws:aC (aE×eO)}(hv:∀n e ex,k.src= .own n e ex->v= .own n)(h:(Cw ok (b+j) k v a).val σ=ah (v',ws)):
  ∃L,ws=mq L/\(∀n t ob,(n,t,ob)∈L->qO σ ok ai b p j k a n t ob)/\(∀n e ex,k.src= .own n e ex->∃t ob,(n,t,ob)∈L)/\lV ok L v' (tD p j a):=by
 have new:∀{v':AV} {ws:aC (aE×eO)},(rB ok (b+j) a).val σ=ah (v',ws)->∃L,ws=mq L/\(∀n t ob,(n,t,ob)∈L->qO σ ok ai b p j k a n t ob)/\lV ok L v' (tD p j a):=by
  intro v' ws h;obtain⟨b1,rfl,b2⟩:=Ef h;obtain⟨rfl,b3⟩:=b2 (dU p (100+j));refine⟨_,rfl,λn t ob hm=> ?_, ?_⟩
  ·obtain⟨e,ex,ys,rfl,rfl,rfl,rfl⟩:=I0.1 hm;exact .inr (.inr ⟨e,ex,ys,rfl,rfl,rfl,rfl,rfl,b1⟩)
  ·have:tD p j a=lu (dU p (100+j)) a:=by cases a<;>first|rfl|exact b1.elim
   rw[this];exact b3
 cases hs:k.src with
 |no=>
  have h:(rB ok (b+j) a).val σ=ah (v',ws):=by unfold Cw at h;rw[hs]at h;exact h
  obtain⟨L,rfl,a1,a2⟩:=new h;exact⟨L,rfl,a1,λm e' uh h=>(by cases h),a2⟩
 |own n e ex=>
  have other:((rB ok (b+j) a).bind λ(x:AV×aC (aE×eO))=>Rd.ret (x.1,(c_ n,eO.o .dead)::x.2)).val σ=ah (v',ws)->∃L,ws=mq L/\(∀n t ob,(n,t,ob)∈L->qO σ ok ai b p j k a n t ob)/\(∀n' e' uh,Src.own n e ex= .own n' e' uh->∃t ob,(n',t,ob)∈L)/\lV ok L v' (tD p j a):=by
   intro h;obtain⟨⟨v1,w1⟩,h1,h⟩:=Rd.bind_some h;obtain⟨rfl,rfl⟩:=bT (aJ h);obtain⟨L,rfl,a1,a2⟩:=new h1;refine⟨(n,aj, .dead)::L,rfl,λm t ob hm=> ?_,λm e' uh h=> ?_,a2.mono (λe he=>c7 _ he)⟩
   ·rcases cu.1 hm with hm|hm
    ·cases hm;exact .inl ⟨e,ex,hs,rfl,rfl⟩
    ·exact a1 m t ob hm
   ·cases h;exact⟨_,_,dL ..⟩
  cases a with
  |kp ys=>
   have h:(bif ex||ok then Rd.ret (v,[(c_ n,eO.o (.row e ex ys))])else .fail).val σ=ah (v',ws):=by unfold Cw at h;rw[hs]at h;exact h
   obtain⟨h1,h⟩:=cM h;obtain⟨rfl,rfl⟩:=bT (aJ h);refine⟨[(n,ah (dU p j), .row e ex ys)],rfl,λm t ob hm=> ?_,λm e' uh h=> ?_, .inr ⟨n,dU p j,_,hv n e ex hs,rfl,a_.2 rfl⟩⟩
   ·rw[a_]at hm;cases hm;exact .inr (.inl ⟨e,ex,ys,hs,rfl,rfl,rfl,by simpa using h1⟩)
   ·cases h;exact⟨_,_,a_.2 rfl⟩
  |_=>exact other (by unfold Cw at h;rw[hs]at h;exact h)
theorem Ld{ok:aW}{b p:aE}:∀{r:aC Pk} {vs:aC AV} {l:aC AA} {j:aE} {JN:aC AV} {ws:aC (aE×eO)},(∀(i:aE) (k:Pk) (n e:aE) (ex:aW),r[i]? =ah k->k.src= .own n e ex->vs[i]? =ah (.own n))->(rK ok (b+j) r vs l).val σ=ah (JN,ws)->
  l.length=r.length/\∃L,ws=mq L/\(∀n t ob,(n,t,ob)∈L->∃i k,r[i]? =ah k/\qO σ ok ai b p (j+i) k (l.getD i .nl) n t ob)/\
  (∀(i:aE) (k:Pk) (n e:aE) (ex:aW),r[i]? =ah k->k.src= .own n e ex->∃t ob,(n,t,ob)∈L)/\JN.length=l.length/\∀(i:aE) (v:AV) (a:AA),JN[i]? =ah v->l[i]? =ah a->lV ok L v (tD p (j+i) a):=by
 intro r;induction r with
 |nil=>
  intro vs l j JN ws hv h;cases vs with
  |cons=>cases l<;>simp[rK]at h
  |nil=>
   cases l with
   |cons=>simp[rK]at h
   |nil=>obtain⟨rfl,rfl⟩:=bT (aJ h);exact⟨rfl,[],rfl,λn t ob h=>(by cases h),λi k n e ex h=>by simp at h,rfl,λi v a h=>by simp at h⟩
 |cons k r ih=>
  intro vs l j JN ws hv h;cases vs with
  |nil=>cases l<;>simp[rK]at h
  |cons v vs=>
   cases l with
   |nil=>simp[rK]at h
   |cons a l=>
    obtain⟨⟨v1,w1⟩,h1,h⟩:=Rd.bind_some h;obtain⟨⟨vr,w2⟩,h2,h⟩:=Rd.bind_some h;obtain⟨rfl,rfl⟩:=bT (aJ h);obtain⟨L1,rfl,a1,a2,a3⟩:=Pf (p:=p) (λn e ex hs=>by have:=hv 0 k n e ex rfl hs;simpa using this) h1;obtain⟨i0,L2,rfl,b1,b2,b3,b4⟩:=ih (j:=j+1) (λi k' n e ex hk hs=>hv (i+1) k' n e ex hk hs) h2;refine⟨by simp[i0],L1++L2,by rw[iM],λn t ob hm=> ?_,λi k' n e ex hk hs=> ?_,by simp[b3],λi v' a' hv' ha'=> ?_⟩
    ·rcases bc.1 hm with hm|hm
     ·exact⟨0,k,rfl,a1 n t ob hm⟩
     ·obtain⟨i,k',hk,hc⟩:=b1 n t ob hm;exact⟨i+1,k',hk,by rw[show j+(i+1)=j+1+i by omega];exact hc⟩
    ·cases i with
     |zero=>cases hk;obtain⟨t,ob,h⟩:=a2 n e ex hs;exact⟨t,ob,bW _ h⟩
     |succ i=>obtain⟨t,ob,h⟩:=b2 i k' n e ex hk hs;exact⟨t,ob,bP _ h⟩
    ·cases i with
     |zero=>cases hv';cases ha';exact a3.mono (λe he=>bW _ he)
     |succ i=>have:=(b4 i v' a' hv' ha').mono (L':=L1++L2) (λe he=>bP _ he);rwa[show j+1+i=j+(i+1)by omega]at this
def HJ(σ:St)(ok:aW)(b p:aE)(pa:Pa)(l:aC AA)(L:aC Dc)(n:aE)(t:az aE)(ob:Obj):Prop:=
 (∃i k,pa.cs[i]? =ah k/\qO σ ok pa.box.isSome b p i k (l.getD i .nl) n t ob)\/∃xs JN,pa.box=ah (n,xs)/\t=ah (dU p 900)/\ob= .box JN/\nG ok L JN (n5 p 0 l)
theorem T3{T:Tab}{nC:aC aE}{v:bj}{ok:aW}{b p:aE}{pa:Pa}(KQ:Al T σ w c nC pa v){l:aC AA}{ws:aC (aE×eO)}(h:(T2 ok b pa l).val σ=ah ws):
  ∃L,ws=mq L/\(∀n t ob,(n,t,ob)∈L->HJ σ ok b p pa l L n t ob)/\∀n∈pa.um,∃t ob,(n,t,ob)∈L:=by
 have cs:∀n,n∈pa.cs.flatMap (·.um)->∃(i:aE) (k:Pk) (e:aE) (ex:aW),pa.cs[i]? =ah k/\k.src= .own n e ex:=by
  intro n hn;obtain⟨k,hk,hn⟩:=bL.1 hn;obtain⟨i,hi⟩:=bX hk;unfold Pk.um at hn;split at hn
  ·rename_i m e ex hs;have:=a_.1 hn;subst this;exact⟨i,k,e,ex,hi,hs⟩
  ·cases hn
 unfold T2 at h;split at h
 ·rename_i n xs hb;obtain⟨⟨JN,w1⟩,h1,h⟩:=Rd.bind_some h;obtain rfl:=aJ h;obtain⟨_,_,_,hl,_,vU⟩:=KQ.box n xs hb;obtain⟨i0,L,rfl,a1,a2,a3,a4⟩:=Ld (b:=b) (p:=p) (j:=0) vU (by rw[yH];exact h1);have cr:nG ok L JN (n5 p 0 l):=by
   refine⟨by rw[vi,a3],λi v v3 hv DH=> ?_⟩
   rw[v8]at DH;cases hx:l[i]? with
   |none=>rw[hx]at DH;cases DH
   |some y=>rw[hx]at DH;cases DH;exact a4 i v y hv hx
  refine⟨L++[(n,ah (dU p 900), .box JN)],by rw[iM];rfl,λm t ob hm=> ?_,λm hm=> ?_⟩
  ·rcases bc.1 hm with hm|hm
   ·obtain⟨i,k,hk,hc⟩:=a1 m t ob hm;rw[bS]at hc;exact .inl ⟨i,k,hk,by rw[hb];exact hc⟩
   ·rw[a_]at hm;cases hm;exact .inr ⟨xs,JN,hb,rfl,rfl,cr.mono (λe he=>bW _ he)⟩
  ·unfold Pa.um at hm;rw[hb]at hm;rcases bc.1 hm with hm|hm
   ·have:=a_.1 hm;subst this;exact⟨_,_,bP _ (a_.2 rfl)⟩
   ·obtain⟨i,k,e,ex,hk,hs⟩:=cs m hm;obtain⟨t,ob,h⟩:=a2 i k m e ex hk hs;exact⟨t,ob,bW _ h⟩
 ·rename_i hb;obtain⟨L,rfl,a1,a2⟩:=Ph (b:=b) (p:=p) (j:=0) h;refine⟨L,rfl,λm t ob hm=> ?_,λm hm=> ?_⟩
  ·obtain⟨i,k,hk,hc⟩:=a1 m t ob hm;rw[bS]at hc;exact .inl ⟨i,k,hk,by rw[hb];exact hc⟩
  ·unfold Pa.um at hm;rw[hb,gD]at hm;obtain⟨i,k,e,ex,hk,hs⟩:=cs m hm;exact a2 i k m e ex hk hs
theorem HJ.mono{ok:aW}{b p:aE}{pa:Pa}{l:aC AA}{L L':aC Dc}{n:aE}{t:az aE}{ob:Obj}(h:HJ σ ok b p pa l L n t ob)(hs:∀e∈L,e∈L'):HJ σ ok b p pa l L' n t ob:=
 h.imp id (λ⟨xs,JN,h1,h2,h3,h4⟩=>⟨xs,JN,h1,h2,h3,h4.mono hs⟩)
theorem Pg{T:Tab}{nC:aC aE}{ok:aW}:∀{ps:aC Pa} {b p:aE} {os:aC (aC AA)} {ws:aC (aE×eO)},(∀(q:aE) (pa:Pa),ps[q]? =ah pa->∃v,Al T σ w c nC pa v)->(Lf ok b ps os).val σ=ah ws->
  ∃L,ws=mq L/\(∀n t ob,(n,t,ob)∈L->∃q pa,ps[q]? =ah pa/\HJ σ ok (b+40*q) (p+q) pa (os.getD q []) L n t ob)/\∀n∈ps.flatMap (·.um),∃t ob,(n,t,ob)∈L:=by
 intro ps;induction ps with
 |nil=>intro b p os ws _ h;obtain rfl:=aJ h;exact⟨[],rfl,λn t ob h=>(by cases h),λn h=>(by cases h)⟩
 |cons pa ps ih=>
  intro b p os ws GJ h;obtain⟨w1,h1,h⟩:=Rd.bind_some h;obtain⟨w2,h2,h⟩:=Rd.bind_some h;obtain rfl:=aJ h;obtain⟨v,KQ⟩:=GJ 0 pa rfl;obtain⟨L1,rfl,a1,a2⟩:=T3 (p:=p) KQ h1;obtain⟨L2,rfl,b1,b2⟩:=ih (p:=p+1) (λq pa' hq=>GJ (q+1) pa' hq) h2;have e0:os.headD []=os.getD 0 []:=by cases os<;>rfl
  have e1:∀i,os.tail.getD i []=os.getD (i+1) []:=λi=>by cases os<;>simp
  refine⟨L1++L2,by rw[iM],λn t ob hm=> ?_,λn hn=> ?_⟩
  ·rcases bc.1 hm with hm|hm
   ·exact⟨0,pa,rfl,by rw[<-e0];exact(a1 n t ob hm).mono (λe he=>bW _ he)⟩
   ·obtain⟨q,pa',hq,hc⟩:=b1 n t ob hm;rw[e1]at hc;refine⟨q+1,pa',hq, ?_⟩
    rw[show b+40*(q+1)=b+40+40*q by omega,show p+(q+1)=p+1+q by omega];exact hc.mono (λe he=>bP _ he)
  ·rw[yG]at hn;rcases bc.1 hn with hn|hn
   ·obtain⟨t,ob,h⟩:=a2 n hn;exact⟨t,ob,bW _ h⟩
   ·obtain⟨t,ob,h⟩:=b2 n hn;exact⟨t,ob,bP _ h⟩
theorem Sa:∀{l:aC aE} {ws:aC (aE×eO)},(R_ l).val σ=ah ws->∃Fz:aC (aE×Obj),ws=ka Fz/\(∀n x,(n,x)∈Fz->n∈l/\∃el ex xs,σ (c_ n)= .o (.row el ex xs)/\x= .fV el xs)/\∀n∈l,∃x,(n,x)∈Fz:=by
 intro l;induction l with
 |nil=>intro ws h;obtain rfl:=aJ h;exact⟨[],rfl,λn x h=>(by cases h),λn h=>(by cases h)⟩
 |cons m l ih=>
  intro ws h;obtain⟨ob,hg,h⟩:=Rd.bind_some h;have hg:=dy hg;cases ob with
  |row el ex xs=>
   obtain⟨w1,h1,h⟩:=Rd.bind_some h;obtain rfl:=aJ h;obtain⟨Fz,rfl,a1,a2⟩:=ih h1;refine⟨(m, .fV el xs)::Fz,rfl,λn x hm=> ?_,λn hn=> ?_⟩
   ·rcases cu.1 hm with hm|hm
    ·cases hm;exact⟨dL ..,el,ex,xs,hg,rfl⟩
    ·obtain⟨h1,h2⟩:=a1 n x hm;exact⟨c7 _ h1,h2⟩
   ·rcases cu.1 hn with rfl|hn
    ·exact⟨_,dL ..⟩
    ·obtain⟨x,h⟩:=a2 n hn;exact⟨x,c7 _ h⟩
  |_=>simp at h
end
end Go.FG

namespace Go.FG
section
variable {P:cZ} {E:fU} {σ:St} {a:Act} {w:bK} {c:eZ} {o:fA} {nm:aE} {e:sO}
theorem ak7{T:Tab}{nC:aC aE}{pa:Pa}{v:bj}(h:Al T σ w c nC pa v):∃xs,LY pa.arg xs/\xs=pa.cs.map (·.a)/\∀(j:aE) (k:Pk),pa.cs[j]? =ah k->∃u,vF T σ w c nC k u:=by
 have h1:LY pa.arg (pa.cs.map (·.a)):=by
  cases hb:pa.box with
  |none=>obtain⟨g,h1,_⟩:=h.val hb;exact .inl ⟨g,h1⟩
  |some nx=>obtain⟨n,xs⟩:=nx;exact .inr (h.box n xs hb).1
 exact⟨_,h1,rfl,(T6 h h1).2⟩
theorem WX{l:aC AA}{i:aE}{ys:aQ}(h:l.getD i .nl= .kp ys):l[i]? =ah (.kp ys):=by
 rw[cY]at h;cases hx:l[i]? with
 |none=>rw[hx]at h;cases h
 |some x=>rw[hx]at h;rw[<-h];rfl
theorem EU{f:aE}{fn:Func}{vs psv:dq bj}{cl:Call}{fx:dx}(ho:o.op= .call cl)(hc:cl.callee= .value fx)(hf:P.funcs[f]? =ah fn)(hb:fn.body.isSome=ai)(hn:(fn.name== "runtime.NumGoroutine")=ak)(he:a.eval fx= .func (.func f) #[] psv):
  (execOp a.eval o).run P w= .ok (.enter f (cl.args.map a.eval++psv)) w:=by
 have P3:fn.body.isNone=false:=by cases h:fn.body<;>simp_all
 unfold execOp;rw[ho];simp only[resolve,hc,he,Deferred.ofValue,ch,cS,bF,invoke,callFunc,program,ng,hf,hn,P3,du,if_false,Array.empty_append]
def nameOf(nm:aE)(ps:aC Pa)(P J:aE):az aE:=
 if 500<=P then ah (if J=900 then nm+1+40*(P-500)+30 else nm+1+40*(P-500)+J)
 else if J<100\/J=900 then loc ps (dU P J)else ah (nm+400+40*P+(J-100))
theorem oK:∀{l r:aC aE},ry l r=ai->∀n∈l,n∉r
 |[],_,_,n,h=>by cases h
 |m::l,r,h,n,hn=>by
  simp only[ry,aL,dv]at h;rcases cu.1 hn with rfl|hn
  ·exact qe h.1
  ·exact oK h.2 n hn
theorem Jc(hE:eC P E)(hF:∀g,b7 P E g (E.call g))(cf:Ok E σ w c)(dJ:fC E σ a w c)(hd:∀d,o.dst=ah d->d<a.tmps.size){cl:Call}{fx:dx}(ho:o.op= .call cl)(hb:cl.callee= .value fx){f:aE}{iQ:aC (aC CV)}(ef:eG E w c (.fn f iQ) (a.eval fx)){P_:az (aC aE)}(h:(Gn E nm o f cl.args.toList P_ iQ).val σ=ah e)(hc:e.cond=ai):gU P E σ a w c o e.ws:=by
  obtain⟨psv,he,GJ,aiq⟩:=ef;unfold Gn at h;obtain⟨ps,h2,h⟩:=Rd.bind_some h;obtain⟨h3,h⟩:=cM h;simp only[aL]at h3;obtain⟨hlen,KQ⟩:=RI cf dJ h2;split at h
  ·rename_i cnd r IA;obtain⟨h4,h⟩:=cM h;simp only[aL]at h4;obtain⟨w0,h5,h⟩:=Rd.bind_some h;obtain⟨w1,h6,h⟩:=Rd.bind_some h;obtain⟨⟨ss,w2⟩,h7,h⟩:=Rd.bind_some h;obtain⟨h8,h⟩:=cM h;obtain rfl:=aJ h;have hc:cnd=true:=hc;subst hc;have ayn:=cG h4.1.1;have ar7:∀{q:aE} {pa:Pa},ps[q]? =ah pa->∀n∈pa.nC,n∈ps.flatMap (·.nC):=λhq n hn=>bL.2 ⟨_,aR hq,hn⟩;have hh:Handed E σ w c ps iQ (cl.args.map a.eval++psv):=by
    refine⟨by simp[GJ,hlen],λq pa hq=> ?_,λq cs hq=> ?_,qB h3.1,oK h3.2⟩
    ·obtain⟨x,hx,hp⟩:=KQ q pa hq;rw[cW]at hx;have W_:=(dV.1 hx).1;exact⟨a.eval x,by rw[DT (by simpa using W_),Oa,hx];rfl,hp.mono (ar7 hq)⟩
    ·obtain⟨b,P3,hf⟩:=aiq q cs hq;refine⟨b, ?_,hf⟩
     rw[Array.getElem?_append_right (by simp[hlen]),<-P3];congr 1;simp[hlen]
   have aeG:∀(q:aE) (pa:Pa),ps[q]? =ah pa->∃v,Al E σ w c (ps.flatMap (·.nC)) pa v:=λq pa hq=>by obtain⟨v,_,h⟩:=hh.at_ q pa hq;exact⟨v,h⟩
   obtain⟨Sk,ar8,_⟩:=enter cf hh;have gi:(cl.args.map a.eval++psv).size=(jG ps iQ).length:=by simp[jG,GJ,hlen]
   have aeq:E.call f (jG ps iQ)=ah (ai,r):=IA;obtain⟨⟨fn,g1,g2,g3⟩,KK⟩:=hF f _ r aeq w (qv σ c ps) _ Sk gi ar8;obtain⟨Fz,rfl,z1,z2⟩:=Sa h5;obtain⟨Lo,rfl,l1,l2⟩:=Pg (p:=0) aeG h6;obtain⟨Lr,rfl,m1,m2⟩:=H0 (P:=500) h7;generalize aiM:(E.tk nm||(ps.flatMap (·.nC)).isEmpty)=ok at l1 m1 m2;have hsm:Small (jG ps iQ) r:=by
    refine⟨λp x xs hp hx=> ?_,λq x xs hq hx=> ?_,λp=> ?_⟩
    ·rcases vP hp with ⟨pa,hq,_⟩|⟨_,cs,_,rfl⟩
     ·have:=(aT.1 hq).1;omega
     ·rcases hx with ⟨g,hx⟩|hx<;>cases hx
    ·have:=bu.1 h4.1.2 x (aR hq);have:=cG this;rcases hx with ⟨g,rfl⟩|rfl<;>(simp only[np]at this;omega)
    ·rw[cY];cases hx:r.outs[p]? with
     |none=>simp
     |some l=>have:=bu.1 h4.2 l (aR hx);exact cG this
   have HZ:∀{q:aE} {pa:Pa},ps[q]? =ah pa->(jG ps iQ)[q]? =ah pa.arg:=λ{q} {pa} hq=>by have:=(aT.1 hq).1;unfold jG;rw[dF (by simpa using this),bJ,hq];rfl
   have I8:∀{q:aE} {pa:Pa} {n:aE},ps[q]? =ah pa->n∈pa.um->n∈ps.flatMap (·.um):=λhp hn=>bL.2 ⟨_,aR hp,hn⟩;have aid:∀{q i n e:aE} {ex:aW} {pa:Pa} {k:Pk},ps[q]? =ah pa->pa.cs[i]? =ah k->k.src= .own n e ex->n∈ps.flatMap (·.um):=λhq hk hs=>I8 hq (bP _ (bL.2 ⟨_,aR hk,by simp[Pk.um,hs]⟩));have small:∀{q i:aE} {pa:Pa} {k:Pk},ps[q]? =ah pa->pa.cs[i]? =ah k->i<100:=λhq hk=>by obtain⟨v,hv⟩:=aeG _ _ hq;have:=(aT.1 hk).1;have:=hv.len;omega
   unfold gU;intro K Q hK;unfold Oc;rw[EU (vs:=cl.args.map a.eval++psv) ho hb g1 g2 g3 he,Vz];refine Calls.mono KK (λen w'' hR=> ?_);cases en with
   |panicked=>exact hR.elim
   |outgrown=>exact hR.elim
   |returned v=>
    obtain⟨c3,GI,yv,ui,yw⟩:=hR;have gh:∀m,inj (jG ps iQ) (c_ m)≠ .jX->c3.P m=(qv σ c ps).P m/\c3.G m=(qv σ c ps).G m:=ui;have hL:∀n t ob,(n,t,ob)∈Lo++Lr->Zz σ (oe (jG ps iQ) r) c c3 ok (ps.flatMap (·.um)) (Lo++Lr) n t ob/\∀x,t=ah x->∃PP J,x=dU PP J/\J<1000/\nameOf nm ps PP J=ah n:=by
     intro n t ob hm;rcases bc.1 hm with hm|hm
     ·obtain⟨q,pa,hq,vg⟩:=l1 n t ob hm;obtain⟨v0,P6⟩:=aeG q pa hq;obtain⟨xs,hx1,VW,hx3⟩:=ak7 P6;have W_:=(aT.1 hq).1;rw[bS]at vg;rcases vg with ⟨i,k,hk,hco⟩|⟨ys,JN,hbx,rfl,rfl,hcr⟩
      ·have hi:=small hq hk;rcases hco with ⟨e',ex,hs,rfl,rfl⟩|⟨e',ex,ys,hs,ha,rfl,rfl,hex⟩|⟨e',ex,ys,hbx,ha,rfl,rfl,rfl,hex,hf,jm⟩
       ·refine⟨⟨λ_=>aid hq hk hs,λhn=> ?_,λ_=>rfl,λx hx=>(by cases hx)⟩,λx hx=>(by cases hx)⟩
        obtain⟨u,hu⟩:=hx3 i k hk;unfold vF at hu;rw[hs]at hu;obtain⟨zs,hg,_⟩:=hu;rw[hg]at hn;cases hn
       ·obtain⟨u,hu⟩:=hx3 i k hk;unfold vF at hu;rw[hs]at hu;obtain⟨zs,hg,hka,_⟩:=hu;refine⟨⟨λ_=>aid hq hk hs,λhn=>(by rw[hg]at hn;cases hn),λhx=>(by cases hx),λx hx=> ?_⟩,λx hx=> ?_⟩
        ·cases hx;refine⟨λ_=> ?_, .inl ⟨e',ex,ys,rfl, ?_,hex⟩⟩
         ·obtain⟨q1,q2⟩:=gh (dU q i) ((qy (HZ hq)).2 xs i e' ex zs hx1 (by rw[VW,bJ,hk];simp[hka]));obtain⟨q3,q4⟩:=uf (σ:=σ) (c:=c) (GP hq hk hs (by omega));exact⟨q1.trans q3,q2.trans q4⟩
         ·exact wT hsm (.kp q pa.arg xs i e' ex zs ys (HZ hq) hx1 (by rw[VW,bJ,hk];simp[hka]) (WX ha))
        ·cases hx;refine⟨q,i,rfl,by omega, ?_⟩
         unfold nameOf;rw[bG (by omega),bw (.inl hi)];exact GP hq hk hs (by omega)
       ·have hla:=GA.1 ha;refine⟨⟨λhn=>cO hf hn,λ_=>jm,λhx=>(by cases hx),λx hx=> ?_⟩,λx hx=> ?_⟩
        ·cases hx;exact⟨λhn=>cO hf hn, .inl ⟨e',ex,ys,rfl,wT hsm (.nw q pa.arg xs i e' ex ys (HZ hq) hx1 hla),hex⟩⟩
        ·cases hx;refine⟨q,100+i,rfl,by omega, ?_⟩
         unfold nameOf;rw[bG (by omega),bG (by omega)];congr 1;omega
      ·obtain⟨p1,p2,p3,_⟩:=P6.box n ys hbx;refine⟨⟨λ_=>I8 hq (by simp[Pa.um,hbx]),λhn=>(by rw[p3]at hn;cases hn),λhx=>(by cases hx),λx hx=> ?_⟩,λx hx=> ?_⟩
       ·cases hx;refine⟨λ_=> ?_, .inr ⟨JN,_,rfl,wT hsm (.ob q _ (by rw[HZ hq,p1])),hcr.mono (λe he=>bW _ he)⟩⟩
        obtain⟨q1,q2⟩:=gh (dU q 900) ((qy (HZ hq)).1 _ p1);obtain⟨q3,q4⟩:=uf (σ:=σ) (c:=c) (Bf hq hbx);exact⟨q1.trans q3,q2.trans q4⟩
       ·cases hx;refine⟨q,900,rfl,by omega, ?_⟩
        unfold nameOf;rw[bG (by omega),bw (.inr rfl)];exact Bf hq hbx
     ·obtain⟨q,x0,hq,hra⟩:=m1 n t ob hm;rcases hra with ⟨xs,j,e',ex,ys,hx,hj,rfl,rfl,rfl,hex,hf,jm⟩|⟨xs,rfl,rfl,rfl,rfl,hf,jm,hcr⟩
      ·have jW:=(aT.1 hj).1;have:=hsm.rl q x0 xs hq hx;refine⟨⟨λhn=>cO hf hn,λ_=>jm,λhx=>(by cases hx),λx py=> ?_⟩,λx py=> ?_⟩
       ·cases py;exact⟨λhn=>cO hf hn, .inl ⟨e',ex,ys,rfl,wT hsm (.rr q x0 xs j e' ex ys hq hx hj),hex⟩⟩
       ·cases py;refine⟨500+q,j,rfl,by omega, ?_⟩
        unfold nameOf;rw[bw (by omega),bG (by omega),show 500+q-500=q by omega]
      ·refine⟨⟨λhn=>cO hf hn,λ_=>jm,λhx=>(by cases hx),λx py=> ?_⟩,λx py=> ?_⟩
       ·cases py;exact⟨λhn=>cO hf hn, .inr ⟨_,_,rfl,wT hsm (.rb q xs hq),hcr.mono (λe he=>bP _ he)⟩⟩
       ·cases py;refine⟨500+q,900,rfl,by omega, ?_⟩
        unfold nameOf;rw[bw (by omega),bw rfl,show 500+q-500=q by omega]
    have II:((Lo++Lr).map (·.1)).Nodup:=by
     have:=qB h8;rw[<-iM]at this;unfold mq ka at this;rw[mg,mg]at this;have e1:(Lo++Lr).map (((λx:aE×eO=>x.1)∘λd:aE×Obj=>(c_ d.1,eO.o d.2))∘λt:Dc=>(t.1,t.2.2))=((Lo++Lr).map (·.1)).map c_:=by rw[mg];rfl
     rw[e1]at this;exact rH this
    have Sl:ok=ai->∀n∈ps.flatMap (·.nC),∃x,(n,x)∈Fz:=by
     intro hk n hn;rw[<-aiM]at hk;cases GL:E.tk nm with
     |true=>rw[GL]at z2;exact z2 n hn
     |false=>
      rw[GL]at hk;have:ps.flatMap (·.nC)=[]:=by simpa using hk
      rw[this]at hn;cases hn
    have hFz:∀n x,(n,x)∈Fz->ok=ai/\n∈ps.flatMap (·.nC)/\∃el ex xs,σ (c_ n)= .o (.row el ex xs)/\x= .fV el xs:=by
     intro n x hn;obtain⟨y1,y2⟩:=z1 n x hn;cases GL:E.tk nm with
     |true=>rw[GL]at y1;exact⟨by rw[<-aiM,GL];rfl,y1,y2⟩
     |false=>rw[GL]at y1;cases y1
    have hws:ka Fz++(mq Lo++mq Lr)++dw o (sb ss)=ka (Fz++(Lo++Lr).map λt=>(t.1,t.2.2))++dw o (sb ss):=by rw[<-iM];simp only[mq,ka,dh]
    obtain⟨c',k1,k2,k3,k4⟩:=leave cf dJ hd hh GI yv yw (L:=Lo++Lr) (Fz:=Fz) (λn t ob hm=>(hL n t ob hm).1) II
     (λn n' x ob ob' h1 h2=>by obtain⟨P1,J1,e1,e2,e3⟩:=(hL n _ ob h1).2 x rfl;obtain⟨P2,J2,f1,f2,f3⟩:=(hL n' _ ob' h2).2 x rfl;obtain⟨rfl,rfl⟩:=uq e2 f2 (e1.symm.trans f1);rw[e3]at f3;exact aJ f3)
     (λn hn=>by obtain⟨t,ob,h⟩:=l2 n hn;exact⟨t,ob,bW _ h⟩) hFz Sl
     (show E2 ok (Lo++Lr) ss (lx 500 r.rs)from⟨m2.1,λj x x3 hx hx3=>(m2.2 j x x3 hx hx3).mono (λe he=>bP _ he)⟩)
    show K (a.put o.dst v) w'';rw[<-hws]at k1 k2 k3;exact hK v w'' c' k1 k2 k3 k4.w
  ·simp at h
theorem G2(cf:Ok E σ w c)(dJ:fC E σ a w c){o:fA}(hd:∀d,o.dst=ah d->d<a.tmps.size){nm:aE}{ob ob':Obj}{s:SV}{v:bj}{w':bK}
  (hn:σ (c_ nm)= .o ob) (mS:pJ E w' c nm ob') (pN:∀b,fN c nm ob' b->fN c nm ob b)
  (IG:∀xs,ob'= .box xs->∀a∈xs,jf σ a)
  (yw:jh E w' c s v) (AH:mL σ s)
  (hW:∀b,b<w.heap.size->¬fN c nm ob b->w'.heap[b]? =w.heap[b]?) (gi:w.heap.size<=w'.heap.size) (OV:w'.os=w.os) (Xc:w'.tape=w.tape) (W7:w'.output=w.output):
  Ok E (wr σ ([(c_ nm, .o ob')]++dw o s)) w' c/\fC E (wr σ ([(c_ nm, .o ob')]++dw o s)) (a.put o.dst v) w' c/\oi σ c w (wr σ ([(c_ nm, .o ob')]++dw o s)) c w':=by
 let σ1:=pG σ (c_ nm) (.o ob');obtain⟨s1,s2,s3⟩:=rP σ1 o s;have key:∀m,wr σ1 (dw o s) (c_ m)=if m=nm then .o ob' else σ (c_ m):=λm=>by rw[s3];exact pU _ _ _ _
 have iw:∀m,σ (c_ m)≠ .jX->wr σ1 (dw o s) (c_ m)≠ .jX:=λm hm=>by rw[key];split<;>simp_all
 have gz:∀b,fN c nm ob b->jZ (λm=>m=nm) σ c b:=λb hb=>⟨nm,ob,rfl,hn,hb⟩
 have hh:=cf.change (σ':=wr σ1 (dw o s)) (w':=w') (c':=c) (λm=>m=nm) (λm hm=>by rw[key,bG hm]) iw (jA.refl _ _)
  (λb hb W6=>hW b hb (λhf=>W6 (gz b hf))) gi (λ_ h=>h) (λ_ h=> .inl h) (λb hb=>jt (cf.lt b hb) gi)
  (λm x hm ho=>by subst hm;rw[key,bw rfl]at ho;cases ho;exact mS)
  (λm x b hm ho hf=>by subst hm;rw[key,bw rfl]at ho;cases ho;exact⟨.inl (gz b (pN b hf)),cf.kk _ _ b hn (pN b hf)⟩)
  (λm x m' x' b hm w_ _ _ _ _=>by rw[hm,w_])
  (λm xs hm ho y hy n kF=>by subst hm;rw[key,bw rfl]at ho;cases ho;exact iw n (IG xs rfl y hy n kF)) OV Xc W7
 refine⟨hh.1, ?_,hh.2⟩
 refine dJ.change cf hh.2 (jA.refl _ _) iw o v (λn kF=>by rw[s1 n kF];exact jl _ _ _ _) (λd ho=>⟨hd d ho, ?_, ?_⟩)
 ·rw[s2 d ho];exact yw
 ·rw[s2 d ho];intro n kF;rw[key];split
  ·simp
  ·exact AH n kF
theorem La(hE:eC P E)(hF:∀g,b7 P E g (E.call g))(cf:Ok E σ w c)(dJ:fC E σ a w c)(hd:∀d,o.dst=ah d->d<a.tmps.size){cl:Call}{fx x y:dx}(ho:o.op= .call cl)(hb:cl.callee= .value fx)(rZ:cl.args.toList=[x,y])
  {f n i j:aE} (ef:eG E w c (.fn f []) (a.eval fx)) (hx:eG E w c (.inn n i j) (a.eval x)) (h:(Cd E o f n i j y).val σ=ah e) (hc:e.cond=ai):gU P E σ a w c o e.ws:=by
 unfold Cd at h;obtain⟨⟨k,m⟩,h1,h⟩:=Rd.bind_some h;have ey:=pQ dJ h1;obtain⟨ob,h2,h⟩:=Rd.bind_some h;have hg:=dy h2;split at h
 ·rename_i el xs;obtain⟨te,h3,h⟩:=Rd.bind_some h;have h6:=dX h3;split at h
  ·rename_i e2 zW;split at h
   ·rename_i cnd r IA;split at h
    ·rename_i k2 m2 Da hrs IL;obtain rfl:=aJ h;have hc:cnd=true:=hc;subst hc;obtain⟨⟨hi,hxv⟩,_⟩:=hx;obtain⟨zs,yy,t2,r1,r2,r3,r4,r5,r6,r7,r8⟩:=Be cf hg h6 zW hi;rw[fD r1 r2]at IA;simp only[iR]at IA;obtain⟨⟨t1,q1,gi,mG⟩,gh,gz⟩:=cf.obj n _ hg;obtain rfl:te=t1:=aJ (h6.symm.trans q1);have lZ:i<xs.length:=(aT.1 r1).1;obtain⟨jv,pv,hpb⟩:=gh.pos hi;have DC:gm xs i j:=⟨yy,_,r1,r2,rfl⟩
     generalize hq:c.G n i j=p at r5 r7 r8 hxv;let c1:eZ:=⟨λ_=>p,λ_ _ _=>⟨ai,0,0,0,0,0⟩,c.K⟩
     let args:aC fa:=[.v ak [.ow e2 ai zs], .v ak [.i k m]]
     have hO:∀q o',inj args (c_ q)= .o o'->q=dU 0 0/\o'= .row e2 ai zs:=by
      intro q o' hq';have hm:=nO hq' (by simp);simp only[args,KV,tq,vh,tp,EC,cu,dj,gD,BC,lL,or_false,jd]at hm;rcases hm with ⟨hm,_⟩|⟨hm,h⟩|⟨hm,_⟩
      ·exact cO hm (ml _ _)
      ·exact⟨jT hm,eO.o.inj h⟩
      ·exact cO hm (ml _ _)
     have hX:inj args (c_ (dU 0 0))= .o (.row e2 ai zs):=rfl;have Cq:∀i j,¬gm zs i j:=by rintro i j ⟨y,x,h1,h2,h3⟩;rw[iq r4 (r6 y (aR h1)) h2]at h3;cases h3
     have IB:∀b,fN c1 (dU 0 0) (.row e2 ai zs) b->p.nil=ak/\b=p.blk:=by
      rintro b (⟨h1,h2⟩|⟨_,i,j,h,_⟩)
      ·exact⟨h1,h2⟩
      ·exact cO h (Cq i j)
     have hpf:p.nil=ak->fN c n (.row el ai xs) p.blk:=λhn=> .inr ⟨rfl,i,j,DC,by rw[hq];exact hn,by rw[hq]⟩;have Sk:Ok E (inj args) w c1:=by
      refine⟨?_, ?_, ?_, ?_, ?_⟩
      ·intro q o' h;obtain⟨rfl,rfl⟩:=hO q o' h;exact⟨⟨t2,r3,r5,r6⟩,r7.frame (λ_=>rfl) (λi j y x u h1 h2 hr=>by rw[bw rfl];exact uz (iq r4 (r6 y (aR h1)) h2) hr),λ_=>⟨λi j h=>cO h (Cq i j),λi j i' j' h=>cO h (Cq i j)⟩⟩
      ·intro q o' q' o'' b h h' _ _;rw[(hO q o' h).1,(hO q' o'' h').1]
      ·intro q o' b h hf hk;obtain⟨rfl,rfl⟩:=hO q o' h;obtain⟨hn,rfl⟩:=IB b hf;exact cf.kk _ _ _ hg (hpf hn) hk
      ·exact cf.lt
      ·intro q bs h;obtain⟨_,h⟩:=hO q _ h;cases h
     have Su:(cl.args.map a.eval).size=args.length:=by
      have:cl.args.size=2:=by rw[<-dS,rZ];rfl
      simp[args,this]
     have VP:cl.args.map a.eval= #[a.eval x,a.eval y]:=by apply si;rw[Ae,rZ];rfl
     obtain⟨psv,he,GJ,_⟩:=ef;have arZ:psv= #[]:=Ad (by simpa using GJ);subst arZ;obtain⟨⟨fn,g1,g2,g3⟩,KK⟩:=hF f args r IA w c1 #[a.eval x,a.eval y] Sk rfl (by
      intro q arg hqa;match q with
      |0=>cases hqa;exact⟨_,rfl,hxv⟩
      |1=>cases hqa;exact⟨_,rfl,ey⟩
      |q+2=>cases hqa)
     unfold gU;intro K Q hK;unfold Oc;rw[EU (vs:= #[a.eval x,a.eval y]) ho hb g1 g2 g3 he,VP,Array.append_empty,Vz];refine Calls.mono KK (λen w' hR=> ?_);cases en with
     |panicked=>exact hR.elim
     |outgrown=>exact hR.elim
     |returned v=>
      obtain⟨c3,GI,yv,ui,yw⟩:=hR;obtain⟨rs,outs⟩:=r;simp only at hrs IL;subst hrs;subst IL;have hv:v= .int k2 m2:=yw;have hp3:c3.P (dU 0 0)=p:=(ui (dU 0 0) (by rw[hX];simp)).1;have hX3:oe args ⟨[.v ak [.i k2 m2]],[[.kp Da]]⟩ (c_ (dU 0 0))= .o (.row e2 ai Da):=rfl;obtain⟨⟨t3,u1,u2,u3⟩,u4,_⟩:=GI.obj _ _ hX3;obtain rfl:t2=t3:=aJ (r3.symm.trans u1);rw[hp3]at u2 u4;have ark:jg w' p Da (λ_ _ u x=>Sc u x):=u4.frame (λ_=>rfl) (λi j y x u h1 h2 hr=>by rw[bw rfl]at hr;exact uB hr (iq r4 (u3 y (aR h1)) h2));have rD:∀b,b<w.heap.size->¬(p.nil=ak/\b=p.blk)->w'.heap[b]? =w.heap[b]? :=λb hb KP=>yv.same b hb (by rintro ⟨q,o',h1,h2⟩;obtain⟨rfl,rfl⟩:=hO q o' h1;exact KP (IB b h2));have hjk:j<te.ks.length:=(aT.1 zW).1;have aex:[CV.l e2 Da].map CV.kd=(te.ks.drop j).take [CV.l e2 Da].length:=by rw[bz,List.take_one,List.head?_drop,zW];rfl
      have sD:=xV (i:=i) (j:=j) (cs:=[CV.l e2 Da]) mG aex (by simp;omega) lZ;have IE:=k_ mG;have B_:=k_ sD;have same:∀i' j',gm (eA xs i j [CV.l e2 Da]) i' j'->gm xs i' j':=λi' j' hx=>(IE i' j').2 (by have:=(B_ i' j').1 hx;rwa[jk]at this);have jm:∀b,fN c n (.row el ai xs) b->b<w.heap.size:=λb hb=>wy.lt cf ⟨n,_,hg,hb⟩;have aeF:p.nil=ak->(c.P n).blk≠p.blk:=λhn e=>(gz rfl).out i j DC (by rw[hq];exact hn) jv (by rw[hq];exact e.symm);have oF:jg w' (c.P n) (eA xs i j [CV.l e2 Da]) (λi1 j1 u1 x1=>if ai=ai then XC E w' (c.G n) i1 j1 u1 x1 else da E w' c.K u1 x1):=by
       obtain⟨vs,k1,k2,k3,k4,k5⟩:=gh.mem jv;refine⟨by rw[jk];exact gh.n,λhn=>(by rw[jv]at hn;cases hn),λ_=>⟨vs,k1.frame (rD _ (jm _ (.inl ⟨jv,rfl⟩)) (λh=>aeF h.1 h.2)),k2,k3,k4,λi1 y1 j1 x1 g1 g2=> ?_⟩⟩
       rw[xT r1]at g1;simp only[if_true]at k5⊢;by_cases ID:i1=i
       ·subst ID;rw[bw rfl]at g1;cases g1;have IP:yy.length=te.ks.length:=by rw[<-mG yy (aR r1)];simp
        rw[pj (by simp;omega)]at g2;by_cases hqq:j<=j1/\j1<j+[CV.l e2 Da].length
        ·rw[bw hqq]at g2;have:j1=j:=by simp at hqq;omega
         subst this;simp at g2;subst g2;obtain⟨u,hu,hr⟩:=k5 _ _ _ _ r1 r2;refine⟨u,hu,hr.1,t2,r3,r4,by rw[hq];exact r5,u3,by rw[hq];exact ark⟩
        ·rw[bG hqq]at g2;obtain⟨u,hu,hr⟩:=k5 _ _ _ _ r1 g2;refine⟨u,hu,hr.frame (λhl hn=>rD _ (jm _ (.inr ⟨rfl,_,_,⟨yy,x1,r1,g2,hl⟩,hn,rfl⟩)) (λe=> ?_))⟩
         have:=((gz rfl).one _ _ _ _ ⟨yy,x1,r1,g2,hl⟩ DC hn (by rw[hq];exact e.1) (by rw[hq];exact e.2)).2;simp at hqq;omega
       ·rw[bG ID]at g1;obtain⟨u,hu,hr⟩:=k5 _ _ _ _ g1 g2;exact⟨u,hu,hr.frame (λhl hn=>rD _ (jm _ (.inr ⟨rfl,_,_,⟨y1,x1,g1,g2,hl⟩,hn,rfl⟩)) (λe=>ID ((gz rfl).one _ _ _ _ ⟨y1,x1,g1,g2,hl⟩ DC hn (by rw[hq];exact e.1) (by rw[hq];exact e.2)).1))⟩
      obtain⟨z1,z2,z3⟩:=G2 cf dJ hd hg (ob':= .row el ai (eA xs i j [CV.l e2 Da])) (w':=w') (s:= .v ak [.i k2 m2]) (v:=v)
       ⟨⟨te,q1,gi,sD⟩,oF,λhx=>⟨λi1 j1 hh=>(gz hx).out i1 j1 (same i1 j1 hh),λi1 j1 i2 j2 h1 h2=>(gz hx).one i1 j1 i2 j2 (same i1 j1 h1) (same i2 j2 h2)⟩⟩
       (by
        rintro b (hb|⟨hx,i1,j1,hh,hn⟩)
        ·exact .inl hb
        ·exact .inr ⟨hx,i1,j1,same i1 j1 hh,hn⟩)
       (λzs hz=>by cases hz) hv (λn hn=>by simp[cJ,bN]at hn)
       (λb hb P4=>rD b hb (λe=>P4 (by rw[e.2];exact hpf e.1))) yv.size yv.os yv.tape yv.output
      exact hK v w' c z1 z2 z3 (jA.refl _ _).w
    ·simp at h
   ·simp at h
  ·simp at h
 ·simp at h
theorem Hk{α:Type}{x y:Rd α}{σ:St}{e:α}(h:(x.or y).val σ=ah e):x.val σ=ah e\/y.val σ=ah e:=by
 induction x with
 |ret a=>exact .inl h
 |fail=>exact .inr h
 |get k f ih=>
  have h':((f (σ k)).or y).val σ=ah e:=by rw[<-h];unfold Rd.val;simp only[Rd.or,Rd.run];rw[lk,lk]
  rcases ih (σ k) h' with h|h
  ·refine .inl ?_;rw[<-h];unfold Rd.val;simp only[Rd.run];rw[lk,lk]
  ·exact .inr h
theorem Cs(hE:eC P E)(hF:∀g,b7 P E g (E.call g))(cf:Ok E σ w c)(dJ:fC E σ a w c)(hd:∀d,o.dst=ah d->d<a.tmps.size){cl:Call}{fx:dx}(ho:o.op= .call cl)(hb:cl.callee= .value fx){f:aE}{iQ:aC (aC CV)}(ef:eG E w c (.fn f iQ) (a.eval fx)){P_:aC aE}(h:(MH E nm o f cl.args.toList P_ iQ).val σ=ah e)(hc:e.cond=ai):gU P E σ a w c o e.ws:=by
 rcases Hk h with h|h
 ·exact Jc hE hF cf dJ hd ho hb ef h hc
 ·exact Jc hE hF cf dJ hd ho hb ef h hc
theorem YM(hE:eC P E)(hF:∀g,b7 P E g (E.call g))(cf:Ok E σ w c)(dJ:fC E σ a w c)(hd:∀d,o.dst=ah d->d<a.tmps.size){cl:Call}{fx:dx}(ho:o.op= .call cl)(hb:cl.callee= .value fx)(h:(l_ E nm o).val σ=ah e)(hc:e.cond=ai):gU P E σ a w c o e.ws:=by
 simp only[l_,ho,hb]at h;obtain⟨fv,h1,h⟩:=Rd.bind_some h;have ef:=(iX dJ h1).1;cases fv with
 |fn f iQ=>
  simp only at h;split at h
  ·rename_i x y rZ;obtain⟨sx,h2,h⟩:=Rd.bind_some h;split at h
   ·rename_i n i j;cases hm:E.mode f 0 with
    |true=>rw[hm,au]at h;exact La hE hF cf dJ hd ho hb rZ ef (mm dJ h2).1 h hc
    |false=>rw[hm,ay]at h;exact Cs hE hF cf dJ hd ho hb ef h hc
   ·exact Cs hE hF cf dJ hd ho hb ef h hc
  ·exact Cs hE hF cf dJ hd ho hb ef h hc
 |_=>simp at h
end
end Go.FG

namespace Go.FG
section
variable {P:cZ} {E:fU} {σ:St} {a:Act} {w:bK} {c:eZ} {o:fA} {nm:aE} {e:sO}
theorem ak6(hE:eC P E)(hF:∀g,b7 P E g (E.call g))(cf:Ok E σ w c)(dJ:fC E σ a w c)(hd:∀d,o.dst=ah d->d<a.tmps.size)(h:(l_ E nm o).val σ=ah e)(hc:e.cond=ai):gU P E σ a w c o e.ws:=by
 cases ho:o.op with
 |move x=>exact Nv cf dJ hd (.inl ho) h
 |assign x=>exact Nv cf dJ hd (.inr ho) h
 |nilCheck x=>exact Je cf dJ hd ho h
 |pick x y z=>exact YO cf dJ hd ho h hc
 |alloc t=>exact TT hE cf dJ hd ho h
 |box t x=>exact afD cf dJ hd ho h
 |build t ps=>exact TV hE cf dJ hd ho h
 |buildSlice t n ps=>exact DL hE cf dJ hd ho h hc
 |load t p=>exact YN hE cf dJ hd ho h
 |store t p x=>exact T0 hE cf dJ hd ho h
 |fieldAddr t p f=>exact GW hE cf dJ hd ho h
 |field t x f=>exact TX hE cf dJ hd ho h
 |indexAddr t x i=>exact GX hE cf dJ hd ho h hc
 |index t x i=>exact TY hE cf dJ hd ho h hc
 |binOp op t x y ty=>exact TU hE cf dJ hd ho h hc
 |unOp op t x=>exact YP cf dJ hd ho h
 |convert s d x=>exact Lb hE cf dJ hd ho h hc
 |makeSlice t l m=>exact GY hE cf dJ hd ho h hc
 |slice t x lo hi mx=>exact TZ hE cf dJ hd ho h hc
 |extract x i=>exact Lc cf dJ hd ho h
 |makeFunc f first iQ=>exact Jd cf dJ hd ho h
 |call cl=>
  cases hb:cl.callee with
  |value f=>exact YM hE hF cf dJ hd ho hb h hc
  |builtin b=>
   cases b with
   |len=>exact afF hE cf dJ hd ho hb h
   |cap=>exact afE hE cf dJ hd ho hb h
   |min=>exact EL ak cf dJ hd ho hb h
   |max=>exact EL ai cf dJ hd ho hb h
   |clear=>exact TW hE cf dJ hd ho hb h
   |append=>exact Pb hE cf dJ hd ho hb h hc
   |_=>simp[l_,ho,hb]at h
  |_=>simp[l_,ho,hb]at h
 |_=>simp[l_,ho]at h
end
end Go.FG

namespace Go.FG
theorem CW{σ:St}{k:aE}{c:eO}(h:σ k=c):pG σ k c=σ:=by
 funext n;by_cases hn:n=k
 ·subst hn;rw[tP,h]
 ·rw[zI σ c hn]
def Vw(c c':eZ):Prop:=∀m,900000000<=m->c'.P m=c.P m/\c'.G m=c.G m
theorem Vw.refl(c:eZ):Vw c c:=λ_ _=>⟨rfl,rfl⟩
theorem Vw.trans{c c1 c2:eZ}(h:Vw c c1)(k:Vw c1 c2):Vw c c2:=λm hm=>⟨(k m hm).1.trans (h m hm).1,(k m hm).2.trans (h m hm).2⟩
theorem Xo{m:aE}(h:900000000<=m):zo m=false:=by
 unfold zo;cases hb:qk m 900000000 with
 |true=>have:m<900000000:=by simpa [Ak]using hb
        omega
 |false=>simp
theorem qN.aga{σ:St}{c c':eZ}(h:qN σ c c'):Vw c c':=λm hm=>⟨(h m (.inr hm)).1,(h m (.inr hm)).2 (Xo hm)⟩
def mn(all:dq fA)(o:fA)(σ:St):az aW:=
 match o.guard with
 |none=>ah ai
 |some (g,want)=>match (all.getD g default).dst with
  |none=>aj
  |some d=>match σ (qg d)with| .v (.v ak [.b x])=>ah (x==want)| .v (.j9 [])=>ah ak|_=>aj
def pM(all:dq fA)(o:fA):aC aE:=
 match o.guard with
 |none=>[]
 |some (g,_)=>match (all.getD g default).dst with|none=>[]|some d=>[qg d]
def va(E:fU)(all:dq fA)(nm:aE)(o:fA)(σ:St)(ws:aC (aE×eO))(lg:Lg):Prop:=
 (mn all o σ=ah ai/\∃e l,(l_ E nm o).run σ []=ah (e,l)/\e.cond=ai/\ws=e.ws/\lg=⟨pM all o++l,e.ws.map (·.1)⟩)\/
 (mn all o σ=ah ak/\ws=dw o (.j9 [])/\lg=⟨pM all o,(dw o (.j9 [])).map (·.1)⟩)
def K8(n6 i:aE):aE:=(n6+1)*1000000+i*1000
abbrev Tr:=aC (aC (aE×eO)×Lg)
def wk(E:fU)(all:dq fA)(n6:aE):aE->aC fA->St->Tr->St->Prop
 |_,[],σ,tr,σ'=>tr=[]/\σ'=σ
 |i,o::os,σ,tr,σ'=>∃ws lg tr',tr=(ws,lg)::tr'/\va E all (K8 n6 i) o σ ws lg/\wk E all n6 (i+1) os (wr σ ws) tr' σ'
theorem Pc{R:Type}(E:fU)(all:dq fA)(n6:aE):∀(os:aC fA) (i:aE) (σ:St) (lg:aC Lg) (K:St->aC Lg->az R) (r:R),ops E all n6 i os σ lg K=ah r->
  ∃tr σ',wk E all n6 i os σ tr σ'/\K σ' ((tr.map (·.2)).reverse++lg)=ah r:=by
 intro os;induction os with
 |nil=>intro i σ lg K r h;exact⟨[],σ,⟨rfl,rfl⟩,by simpa [ops]using h⟩
 |cons o os ih=>
  intro i σ lg K r h;have next:∀ws l,va E all (K8 n6 i) o σ ws l->ops E all n6 (i+1) os (wr σ ws) (l::lg) K=ah r->∃tr σ',wk E all n6 i (o::os) σ tr σ'/\K σ' ((tr.map (·.2)).reverse++lg)=ah r:=by intro ws l hs h;obtain⟨tr,σ',h1,h2⟩:=ih _ _ _ _ _ h;exact⟨(ws,l)::tr,σ',⟨ws,l,tr,rfl,hs,h1⟩,by simpa using h2⟩
  have ak8:∀rs,rs=pM all o->mn all o σ=ah ai->(match (l_ E (K8 n6 i) o).run σ []with
    |some (e,l)=>bif e.cond then ops E all n6 (i+1) os (wr σ e.ws) (⟨rs++l,e.ws.map (·.1)⟩::lg) K else aj
    |none=>aj)=ah r->∃tr σ',wk E all n6 i (o::os) σ tr σ'/\K σ' ((tr.map (·.2)).reverse++lg)=ah r:=by
   intro rs hrs hw h
   cases hr:(l_ E (K8 n6 i) o).run σ []with
   |none=>rw[hr]at h;cases h
   |some el=>
    obtain⟨e,l⟩:=el;rw[hr]at h;cases hc:e.cond with
    |false=>simp[hc]at h
    |true=>simp only[hc,au]at h;exact next e.ws _ (.inl ⟨hw,e,l,hr,hc,rfl,by rw[hrs]⟩) h
  unfold ops at h;simp(config:={zeta:=false}) only[Eu]at h;cases hg:o.guard with
  |none=>rw[hg]at h;exact ak8 [] (by simp[pM,hg]) (by simp[mn,hg]) h
  |some gw=>
   obtain⟨g,want⟩:=gw;rw[hg]at h;dsimp only at h;cases hd:(all.getD g default).dst with
   |none=>rw[hd]at h;cases h
   |some d=>
    rw[hd]at h;dsimp only at h;have yv:pM all o=[qg d]:=by unfold pM;rw[hg];dsimp only;rw[hd]
    cases hs:σ (qg d)with
    |v sv=>
     rw[hs]at h;cases sv with
     |v agg xs=>
      cases agg with
      |true=>cases h
      |false=>
       match xs with
       |[]=>cases h
       |_::_::_=>simp at h
       |[av]=>
        cases av with
        |b x=>
         have hwa:mn all o σ=ah (x==want):=by unfold mn;rw[hg];dsimp only;rw[hd];dsimp only;rw[hs]
         have hup:pG σ (qg d) (.v (.v ak [.b x]))=σ:=CW hs;have skip:mn all o σ=ah ak->ops E all n6 (i+1) os (wr (pG σ (qg d) (.v (.v ak [.b x]))) (dw o (.j9 []))) (⟨[qg d],(dw o (.j9 [])).map (·.1)⟩::lg) K=ah r->∃tr σ',wk E all n6 i (o::os) σ tr σ'/\K σ' ((tr.map (·.2)).reverse++lg)=ah r:=by intro hw h;rw[hup]at h;exact next (dw o (.j9 [])) _ (.inr ⟨hw,rfl,by rw[yv]⟩) h
         have abP:mn all o σ=ah ai->(match (l_ E (K8 n6 i) o).run (pG σ (qg d) (.v (.v ak [.b x]))) []with
           |some (e,l)=>bif e.cond then ops E all n6 (i+1) os (wr (pG σ (qg d) (.v (.v ak [.b x]))) e.ws) (⟨qg d::l,e.ws.map (·.1)⟩::lg) K else aj
           |none=>aj)=ah r->∃tr σ',wk E all n6 i (o::os) σ tr σ'/\K σ' ((tr.map (·.2)).reverse++lg)=ah r:=by
          intro hw h
          rw[hup]at h
          exact ak8 [qg d] yv.symm hw h
         cases x with
         |true=>
          cases want with
          |true=>exact abP (by rw[hwa];rfl) h
          |false=>exact skip (by rw[hwa];rfl) h
         |false=>
          cases want with
          |true=>exact skip (by rw[hwa];rfl) h
          |false=>exact abP (by rw[hwa];rfl) h
        |_=>simp at h
     |j9 l=>cases l with
      |nil=>
       have hwa:mn all o σ=ah false:=by unfold mn;rw[hg];dsimp only;rw[hd];dsimp only;rw[hs]
       exact next (dw o (.j9 [])) _ (.inr ⟨hwa,rfl,by rw[yv]⟩) h
      |cons=>simp at h
     |un=>simp at h
    |o x=>rw[hs]at h;cases h
    |jX=>rw[hs]at h;cases h
section
variable {P:cZ} {E:fU} {σ:St} {a:Act} {w:bK} {c:eZ} {o:fA} {nm:aE} {e:sO}
theorem EZ(dJ:fC E σ a w c){all:dq fA}{x:aW}(h:mn all o σ=ah x):u9 o (yielded all a.tmps)=x:=by
 unfold mn at h;unfold u9;cases hg:o.guard with
 |none=>rw[hg]at h;simp at h;simp[<-h]
 |some gw=>
  obtain⟨g,want⟩:=gw;rw[hg]at h;simp only at h⊢;cases hd:(all.getD g default).dst with
  |none=>rw[hd]at h;cases h
  |some d=>
   rw[hd]at h;have hgo:(all[g]?).bind (·.dst)=ah d:=by
    rw[eI]at hd;cases hq:all[g]? with
    |none=>rw[hq]at hd;cases hd
    |some og=>rw[hq]at hd;exact hd
   simp only at h;split at h
   ·rename_i y hy;have h1:=dJ.ok d;have:slot σ d= .v ak [.b y]:=by unfold slot;rw[hy]
    rw[this]at h1;have h1:a.eval (.tmp d)= .bool y:=h1;have ht:a.tmps[d]? =ah (.bool y):=by
     have h2:a.tmps.getD d undef= .bool y:=h1;rw[eI]at h2;cases hq:a.tmps[d]? with
     |none=>rw[hq]at h2;cases h2
     |some v=>rw[hq]at h2;rw[show v=_ from h2]
    have IP:yielded all a.tmps g=ah y:=by unfold yielded;rw[hgo];simp[ht]
    rw[IP];simp at h;rw[<-h];cases y<;>cases want<;>rfl
   ·rename_i hy;have h1:=dJ.ok d;have:slot σ d= .j9 []:=by unfold slot;rw[hy]
    rw[this]at h1;obtain⟨vs,h1,h3,_⟩:=h1;have h4:vs= #[]:=by simpa using h3
    subst h4;have ht:a.tmps.getD d undef= .tuple #[]:=h1;have IP:yielded all a.tmps g=none:=by
     unfold yielded;rw[hgo];rw[eI]at ht;cases hq:a.tmps[d]? with
     |none=>simp[hq]
     |some v=>rw[hq]at ht;simp at ht;simp[hq,ht]
    rw[IP];have h5:ak=x:=by simpa using h
    rw[<-h5];cases want<;>rfl
   ·cases h
theorem Act.Uu(a:Act)(d:az Tmp)(v:bj):(a.put d v).tmps.size=a.tmps.size:=by cases d<;>simp[Vx]
theorem Bk(hE:eC P E)(hF:∀g,b7 P E g (E.call g))(cf:Ok E σ w c)(dJ:fC E σ a w c)(hd:∀d,o.dst=ah d->d<a.tmps.size){all:dq fA}{i:aE}(hi:all[i]? =ah o){ws:aC (aE×eO)}{lg:Lg}(h:va E all nm o σ ws lg)
  {K:Act->bK->Prop} {Q:Exit->Act->bK->Prop} (hK:∀v w' c',Ok E (wr σ ws) w' c'->fC E (wr σ ws) (a.put o.dst v) w' c'->oi σ c w (wr σ ws) c' w'->qN σ c c'->K (a.put o.dst v) w'):wpOp P all Q i K a w:=by
 unfold wpOp;rw[hi];simp only;rcases h with ⟨hw,e,l,hr,hc,rfl,_⟩|⟨hw,rfl,_⟩
 ·rw[bw (EZ dJ hw)];exact .inl (ak6 hE hF cf dJ hd (Rd.LJ hr) hc K Q hK)
 ·rw[bG (by rw[EZ dJ hw];simp)];obtain⟨s1,s2,s3⟩:=rP σ o (.j9 []);obtain⟨h1,h2⟩:=cf.slot s3;refine hK undef w c h1 ?_ h2 (jA.refl _ _).w;refine dJ.change cf h2 (jA.refl _ _) (λnm hn=>by rw[s3];exact hn) o undef s1 (λd ho=>⟨hd d ho, ?_, ?_⟩)
  ·rw[s2 d ho];exact⟨#[],rfl,rfl,λj agg xs hj=>by simp at hj⟩
  ·rw[s2 d ho];intro n hn;simp[cJ]at hn
structure At (P:cZ) (E:fU) (N:aE) (σ0:St) (c0:eZ) (w0:bK) (σ:St) (a:Act) (w:bK) (c:eZ):Prop where
 ok:Ok E σ w c
 sl:fC E σ a w c
 sz:a.tmps.size=N
 gr:oi σ0 c0 w0 σ c w
 ag:Vw c0 c
theorem At.step{N:aE}{σ0:St}{c0:eZ}{w0:bK}(h:At P E N σ0 c0 w0 σ a w c){d:az Tmp}{v:bj}{w':bK}{c':eZ}{σ':St}(h1:Ok E σ' w' c')(h2:fC E σ' (a.put d v) w' c')(h3:oi σ c w σ' c' w')(h4:qN σ c c'):At P E N σ0 c0 w0 σ' (a.put d v) w' c':=
 ⟨h1,h2,by rw[Act.Uu];exact h.sz,h.gr.trans h3,h.ag.trans h4.aga⟩
theorem Kl(hE:eC P E)(hF:∀g,b7 P E g (E.call g)){N:aE}{σ0:St}{c0:eZ}{w0:bK}{all:dq fA}{n6:aE}{Q:Exit->Act->bK->Prop}:∀(os:aC fA) (i:aE) (σ:St) (tr:Tr) (σ':St),wk E all n6 i os σ tr σ'->(∀j o,os[j]? =ah o->all[i+j]? =ah o)->(∀o∈os,∀d,o.dst=ah d->d<N)->
  (∀a w c,At P E N σ0 c0 w0 σ' a w c->Q .normal a w)->∀a w c,At P E N σ0 c0 w0 σ a w c->wpOps P all Q (iP i os.length) a w:=by
 intro os;induction os with
 |nil=>intro i σ tr σ' h _ _ hQ a w c gh;obtain⟨_,rfl⟩:=h;exact hQ a w c gh
 |cons o os ih=>intro i σ tr σ' h nN B9 hQ a w c gh;obtain⟨ws,lg,tr',rfl,hs,VQ⟩:=h;have hi:all[i]? =ah o:=nN 0 o rfl;rw[de,List.range'_succ,wpOps_cons];refine Bk hE hF gh.ok gh.sl (λd hd=>by rw[gh.sz];exact B9 o (dL ..) d hd) hi hs (λv w' c' h1 h2 h3 h4=> ?_);exact ih (i+1) _ _ _ VQ (λj o' hj=>by have:=nN (j+1) o' hj;rwa[show i+(j+1)=i+1+j by omega]at this) (λo' vg=>B9 o' (c7 _ vg)) hQ _ _ _ (gh.step h1 h2 h3 h4)
end
end Go.FG

namespace Go.FG
theorem Rd.Y3{α:Type}(m:Rd α):∀{σ:St} {l l':aC aE} {a:α},m.run σ l=ah (a,l')->∀k∈l,k∈l':=by
 induction m with
 |ret a=>intro σ l l' b h k hk;cases h;exact hk
 |fail=>intro σ l l' b h;cases h
 |get k f ih=>intro σ l l' b h k' vf;exact ih _ h k' (c7 _ vf)
theorem Rd.PD{α:Type}(m:Rd α):∀{σ σ':St} {l l':aC aE} {a:α},m.run σ l=ah (a,l')->(∀k∈l',σ' k=σ k)->m.run σ' l=ah (a,l'):=by
 induction m with
 |ret a=>intro σ σ' l l' b h _;exact h
 |fail=>intro σ σ' l l' b h;cases h
 |get k f ih=>intro σ σ' l l' b h hk;have h:(f (σ k)).run σ (k::l)=ah (b,l'):=h;have vf:σ' k=σ k:=hk k (Rd.Y3 _ h k (dL ..));show(f (σ' k)).run σ' (k::l)=ah (b,l');rw[vf];exact ih _ h hk
theorem x_{all:dq fA}{o:fA}{σ σ':St}(h:∀k∈pM all o,σ' k=σ k):mn all o σ'=mn all o σ:=by
 unfold mn pM at*
 cases hg:o.guard with
 |none=>rfl
 |some gw=>
  obtain⟨g,want⟩:=gw;rw[hg]at h;dsimp only at h⊢;cases hd:(all.getD g default).dst with
  |none=>rfl
  |some d=>rw[hd]at h;dsimp only at h⊢;rw[h (qg d) (a_.2 rfl)]
theorem va.congr{E:fU}{all:dq fA}{nm:aE}{o:fA}{σ σ':St}{ws:aC (aE×eO)}{lg:Lg}(h:va E all nm o σ ws lg)(hk:∀k∈lg.rs,σ' k=σ k):va E all nm o σ' ws lg:=by
 rcases h with ⟨h1,e,l,h2,h3,rfl,rfl⟩|⟨h1,rfl,rfl⟩
 ·refine .inl ⟨by rw[x_ (λk vf=>hk k (bW _ vf))];exact h1,e,l,Rd.PD _ h2 (λk vf=>hk k (bP _ vf)),h3,rfl,rfl⟩
 ·exact .inr ⟨by rw[x_ (λk vf=>hk k vf)];exact h1,rfl,rfl⟩
theorem va.keys{E:fU}{all:dq fA}{nm:aE}{o:fA}{σ:St}{ws:aC (aE×eO)}{lg:Lg}(h:va E all nm o σ ws lg):lg.ws=ws.map (·.1):=by rcases h with ⟨h1,e,l,h2,h3,rfl,rfl⟩|⟨h1,rfl,rfl⟩<;>rfl
theorem po:∀{ws:aC (aE×eO)} {σ:St} {k:aE},k∉ws.map (·.1)->wr σ ws k=σ k:=by
 intro ws;induction ws with
 |nil=>intro σ k _;rfl
 |cons d ws ih=>obtain⟨k',c⟩:=d;intro σ k h;rw[fB,cu,not_or]at h;show wr (pG σ k' c) ws k=σ k;rw[ih h.2,zI σ c h.1]
theorem Vn:∀{ws:aC (aE×eO)} {σ σ':St} {k:aE},k∈ws.map (·.1)->wr σ ws k=wr σ' ws k:=by
 intro ws;induction ws with
 |nil=>intro σ σ' k h;cases h
 |cons d ws ih=>
  obtain⟨k',c⟩:=d;intro σ σ' k h;show wr (pG σ k' c) ws k=wr (pG σ' k' c) ws k;by_cases hk:k∈ws.map (·.1)
  ·exact ih hk
  ·have:k=k':=by
    rcases cu.1 h with h|h
    ·exact h
    ·exact cO h hk
   subst this;rw[po hk,po hk,tP,tP]
theorem Vm{ws:aC (aE×eO)}{σ σ':St}{k:aE}(h:σ k=σ' k):wr σ ws k=wr σ' ws k:=by
 by_cases hk:k∈ws.map (·.1)
 ·exact Vn hk
 ·rw[po hk,po hk];exact h
def C8:Tr->aE->(aE->aW)->St->St
 |[],_,_,σ=>σ
 |(ws,_)::tr,i,S,σ=>C8 tr (i+1) S (bif S i then wr σ ws else σ)
theorem uA:∀{tr:Tr} {i:aE} {S S':aE->aW} {σ σ':St} {k:aE},σ k=σ' k->(∀j ws lg,tr[j]? =ah (ws,lg)->S (i+j)≠S' (i+j)->k∉ws.map (·.1))->C8 tr i S σ k=C8 tr i S' σ' k:=by
 intro tr;induction tr with
 |nil=>intro i S S' σ σ' k h _;exact h
 |cons d tr ih=>
  obtain⟨ws,lg⟩:=d;intro i S S' σ σ' k h hd;refine ih ?_ (λj DR C7 hj iw=>hd (j+1) DR C7 hj (by rwa[show i+(j+1)=i+1+j by omega]));by_cases hS:S i=S' i
  ·rw[hS];cases S' i
   ·exact h
   ·exact Vm h
  ·have hk:=hd 0 ws lg rfl hS;cases hs:S i<;>cases hs':S' i
   ·exact cO (hs.trans hs'.symm) hS
   ·show σ k=wr σ' ws k;rw[po hk];exact h
   ·show wr σ ws k=σ' k;rw[po hk];exact h
   ·exact cO (hs.trans hs'.symm) hS
theorem CS:∀{tr:Tr} {i:aE} {S:aE->aW} {σ:St},(∀j,i<=j->S j=ak)->C8 tr i S σ=σ:=by
 intro tr;induction tr with
 |nil=>intro i S σ _;rfl
 |cons d tr ih=>obtain⟨ws,lg⟩:=d;intro i S σ h;show C8 tr (i+1) S (bif S i then wr σ ws else σ)=σ;rw[h i (cw _)];exact ih (λj hj=>h j (by omega))
theorem Vc:∀{tr:Tr} {i j:aE} {S:aE->aW} {σ:St} {ws:aC (aE×eO)} {lg:Lg},tr[j]? =ah (ws,lg)->S (i+j)=ai->(∀q,i+j<q->S q=ak)->∃τ,C8 tr i S σ=wr τ ws:=by
 intro tr;induction tr with
 |nil=>intro i j S σ ws lg h;simp at h
 |cons d tr ih=>
  obtain⟨DR,C7⟩:=d;intro i j S σ ws lg h hS hn;cases j with
  |zero=>
   cases h;refine⟨σ, ?_⟩
   show C8 tr (i+1) S (bif S i then wr σ DR else σ)=wr σ DR;rw[show S i=ai from hS];exact CS (λq hq=>hn q (by omega))
  |succ j=>exact ih (i:=i+1) h (by rwa[show i+1+j=i+(j+1)by omega]) (λq hq=>hn q (by omega))
theorem RS{E:fU}{all:dq fA}{n6:aE}:∀{os:aC fA} {i:aE} {σ σ':St} {tr:Tr},wk E all n6 i os σ tr σ'->tr.length=os.length/\C8 tr i (λ_=>ai) σ=σ'/\
  ∀(j:aE) (o:fA),os[j]? =ah o->∃ws lg,tr[j]? =ah (ws,lg)/\va E all (K8 n6 (i+j)) o (C8 tr i (λq=>decide (q<i+j)) σ) ws lg:=by
 intro os;induction os with
 |nil=>intro i σ σ' tr h;obtain⟨rfl,rfl⟩:=h;exact⟨rfl,rfl,λj o h=>by simp at h⟩
 |cons o os ih=>
  intro i σ σ' tr h;obtain⟨ws,lg,tr',rfl,hs,VQ⟩:=h;obtain⟨h1,h2,h3⟩:=ih VQ;refine⟨by simp[h1],h2,λj o' hj=> ?_⟩
  cases j with
  |zero=>
   cases hj;refine⟨ws,lg,rfl, ?_⟩
   rw[show C8 ((ws,lg)::tr') i (λq=>decide (q<i+0)) σ=σ from CS (λq hq=>by simp;omega)];exact hs
  |succ j=>
   obtain⟨DR,C7,q1,q2⟩:=h3 j o' hj;refine⟨DR,C7,q1, ?_⟩
   have e1:C8 ((ws,lg)::tr') i (λq=>decide (q<i+(j+1))) σ=C8 tr' (i+1) (λq=>decide (q<i+1+j)) (wr σ ws):=by show C8 tr' (i+1) (λq=>decide (q<i+(j+1))) (bif decide (i<i+(j+1))then wr σ ws else σ)=_;rw[aG (by omega:i<i+(j+1))];rw[show i+(j+1)=i+1+j by omega];rfl
   rw[e1,show i+(j+1)=i+1+j by omega];exact q2
theorem s8{a b:Lg}(h:BT a b=ak):(∀k∈a.ws,k∉b.ws)/\(∀k∈a.ws,k∉b.rs)/\∀k∈b.ws,k∉a.rs:=by simp only[BT,mH,aL]at h;exact⟨oK h.1.1,oK h.1.2,oK h.2⟩
theorem zr{l:aC aE}{n:aE}(h:mF n l=ai):n∈l:=by
 induction l with
 |nil=>cases h
 |cons m r ih=>
  simp only[mF,dM]at h;rcases h with h|h
  ·rw[aU h];exact dL ..
  ·exact c7 _ (ih h)
theorem Kh{an:aC aE}{j:aE}{a:Lg}:∀{l:aC Lg} {i:aE},A3 an j a i l=ai->∀(q:aE) (b:Lg),l[q]? =ah b->i+q∈an\/BT a b=false:=by
 intro l;induction l with
 |nil=>intro i _ q b h;simp at h
 |cons d l ih=>
  intro i h q b hq;simp only[A3,aL,dM,dv]at h;cases q with
  |zero=>cases hq;exact h.1.imp zr id
  |succ q=>have:=ih h.2 q b hq;rwa[show i+1+q=i+(q+1)by omega]at this
theorem MJ{an:aC (aC aE)}:∀{rest:aC Lg} {j:aE} {done:aC Lg},done.length=j->calm j an done rest=ai->∀(i J:aE) (a b:Lg),i<J->j<=J->(done++rest)[i]? =ah b->(done++rest)[J]? =ah a->i∈an.getD J []\/BT a b=false:=by
 intro rest;induction rest with
 |nil=>intro j done hd _ i J a b _ hJ _ hb;rw[dj,kT (by omega)]at hb;cases hb
 |cons d rest ih=>
  intro j done hd h i J a b OQ hJ hi hb;simp only[calm,aL]at h;by_cases hJj:J=j
  ·subst hJj;rw[dc (by omega),hd,Nat.sub_self]at hb;cases hb;rw[dF (by omega)]at hi;have:=Kh h.1 i b hi;rwa[bS]at this
  ·refine ih (done:=done++[d]) (by simp[hd]) h.2 i J a b OQ (by omega) ?_ ?_
   ·rw[cq];exact hi
   ·rw[cq];exact hb
theorem Wx:∀{os:aC fA} {acc:aC (aC aE)},∃rest,Gg acc os=acc++rest/\rest.length=os.length/\
  ∀(t:aE) (o:fA),os[t]? =ah o->rest[t]? =ah (ddA [] (o.after.toList.flatMap λe=>bif mK .any e then e.on::((acc++rest).take (acc.length+t)).getD e.on []else [])):=by
 intro os;induction os with
 |nil=>intro acc;exact⟨[],by simp[Gg],rfl,λt o h=>by simp at h⟩
 |cons o os ih=>
  intro acc;let x:=ddA [] (o.after.toList.flatMap λe=>bif mK .any e then e.on::acc.getD e.on []else []);obtain⟨rest,h1,h2,h3⟩:=ih (acc:=acc++[x]);refine⟨x::rest, ?_,by simp[h2],λt o' ht=> ?_⟩
  ·show mQ x (λx=>Gg (acc++[x]) os)=_;rw[oM,h1,cq];rfl
  ·cases t with
   |zero=>cases ht;rw[sj,yH,oU (cw _),dK]
   |succ t=>rw[dO,h3 t o' ht];simp only[bV,bz,cq,uK,show acc.length+1+t=acc.length+(t+1)by omega]
theorem Nw:∀{os:aC fA} {i:aE},Jf i os=ai->∀(t:aE) (o:fA),os[t]? =ah o->∀e∈o.after,mK .any e=ai->e.on<i+t:=by
 intro os;induction os with
 |nil=>intro i _ t o h;simp at h
 |cons o os ih=>
  intro i h t o' ht e he hb;simp only[Jf,aL]at h;cases t with
  |zero=>
   cases ht;have:=bu.1 h.1 e (by simpa using he);rw[hb]at this;have:qk e.on i=true:=by simpa using this
   simpa [Ak]using this
  |succ t=>have:=ih h.2 t o' ht e he hb;omega
theorem BJ{os:aC fA}{S:aE->aW}(hS:∀(j:aE) (o:fA),S j=ai->os[j]? =ah o->∀e∈o.after,mK .any e=ai->S e.on=ai)(Sm:Jf 0 os=ai):
  ∀j,S j=ai->∀i∈(Gg [] os).getD j [],S i=true:=by
 obtain⟨rest,h1,h2,h3⟩:=Wx (os:=os) (acc:=[]);rw[gD]at h1;intro j;induction j using Nat.strongRecOn with
 |_ j ih=>
  intro hj i hi;rw[h1,cY]at hi;cases ho:os[j]? with
  |none=>rw[kT (by rw[h2];exact List.getElem?_eq_none_iff.1 ho)]at hi;cases hi
  |some o=>
   rw[h3 j o ho]at hi;simp only[yI,jL,bS,gD]at hi;have hi:=(Gp _ _ _ hi).elim (λh=>by cases h) id;obtain⟨e,he,hi⟩:=bL.1 hi;have he:e∈o.after:=by simpa using he
   cases hb:mK .any e with
   |false=>rw[hb]at hi;cases hi
   |true=>
    rw[hb]at hi;have jm:=Nw Sm j o ho e he hb;rw[bS]at jm;have hSe:=hS j o hj ho e he hb;rcases cu.1 hi with rfl|hi
    ·exact hSe
    ·refine ih e.on jm hSe i ?_;rw[h1,cY];rw[cY,d_,bw jm]at hi;exact hi
end Go.FG

namespace Go.FG
theorem Ig{p p':aE->aW}{i:aE}(hp:p i=ai)(mE:p' i=ak)(iw:∀j,j≠i->p' j=p j):∀{l:aC aE},l.Nodup->i∈l->l.countP p'+1=l.countP p:=by
 have same:∀{l:aC aE},i∉l->l.countP p'=l.countP p:=by
  intro l;induction l with
  |nil=>intro _;rfl
  |cons m l ih=>intro h;rw[cu,not_or]at h;rw[lD,lD,ih h.2,iw m (λe=>h.1 e.symm)]
 intro l;induction l with
 |nil=>intro _ h;cases h
 |cons m l ih=>
  intro hn h;rw[kC]at hn;rcases cu.1 h with rfl|h
  ·rw[lD,lD,same hn.1,hp,mE];simp
  ·have hm:m≠i:=λe=>hn.1 (e▸h);rw[lD,lD,iw m hm,<-ih hn.2 h];omega
theorem qd{dQ:dq aW}{i:aE}(h:i<dQ.size)(d:aW):(dQ.setIfInBounds i ai).getD i d=true:=by simp[h]
section
variable {P:cZ} {E:fU}
theorem Ov(hE:eC P E)(hF:∀g,b7 P E g (E.call g)){N:aE}{σ0:St}{c0:eZ}{w0:bK}{all:dq fA}{n6:aE}{Q:Exit->Act->bK->Prop}{σ σ':St}{tr:Tr}(VQ:wk E all n6 0 all.toList σ tr σ')(aae:calm 0 (Gg [] all.toList) [] (tr.map (·.2))=ai)(Sm:Jf 0 all.toList=ai)
  (B9:∀o∈all.toList,∀d,o.dst=ah d->d<N) (hQ:∀a w c,At P E N σ0 c0 w0 σ' a w c->Q .normal a w):
  ∀(fuel:aE) (dQ:dq aW) (a:Act) (w:bK) (c:eZ),dQ.size=all.size->(∀(j:aE) (o:fA),dQ.getD j ak=ai->all.toList[j]? =ah o->∀e∈o.after,mK .any e=ai->dQ.getD e.on ak=ai)->
   (cR all.size).countP (λj=> !dQ.getD j ak)<=fuel->At P E N σ0 c0 w0 (C8 tr 0 (λj=>dQ.getD j ak) σ) a w c->wpAny P .any all Q fuel dQ a w:=by
 obtain⟨t1,t2,t3⟩:=RS VQ;have hlen:all.toList.length=all.size:=dS;have done:∀(dQ:dq aW) (a:Act) (w:bK) (c:eZ),(∀j,j<all.size->dQ.getD j ak=ai)->At P E N σ0 c0 w0 (C8 tr 0 (λj=>dQ.getD j ak) σ) a w c->Q .normal a w:=by
  intro dQ a w c nN gh;refine hQ a w c ?_;have:C8 tr 0 (λj=>dQ.getD j ak) σ=σ':=by
   rw[<-t2];funext k;refine uA rfl (λj ws lg hj iw=> ?_);have jW:j<all.size:=by rw[<-hlen,<-t1];exact(aT.1 hj).1
   rw[bS]at iw;exact cO (nN j jW) iw
  rw[<-this];exact gh
 have ad6:∀(dQ:dq aW) (j:aE),dQ.size=all.size->j<all.size->dQ.getD j ai=dQ.getD j false:=by
  intro dQ j hs hj;rw[eI,eI];have:j<dQ.size:=by omega
  simp[this]
 have full:∀dQ:dq aW,dQ.size=all.size->wu .any all dQ=[]->∀j,j<all.size->dQ.getD j ak=true:=by
  intro dQ hs hr j;induction j using Nat.strongRecOn with
  |_ j ih=>
   intro hj;cases h:dQ.getD j ak with
   |true=>rfl
   |false=>
    have ho:all[j]? =ah all[j]:=by simp[hj]
    have:j∈wu .any all dQ:=by
     rw[mem_ready];refine⟨by rw[ad6 dQ j hs hj];exact h,all[j],ho,λe he hb=> ?_⟩
     have:=Nw Sm j all[j] (by rw[cW];exact ho) e he hb;rw[bS]at this;exact ih e.on this (by omega)
    rw[hr]at this;cases this
 intro fuel;induction fuel with
 |zero=>
  intro dQ a w c hs _ air gh;have nN:∀j,j<all.size->dQ.getD j ak=true:=by intro j hj;have h0:=List.countP_eq_zero.1 (Nat.le_zero.1 air) j (by simpa using hj);simpa using h0
  refine⟨?_,done dQ a w c nN gh⟩
  cases hr:wu .any all dQ with
  |nil=>rfl
  |cons i r=>
   have:i∈wu .any all dQ:=by rw[hr];exact dL ..
   obtain⟨h0,o,ho,_⟩:=mem_ready.1 this;have hi:i<all.size:=(dV.1 ho).1;rw[ad6 dQ i hs hi,nN i hi]at h0;cases h0
 |succ fuel ih=>
  intro dQ a w c hs pw air gh;refine⟨λhr=>done dQ a w c (full dQ hs hr) gh,λi hi=> ?_⟩
  obtain⟨h0,o,ho,arY⟩:=mem_ready.1 hi;have hil:i<all.size:=(dV.1 ho).1;rw[ad6 dQ i hs hil]at h0;have EA:all.toList[i]? =ah o:=by rw[cW];exact ho
  obtain⟨ws,lg,q1,q2⟩:=t3 i o EA;rw[bS]at q2;have S1:∀{j:aE} {DR:aC (aE×eO)} {C7:Lg},tr[j]? =ah (DR,C7)->(tr.map (·.2))[j]? =ah C7/\C7.ws=DR.map (·.1):=by
   intro j DR C7 hj;have jW:j<all.toList.length:=by rw[<-t1];exact(aT.1 hj).1
   obtain⟨ws2,lg2,r1,r2⟩:=t3 j all.toList[j] (by simp[jW]);rw[hj]at r1;cases r1;exact⟨by rw[bJ,hj];rfl,r2.keys⟩
  obtain⟨lgi,kwi⟩:=S1 q1;have aes:∀(j:aE) (o':fA),(dQ.setIfInBounds i ai).getD j ak=ai->all.toList[j]? =ah o'->∀e∈o'.after,mK .any e=ai->(dQ.setIfInBounds i ai).getD e.on ak=true:=by
   intro j o' hj vg e he hb;by_cases OS:i=j
   ·subst OS;rw[EA]at vg;cases vg;exact getD_set_true (arY e he hb)
   ·rw[getD_set_ne ak OS]at hj;exact getD_set_true (pw j o' hj vg e he hb)
  have before:∀j,j<i->dQ.getD j ak=ak->∀{DR:aC (aE×eO)} {C7:Lg},tr[j]? =ah (DR,C7)->BT lg C7=false:=by
   intro j hj hn DR C7 hjt;rcases MJ (done:=[]) rfl aae j i lg C7 hj (bB _) (S1 hjt).1 lgi with h|h
   ·have:=BJ aes Sm i (qd (by omega) ak) j h;rw[getD_set_ne ak (by omega:i≠j)]at this;rw[hn]at this;cases this
   ·exact h
  have after:∀j,i<j->dQ.getD j ak=ai->∀{DR:aC (aE×eO)} {C7:Lg},tr[j]? =ah (DR,C7)->BT C7 lg=false:=by
   intro j hj hn DR C7 hjt;rcases MJ (done:=[]) rfl aae i j C7 lg hj (bB _) lgi (S1 hjt).1 with h|h
   ·have:=BJ pw Sm j hn i h;rw[h0]at this;cases this
   ·exact h
  have aiV:va E all (K8 n6 i) o (C8 tr 0 (λj=>dQ.getD j ak) σ) ws lg:=by
   refine q2.congr (λk hk=>uA rfl (λj DR C7 hj iw hkw=> ?_));rw[bS]at iw;rw[<-(S1 hj).2]at hkw;by_cases OS:j<i
   ·rw[aG OS]at iw;have hn:dQ.getD j ak=false:=by simpa using iw
    exact(s8 (before j OS hn hj)).2.2 k hkw hk
   ·rw[aK OS]at iw;have hn:dQ.getD j ak=true:=by simpa using iw
    have arK:i<j:=by
     rcases qJ i j with h|h
     ·exact h
     ·have:j=i:=by omega
      subst this;rw[h0]at hn;cases hn
    exact(s8 (after j arK hn hj)).2.1 k hkw hk
  have zm:wr (C8 tr 0 (λj=>dQ.getD j ak) σ) ws=C8 tr 0 (λj=>(dQ.setIfInBounds i ai).getD j ak) σ:=by
   funext k;by_cases hk:k∈ws.map (·.1)
   ·have e1:C8 tr 0 (λj=>(dQ.setIfInBounds i ai).getD j ak) σ k=C8 tr 0 (λj=>(dQ.setIfInBounds i ai).getD j ak&&decide (j<=i)) σ k:=by
     refine uA rfl (λj DR C7 hj iw hkw=> ?_);rw[bS]at iw;rw[<-(S1 hj).2]at hkw;have OS:i<j:=by
      rcases qJ i j with h|h
      ·exact h
      ·rw[aG h,jY]at iw;exact cO rfl iw
     rw[aK (by omega:¬j<=i),wh,getD_set_ne ak (by omega:i≠j)]at iw;have hn:dQ.getD j ak=true:=by simpa using iw
     rw[<-kwi]at hk;exact(s8 (after j OS hn hj)).1 k hkw hk
    obtain⟨τ,hτ⟩:=Vc (i:=0) (S:=λj=>(dQ.setIfInBounds i ai).getD j ak&&decide (j<=i)) (σ:=σ) q1 (by rw[bS,qd (by omega) ak];simp) (λq hq=>by rw[aK (by omega:¬q<=i),wh]);rw[e1,hτ];exact Vn hk
   ·rw[po hk];refine uA rfl (λj DR C7 hj iw hkw=> ?_);rw[bS]at iw;by_cases OS:i=j
    ·subst OS;rw[q1]at hj;cases hj;exact hk hkw
    ·rw[getD_set_ne ak OS]at iw;exact cO rfl iw
  refine Bk hE hF gh.ok gh.sl (λd hd'=>by rw[gh.sz];exact B9 o (aR EA) d hd') ho aiV (λv w' c' h1 h2 h3 h4=> ?_);have AF:=gh.step h1 h2 h3 h4;rw[zm]at AF;refine ih (dQ.setIfInBounds i ai) _ _ c' (by simp[hs]) aes ?_ AF;have:=Ig (p:=λj=> !dQ.getD j ak) (p':=λj=> !(dQ.setIfInBounds i ai).getD j ak) (i:=i) (by rw[h0];rfl) (by rw[qd (by omega) ak];rfl) (λj hj=>by rw[getD_set_ne ak (λe=>hj e.symm)]) (l:=cR all.size) List.nodup_range (by simpa using hil);omega
theorem At.drawn{N:aE}{σ0 σ:St}{c0 c:eZ}{w0 w:bK}{a:Act}(h:At P E N σ0 c0 w0 σ a w c)(n:aE):At P E N σ0 c0 w0 σ a {w with drawn:=n} c:=by have hh:=h.ok.change (σ':=σ) (w':={w with drawn:=n}) (c':=c) (λ_=>False) (λ_ _=>rfl) (λ_ h=>h) (jA.refl _ _) (λ_ _ _=>rfl) (cw _) (λ_ h=>h) (λ_ h=> .inl h) h.ok.lt (λ_ _ h=>h.elim) (λ_ _ _ h=>h.elim) (λ_ _ _ _ _ h=>h.elim) (λ_ _ h=>h.elim) rfl rfl rfl;refine⟨hh.1,⟨λn'=>(h.sl.ok n').frame (λ_ _=>rfl) (λ_ h=>h) (λ_ _=>⟨rfl,rfl⟩),h.sl.kn,h.sl.df⟩,h.sz,h.gr.trans hh.2,h.ag⟩
theorem Pt(hE:eC P E)(hF:∀g,b7 P E g (E.call g))(hm:P.follows .mixedOrders=ai){R:Type}{N:aE}{σ0:St}{c0:eZ}{w0:bK}{os:dq fA}{n6:aE}{draw:aW}{Q:Exit->Act->bK->Prop}{σ:St}{K:Ex->St->az R}{r:R}
  (h:ops E os n6 0 os.toList σ [] (λσ lg=>bif !draw||(Jf 0 os.toList&&MI (Gg [] os.toList) lg.reverse)then K .normal σ else aj)=ah r) (B9:∀o∈os.toList,∀d,o.dst=ah d->d<N)
  (hQ:∀σ' a w c,K .normal σ'=ah r->At P E N σ0 c0 w0 σ' a w c->Q .normal a w) {a:Act} {w:bK} {c:eZ} (gh:At P E N σ0 c0 w0 σ a w c):(Code.region n6 os draw).wp P Q a w:=by
 obtain⟨tr,σ',VQ,hk⟩:=Pc E os n6 _ _ _ _ _ _ h;simp only[dj,List.reverse_reverse,RO]at hk;cases draw with
 |false=>simp only[bQ,Af,au]at hk;refine wp_region ?_;rw[Wt,<-dS];exact Kl hE hF os.toList 0 σ tr σ' VQ (λj o hj=>by rw[bS,<-cW];exact hj) B9 (λa w c h=>hQ σ' a w c hk h) a w c gh
 |true=>
  cases hc:(Jf 0 os.toList&&calm 0 (Gg [] os.toList) [] (tr.map (·.2)))with
  |false=>simp[hc]at hk
  |true=>
   simp only[hc,JT,au]at hk;simp only[aL]at hc;refine wp_region_any hm ?_;refine Ov hE hF VQ hc.2 hc.1 B9 (λa w c h=>hQ σ' a w c hk h) os.size _ a _ c (by simp) (λj o hj=> ?_) ?_ ?_
   ·exfalso;rw[eI,DU]at hj;split at hj<;>cases hj
   ·exact dg (List.countP_le_length) (by simp)
   ·have:C8 tr 0 (λj=>(AK os.size ak).getD j ak) σ=σ:=CS (λj _=>by rw[eI,DU];split<;>rfl);rw[this];exact gh.drawn _
end
end Go.FG

namespace Go.FG
theorem Sx:∀{l:aC aE} {n i:aE},n∈l->∃k,idx n i l=ah k/\i<=k/\k<i+l.length/\l[k-i]? =ah n:=by
 intro l;induction l with
 |nil=>intro n i h;cases h
 |cons m l ih=>
  intro n i h;unfold idx;cases hb:bD n m with
  |true=>have:=aU hb;subst this;exact⟨i,rfl,cw _,by simp,by simp⟩
  |false=>
   rcases cu.1 h with rfl|h
   ·simp at hb
   ·obtain⟨k,h1,h2,h3,h4⟩:=ih (i:=i+1) h;refine⟨k,h1,by omega,by simp;omega, ?_⟩
    rw[show k-i=(k-(i+1))+1 by omega,dO];exact h4
theorem Xj:∀{l:aC aE} {n i k:aE},idx n i l=ah k->i<=k/\k<i+l.length/\l[k-i]? =ah n:=by
 intro l;induction l with
 |nil=>intro n i k h;cases h
 |cons m l ih=>
  intro n i k h;unfold idx at h;cases hb:bD n m with
  |true=>rw[hb]at h;have:=aU hb;subst this;cases h;exact⟨cw _,by simp,by simp⟩
  |false=>
   rw[hb]at h;obtain⟨h2,h3,h4⟩:=ih h;refine⟨by omega,by simp;omega, ?_⟩
   rw[show k-i=(k-(i+1))+1 by omega,dO];exact h4
theorem Kq{f:aW}{k:aE}(h:k<900):enc f k<900000000:=by unfold enc;cases f<;>simp<;>omega
theorem Xp{f:aW}{k:aE}(h:k<900):zo (enc f k)=f:=by
 cases f with
 |false=>
  show(bD (k%1000) 999&&qk k 900000000)=ak;have:bD (k%1000) 999=false:=by
   cases hb:bD (k%1000) 999 with
   |false=>rfl
   |true=>have:=aU hb;omega
  rw[this];rfl
 |true=>show(bD ((k*1000+999)%1000) 999&&qk (k*1000+999) 900000000)=ai;rw[show(k*1000+999)%1000=999 by omega,show qk (k*1000+999) 900000000=ai from J3 (by omega)];rfl
theorem WL{f f':aW}{k k':aE}(h:k<900)(h':k'<900)(he:enc f k=enc f' k'):k=k':=by unfold enc at he;cases f<;>cases f'<;>simp at he<;>omega
theorem Uk{l:aC aE}{n:aE}(h:n∈l):∃k,v9 l n=ah k:=by
 unfold v9;cases fK 900000000 n with
 |true=>exact⟨n,by simp[IZ h]⟩
 |false=>obtain⟨k,hk,_⟩:=Sx (i:=0) h;exact⟨enc (zo n) k,by simp[hk]⟩
theorem xM{l:aC aE}{n k:aE}(h:v9 l n=ah k):n∈l/\((900000000<=n/\k=n)\/(n<900000000/\∃k0,k=enc (zo n) k0/\k0<l.length/\l[k0]? =ah n)):=by
 unfold v9 at h;cases hb:fK 900000000 n with
 |true=>
  rw[hb]at h;cases hm:mF n l with
  |true=>simp only[hm,au]at h;cases h;exact⟨zr hm, .inl ⟨cG hb,rfl⟩⟩
  |false=>simp[hm]at h
 |false=>
  rw[hb,ay]at h;cases hi:idx n 0 l with
  |none=>rw[hi]at h;cases h
  |some k0=>
   rw[hi]at h;cases h;obtain⟨_,h3,h4⟩:=Xj hi;rw[rX]at h4;refine⟨aR h4, .inr ⟨?_,k0,rfl,by simpa using h3,h4⟩⟩
   rcases qJ n 900000000 with h|h
   ·exact h
   ·rw[J3 h]at hb;cases hb
theorem Ny{l:aC aE}(hl:l.length<=900){n k:aE}(h:v9 l n=ah k):zo k=zo n:=by
 obtain⟨_,⟨_,rfl⟩|⟨_,k0,rfl,h3,_⟩⟩:=xM h
 ·rfl
 ·exact Xp (by omega)
theorem YZ{l:aC aE}(hl:l.length<=900){n n' k:aE}(h:v9 l n=ah k)(h':v9 l n'=ah k):n=n':=by
 obtain⟨_,h1⟩:=xM h;obtain⟨_,h2⟩:=xM h';rcases h1 with ⟨a,b⟩|⟨a,k0,b,d,e⟩<;>rcases h2 with ⟨a',b'⟩|⟨a',k0',b',d',e'⟩
 ·omega
 ·have:=Kq (f:=zo n') (k:=k0') (by omega);omega
 ·have:=Kq (f:=zo n) (k:=k0) (by omega);omega
 ·have:=WL (f:=zo n) (f':=zo n') (k:=k0) (k':=k0') (by omega) (by omega) (b.symm.trans b');subst this;rw[e]at e';cases e';rfl
def inv(l:aC aE)(m:aE):az aE:=l.find? λn=>decide (v9 l n=ah m)
theorem aeR{l:aC aE}(hl:l.length<=900){n k:aE}(h:v9 l n=ah k):inv l k=ah n:=by
 unfold inv;cases hf:l.find? (λn=>decide (v9 l n=ah k))with
 |none=>have:=Wn.1 hf n (xM h).1;simp[h]at this
 |some n'=>have:=Fj hf;rw[YZ hl h (cm this)]
theorem SA{l:aC aE}{m n:aE}(h:inv l m=ah n):v9 l n=ah m:=cm (Fj (p:=λn=>decide (v9 l n=ah m)) h)
theorem EE{l ns:aC aE}(h:zq l ns=ai):∀n∈ns,n∈l:=λn hn=>zr (bu.1 h n hn)
theorem rG{σ:St}{l:aC aE}:∀{r:aC aE} {k:aE} {x:eO},(k,x)∈v7 σ l r↔∃n∈r,∃m,v9 l n=ah m/\k=c_ m/\x=Pv l (σ (c_ n)):=by
 intro r;induction r with
 |nil=>intro k x;simp[v7]
 |cons n r ih=>
  intro k x;unfold v7;cases hr:v9 l n with
  |none=>
   simp only;rw[ih];constructor
   ·rintro ⟨n',h1,h2⟩;exact⟨n',c7 _ h1,h2⟩
   ·rintro ⟨n',h1,m,h2,h3⟩;rcases cu.1 h1 with rfl|h1
    ·rw[hr]at h2;cases h2
    ·exact⟨n',h1,m,h2,h3⟩
  |some m=>
   simp only[cu,ih];constructor
   ·rintro (h|⟨n',h1,h2⟩)
    ·cases h;exact⟨n, .inl rfl,m,hr,rfl,rfl⟩
    ·exact⟨n', .inr h1,h2⟩
   ·rintro ⟨n',h1|h1,m',h2,rfl,rfl⟩
    ·subst h1;rw[hr]at h2;cases h2;exact .inl rfl
    ·exact .inr ⟨n',h1,m',h2,rfl,rfl⟩
section
variable {P:cZ} {E:fU} {σ:St} {a:Act} {w:bK} {c:eZ} {o:fA} {nm:aE} {e:sO}
def xK(c:eZ)(l:aC aE):eZ:=
 ⟨λm=>match inv l m with|some n=>c.P n|none=>c.P m,λm=>match inv l m with|some n=>c.G n|none=>c.G m,c.K⟩
theorem xL{l:aC aE}(hl:l.length<=900){n m:aE}(h:v9 l n=ah m):(xK c l).P m=c.P n/\(xK c l).G m=c.G n:=by have:=aeR hl h;unfold xK;simp only[this];exact⟨trivial,trivial⟩
theorem tH{T:Tab}{l:aC aE}(hl:l.length<=900){x:AV}{u:bj}(hx:eG T w c x u)(hk:∀n∈bN x,n∈l):eG T w (xK c l) (pS l x) u/\∀m∈bN (pS l x),∃n∈l,v9 l n=ah m:=by
 have named:∀n,n∈bN x->∃k,v9 l n=ah k/\(xK c l).P k=c.P n/\(xK c l).G k=c.G n:=λn hn=>by obtain⟨k,h⟩:=Uk (hk n hn);exact⟨k,h,xL hl h⟩
 have nn:∀m,m∈([]:aC aE)->∃n∈l,v9 l n=ah m:=λm h=>by cases h
 cases x with
 |i=>exact⟨hx,nn⟩
 |b=>exact⟨hx,nn⟩
 |s=>exact⟨hx,nn⟩
 |nl=>exact⟨hx,nn⟩
 |sh=>exact⟨hx,nn⟩
 |sp=>exact⟨hx,nn⟩
 |fn=>exact⟨hx,nn⟩
 |fp=>exact⟨hx,nn⟩
 |own n=>obtain⟨k,h,e1,e2⟩:=named n (by simp[bN]);simp only[pS,h];exact⟨by simp only[eG,e1]at hx⊢;exact hx,λm hm=>⟨n,hk n (by simp[bN]),by rw[show m=k by simpa [bN]using hm];exact h⟩⟩
 |vw n lo hi=>obtain⟨k,h,e1,e2⟩:=named n (by simp[bN]);simp only[pS,h];exact⟨by simp only[eG,e1]at hx⊢;exact hx,λm hm=>⟨n,hk n (by simp[bN]),by rw[show m=k by simpa [bN]using hm];exact h⟩⟩
 |bp n j=>obtain⟨k,h,e1,e2⟩:=named n (by simp[bN]);simp only[pS,h];exact⟨by simp only[eG,e1]at hx⊢;exact hx,λm hm=>⟨n,hk n (by simp[bN]),by rw[show m=k by simpa [bN]using hm];exact h⟩⟩
 |rp n i j=>obtain⟨k,h,e1,e2⟩:=named n (by simp[bN]);simp only[pS,h];exact⟨by simp only[eG,e1]at hx⊢;exact hx,λm hm=>⟨n,hk n (by simp[bN]),by rw[show m=k by simpa [bN]using hm];exact h⟩⟩
 |inn n i j=>obtain⟨k,h,e1,e2⟩:=named n (by simp[bN]);simp only[pS,h];exact⟨by simp only[eG,e1,e2,Ny hl h]at hx⊢;exact hx,λm hm=>⟨n,hk n (by simp[bN]),by rw[show m=k by simpa [bN]using hm];exact h⟩⟩
 |ip n i j i2 j2=>obtain⟨k,h,e1,e2⟩:=named n (by simp[bN]);simp only[pS,h];exact⟨by simp only[eG,e1,e2,Ny hl h]at hx⊢;exact hx,λm hm=>⟨n,hk n (by simp[bN]),by rw[show m=k by simpa [bN]using hm];exact h⟩⟩
theorem Lk{T:Tab}{l:aC aE}(hl:l.length<=900){g:aW}{xs:aC AV}{u:bj}(hx:qa T w c g xs u)(hk:∀n∈xs.flatMap bN,n∈l):qa T w (xK c l) g (xs.map (pS l)) u/\∀m∈(xs.map (pS l)).flatMap bN,∃n∈l,v9 l n=ah m:=by
 have kx:∀x∈xs,∀n∈bN x,n∈l:=λx hx n hn=>hk n (bL.2 ⟨x,hx,hn⟩);unfold qa at hx;split at hx
 ·rename_i y;obtain⟨h1,h2⟩:=tH hl hx (kx y (by simp));exact⟨h1,λm hm=>h2 m (by simpa using hm)⟩
 ·obtain⟨vals,rfl,hs,hv⟩:=hx;refine⟨⟨vals,rfl,by simp[hs],λj y hj=> ?_⟩,λm hm=> ?_⟩
  ·rw[bJ]at hj;cases Xg:xs[j]? with
   |none=>rw[Xg]at hj;cases hj
   |some x=>rw[Xg]at hj;cases hj;obtain⟨u,hu,ha⟩:=hv j x Xg;exact⟨u,hu,(tH hl ha (kx x (aR Xg))).1⟩
  ·obtain⟨y,hy,hm⟩:=bL.1 hm;obtain⟨x,hxm,rfl⟩:=cX.1 hy;obtain⟨j,hj⟩:=bX hxm;obtain⟨u,hu,ha⟩:=hv j x hj;exact(tH hl ha (kx x hxm)).2 m hm
 ·exact hx.elim
theorem Jk{T:Tab}{l:aC aE}(hl:l.length<=900){s:SV}{u:bj}(hx:jh T w c s u):jh T w (xK c l) (EP l s) u/\∀m∈cJ (EP l s),∃n∈l,v9 l n=ah m:=by
 unfold EP;cases hk:zq l (cJ s)with
 |false=>exact⟨trivial,λm hm=>by simp[cJ]at hm⟩
 |true=>
  have hk:=EE hk;simp only[au];cases s with
  |un=>exact⟨trivial,λm hm=>by simp[cJ]at hm⟩
  |v g xs=>exact Lk hl hx hk
  |j9 r=>
   obtain⟨vs,rfl,hs,hv⟩:=hx;have kr:∀x∈r,∀n∈x.2.flatMap bN,n∈l:=λx hx n hn=>hk n (bL.2 ⟨x,hx,hn⟩);refine⟨⟨vs,rfl,by simp[hs],λj g xs hj=> ?_⟩,λm hm=> ?_⟩
   ·rw[bJ]at hj;cases Xg:r[j]? with
    |none=>rw[Xg]at hj;cases hj
    |some x=>rw[Xg]at hj;cases hj;obtain⟨u,hu,ha⟩:=hv j x.1 x.2 Xg;exact⟨u,hu,(Lk hl ha (kr x (aR Xg))).1⟩
   ·obtain⟨y,hy,hm⟩:=bL.1 hm;obtain⟨x,hxm,rfl⟩:=cX.1 hy;obtain⟨j,hj⟩:=bX hxm;obtain⟨u,hu,ha⟩:=hv j x.1 x.2 hj;exact(Lk hl ha (kr x hxm)).2 m hm
theorem Uj{l:aC aE}{x:eO}:Pv l x≠ .jX:=by
 unfold Pv;split
 ·intro h;revert h;cases zq l _<;>simp
 ·simp
 ·simp
theorem Ou{N:aE}{σ0:St}{c0:eZ}{w0:bK}{keep:aC aE}(h:At P E N σ0 c0 w0 σ a w c):∃c',At P E N σ0 c0 w0 (fO (mQ (Kj keep σ) λl=>Ki keep σ l)) a w c':=by
 rw[oM];generalize Kj keep σ=l;unfold Ki;cases hle:fK l.length 900 with
 |false=>
  simp only[ay];have hn:∀k,fO [] k= .jX:=λk=>rfl;have no:∀{k:aE} {x:Obj},fO [] k≠ .o x:=λh=>by rw[hn]at h;cases h
  refine⟨c,⟨λnm o ho=>cO ho no,λnm o xH o' b ho=>cO ho no,λnm o b ho=>cO ho no,h.ok.lt,λnm xs ho=>cO ho no⟩,⟨λn=>trivial,λn m hm=>(by simp[slot,fO,cJ]at hm),h.sl.df⟩,h.sz,h.gr.trans ⟨rfl,rfl,rfl,cw _,λ_ h=>h,λ_ _ _=>rfl,λb hb=> ?_,λ_ h=> .inl h⟩,h.ag⟩
  obtain⟨nm,o,ho,_⟩:=hb;exact cO ho no
 |true=>
  have hl:=cG hle;simp only[au];generalize hT:keep.map (λn=>(qg n,eO.v (EP l (slot σ n))))++v7 σ l l=T;have auJ:∀d∈T,d.2≠ .jX:=by
   rintro ⟨k,x⟩ hd;rw[<-hT]at hd;rcases bc.1 hd with hd|hd
   ·obtain⟨n,_,hd⟩:=cX.1 hd;cases hd;simp
   ·obtain⟨n,_,m,_,_,rfl⟩:=rG.1 hd;exact Uj
  have auK:∀{m:aE} {ob:Obj},fO T (c_ m)= .o ob->∃n∈l,v9 l n=ah m/\Pv l (σ (c_ n))= .o ob:=by
   intro m ob ho;have:=nO ho (by simp);rw[<-hT]at this;rcases bc.1 this with hd|hd
   ·obtain⟨n,_,hd⟩:=cX.1 hd;injection hd with h1 h2;exact cO h1 (rO n m)
   ·obtain⟨n,hn,m',hr,h1,h2⟩:=rG.1 hd;have:=jT h1;subst this;exact⟨n,hn,hr,h2.symm⟩
  have SY:∀{m n:aE},n∈l->v9 l n=ah m->fO T (c_ m)≠ .jX:=λhn hr=>rQ (l:=T) (by rw[<-hT];exact bP _ (rG.2 ⟨_,hn,_,hr,rfl,rfl⟩)) auJ;have abS:∀n,slot (fO T) n=EP l (slot σ n)\/slot (fO T) n= .un:=by
   intro n;unfold slot;cases hs:fO T (qg n)with
   |v x=>
    have:=nO hs (by simp);rw[<-hT]at this;rcases bc.1 this with hd|hd
    ·obtain⟨n',_,hd⟩:=cX.1 hd;injection hd with h1 h2;have:=Ha h1;subst this;cases h2;exact .inl rfl
    ·obtain⟨n',hn,m',hr,h1,h2⟩:=rG.1 hd;exact cO h1 (rO _ _)
   |o=>exact .inr rfl
   |jX=>exact .inr rfl
  have was:∀{m:aE} {ob:Obj},fO T (c_ m)= .o ob->ob= .dead\/∃n∈l,v9 l n=ah m/\((σ (c_ n)= .o ob/\∀xs,ob≠ .box xs)\/∃xs,σ (c_ n)= .o (.box xs)/\ob= .box (xs.map (pS l))/\∀k∈xs.flatMap bN,k∈l):=by
   intro m ob ho;obtain⟨n,hn,hr,he⟩:=auK ho;unfold Pv at he;split at he
   ·rename_i xs hx;cases hk:zq l (xs.flatMap bN)with
    |true=>rw[hk]at he;cases he;exact .inr ⟨n,hn,hr, .inr ⟨xs,hx,rfl,EE hk⟩⟩
    |false=>rw[hk]at he;cases he;exact .inl rfl
   ·rename_i x iw hx;cases he;exact .inr ⟨n,hn,hr, .inl ⟨hx,λxs e=>iw xs e⟩⟩
   ·cases he;exact .inl rfl
  have M0:∀{m:aE} {ob:Obj} {b:aE},fO T (c_ m)= .o ob->fN (xK c l) m ob b->∃n o,v9 l n=ah m/\σ (c_ n)= .o o/\fN c n o b:=by
   intro m ob b ho hf;rcases was ho with rfl|⟨n,hn,hr,⟨h1,_⟩|⟨xs,h1,rfl,_⟩⟩
   ·exact hf.elim
   ·obtain⟨e1,e2⟩:=xL (c:=c) hl hr;refine⟨n,ob,hr,h1, ?_⟩
    cases ob<;>simp only[fN,e1,e2]at hf⊢ <;>exact hf
   ·obtain⟨e1,e2⟩:=xL (c:=c) hl hr;refine⟨n,_,hr,h1, ?_⟩
    simp only[fN,e1]at hf⊢;exact hf
  refine⟨xK c l,⟨?_, ?_, ?_,h.ok.lt, ?_⟩,⟨?_, ?_,h.sl.df⟩,h.sz,h.gr.trans ⟨rfl,rfl,rfl,cw _,λ_ h=>h,λ_ _ _=>rfl, ?_,λ_ h=> .inl h⟩,h.ag.trans ?_⟩
  ·intro m ob ho;rcases was ho with rfl|⟨n,hn,hr,⟨h1,h2⟩|⟨xs,h1,rfl,hk⟩⟩
   ·trivial
   ·obtain⟨e1,e2⟩:=xL (c:=c) hl hr;have mS:=h.ok.obj n ob h1;cases ob with
    |box xs=>exact cO rfl (h2 xs)
    |dead=>trivial
    |nX cs=>show FB E w c.K ((xK c l).P m).blk cs;rw[e1];exact mS
    |fV e' xs=>show da E w c.K (lO ((xK c l).P m)) _/\((xK c l).P m).n=_/\_;rw[e1];exact mS
    |row e' ex xs=>obtain⟨q1,q2,q3⟩:=mS;exact⟨by rw[e1];exact q1,by rw[e1,e2];exact q2,by rw[e1,e2];exact q3⟩
   ·obtain⟨e1,e2⟩:=xL (c:=c) hl hr;obtain⟨vals,hb,hs,hv⟩:=h.ok.obj n _ h1;refine⟨vals,by rw[e1];exact hb,by simp[hs],λj y hj=> ?_⟩
    rw[bJ]at hj;cases hx:xs[j]? with
    |none=>rw[hx]at hj;cases hj
    |some x=>rw[hx]at hj;cases hj;obtain⟨u,hu,ha⟩:=hv j x hx;exact⟨u,hu,(tH hl ha (λk vf=>hk k (bL.2 ⟨x,aR hx,vf⟩))).1⟩
  ·intro m ob m' ob' b ho vg hf vd;obtain⟨n,o1,r1,s1,f1⟩:=M0 ho hf;obtain⟨n',o2,r2,s2,f2⟩:=M0 vg vd;have:=h.ok.sep n o1 n' o2 b s1 s2 f1 f2;subst this;rw[r1]at r2;cases r2;rfl
  ·intro m ob b ho hf;obtain⟨n,o1,r1,s1,f1⟩:=M0 ho hf;exact h.ok.kk n o1 b s1 f1
  ·intro m xs ho y hy k hk;rcases was ho with h'|⟨n,hn,hr,⟨h1,h2⟩|⟨zs,h1,he,IG⟩⟩
   ·cases h'
   ·exact cO rfl (h2 xs)
   ·cases he;obtain⟨x,hxm,rfl⟩:=cX.1 hy;obtain⟨vals,hb,hs,hv⟩:=h.ok.obj n _ h1;obtain⟨j,hj⟩:=bX hxm;obtain⟨u,hu,ha⟩:=hv j x hj;obtain⟨n',kF,DE⟩:=(tH hl ha (λk vf=>IG k (bL.2 ⟨x,hxm,vf⟩))).2 k hk;exact SY kF DE
  ·intro n;rcases abS n with hs|hs
   ·rw[hs];exact(Jk hl (h.sl.ok n)).1
   ·rw[hs];trivial
  ·intro n m hm;rcases abS n with hs|hs
   ·rw[hs]at hm;obtain⟨n',kF,DE⟩:=(Jk hl (h.sl.ok n)).2 m hm;exact SY kF DE
   ·rw[hs]at hm;simp[cJ]at hm
  ·rintro b ⟨m,ob,ho,hf⟩;obtain⟨n,o1,r1,s1,f1⟩:=M0 ho hf;exact .inl ⟨n,o1,s1,f1⟩
  ·intro m hm;unfold xK;cases hi:inv l m with
   |none=>simp only[hi];exact⟨trivial,trivial⟩
   |some n=>
    have:=(xM (SA hi)).2;have:n=m:=by
     rcases this with ⟨_,h⟩|⟨_,k0,h,hk0,_⟩
     ·exact h.symm
     ·have:=Kq (f:=zo n) (k:=k0) (by omega);omega
    subst this;simp only[hi];exact⟨trivial,trivial⟩
theorem ajt{N:aE}{σ0:St}{c0:eZ}{w0:bK}{nm F j e:aE}{xs:aC AV}{ti:TI}(hx:E.ty e=ah ti)(jm:F<900000000)(mS:σ (c_ nm)= .o (.box xs))(hF:σ (c_ F)= .jX)(hc:xs[j]? =ah .nl)(h:At P E N σ0 c0 w0 σ a w c):
  ∃c',At P E N σ0 c0 w0 (pG (pG σ (c_ nm) (.o (.box (xs.set j (.own F))))) (c_ F) (.o (.row e ai []))) a w c':=by
 let c':eZ:=⟨λn=>if n=F then⟨ai,0,0,0,0,ti.ks.length⟩else c.P n,λn=>if n=F then(λ_ _=>⟨ai,0,0,0,0,0⟩)else c.G n,c.K⟩
 have hP:c'.P F=⟨ai,0,0,0,0,ti.ks.length⟩:=bw rfl;have hA:jA σ c c':=λm hm=>by
  have:m≠F:=by rintro rfl;rcases hm with h|h;exact h hF;omega
  exact⟨bG this,bG this⟩
 have hnF:nm≠F:=by rintro rfl;rw[mS]at hF;cases hF
 have hPn:c'.P nm=c.P nm:=bG hnF;let σ':=pG (pG σ (c_ nm) (.o (.box (xs.set j (.own F))))) (c_ F) (.o (.row e ai []));have key:∀m,σ' (c_ m)=if m=F then .o (.row e ai [])else if m=nm then .o (.box (xs.set j (.own F)))else σ (c_ m):=λm=>by show pG _ _ _ _=_;rw[pU,pU]
 have iw:∀m,σ (c_ m)≠ .jX->σ' (c_ m)≠ .jX:=λm hm=>by
  rw[key];by_cases h1:m=F
  ·rw[bw h1];simp
  ·rw[bG h1];by_cases h2:m=nm
   ·rw[bw h2];simp
   ·rw[bG h2];exact hm
 have noI:∀i j,¬gm [] i j:=λi j ⟨y,x,hy,_⟩=>by simp at hy
 have foF:∀b,¬fN c' F (.row e ai []) b:=by
  rintro b (⟨h1,_⟩|⟨_,i,j,h1,_⟩)
  ·rw[hP]at h1;cases h1
  ·exact noI i j h1
 obtain⟨vals,hb,gi,hv⟩:=h.ok.obj nm _ mS
 have hh:=h.ok.change (σ':=σ') (w':=w) (c':=c') (λm=>m=F\/m=nm)
  (λm hm=>by rw[key,bG (λe=>hm (.inl e)),bG (λe=>hm (.inr e))]) iw hA (λ_ _ _=>rfl) (cw _) (λ_ h=>h) (λ_ h=> .inl h) h.ok.lt
  (λm o hm ho=>by
   rw[key]at ho;by_cases IH:m=F
   ·rw[bw IH]at ho;cases ho;subst IH;refine⟨⟨ti,hx,by rw[hP],λy hy=>by cases hy⟩,⟨by rw[hP];rfl,λ_=>⟨rfl,by rw[hP]⟩,λhn=>by rw[hP]at hn;cases hn⟩,λ_=>⟨λi j hi=>cO hi (noI i j),λi j _ _ hi=>cO hi (noI i j)⟩⟩
   ·have hmn:=hm.resolve_left IH;subst hmn;rw[bG IH,bw rfl]at ho;cases ho;refine⟨vals,by rw[hPn];exact hb,by rw[cQ];exact gi,λk y hk=> ?_⟩
    by_cases hkj:j=k
    ·subst hkj;have hl:j<xs.length:=(aT.1 hc).1;rw[List.getElem?_set_self hl]at hk;cases hk;obtain⟨u,hu,VP⟩:=hv j _ hc;exact⟨u,hu,by show u=lO (c'.P F);rw[hP];exact VP⟩
    ·rw[List.getElem?_set_ne hkj]at hk;obtain⟨u,hu,VP⟩:=hv k y hk;exact⟨u,hu,VP.frame (λ_ _=>rfl) (λ_ h=>h) (λn hn=>hA n (.inl (h.ok.kn m xs mS y (aR hk) n hn)))⟩)
  (λm o b hm ho hf=>by
   rw[key]at ho;by_cases IH:m=F
   ·rw[bw IH]at ho;cases ho;subst IH;exact cO hf (foF b)
   ·have hmn:=hm.resolve_left IH;subst hmn;rw[bG IH,bw rfl]at ho;cases ho;have hf:b=(c'.P m).blk:=hf;rw[hPn]at hf;exact⟨.inl ⟨m,_, .inr rfl,mS,hf⟩,λhk=>h.ok.kk m _ b mS hf hk⟩)
  (λm o m' o' b hm w_ ho vg hf vd=>by
   rw[key]at ho vg;by_cases IH:m=F
   ·rw[bw IH]at ho;cases ho;subst IH;exact cO hf (foF b)
   ·by_cases aez:m'=F
    ·rw[bw aez]at vg;cases vg;subst aez;exact cO vd (foF b)
    ·rw[hm.resolve_left IH,w_.resolve_left aez])
  (λm ys hm ho y hy n hn=>by
   rw[key]at ho;by_cases IH:m=F
   ·rw[bw IH]at ho;cases ho
   ·have hmn:=hm.resolve_left IH;subst hmn;rw[bG IH,bw rfl]at ho;cases ho;rcases jD hy with hy|hy
    ·exact iw n (h.ok.kn m xs mS y hy n hn)
    ·subst hy;rw[show n=F from by simpa [bN]using hn,key,bw rfl];simp) rfl rfl rfl
 have sl:=h.sl.change h.ok hh.2 hA iw ({(default:fA)with dst:=none}) undef (λn _=>by show slot (pG _ _ _) n=_;rw[jl,jl]) (λd hd=>by cases hd);exact⟨c',hh.1,sl,h.sz,h.gr.trans hh.2,h.ag.trans hA.w.aga⟩
theorem Tl{α:Type}{N:aE}{σ0:St}{c0:eZ}{w0:bK}{x:aE}(hx:∃ti,E.ty (kTy x)=ah ti)(h:At P E N σ0 c0 w0 σ a w c):∃σ' c',At P E N σ0 c0 w0 σ' a w c'/\∀f:St->α,zZ x σ f=f σ':=by
 obtain⟨ti,hx⟩:=hx;have jm:kNm x<900000000:=by unfold kNm;have:=C4 (x/1000) (show 1000000>0 by omega);omega
 have no:(∀f:St->α,zZ x σ f=f σ)->∃σ' c',At P E N σ0 c0 w0 σ' a w c'/\∀f:St->α,zZ x σ f=f σ':=λe=>⟨σ,c,h,e⟩
 cases hs:slot σ (abb x)with
 |v g l=>
  by_cases hm:∃nm xs,g=ak/\l=[.bp nm 0]/\σ (c_ nm)= .o (.box xs)/\σ (c_ (kNm x))= .jX/\xs[SS x]? =ah .nl
  ·obtain⟨nm,xs,rfl,rfl,mS,hF,hc⟩:=hm;obtain⟨c',h'⟩:=ajt hx jm mS hF hc h;exact⟨_,c',h',λf=>by unfold zZ;rw[hs];simp only[mS,hF,hc,nM]⟩
  ·refine no λf=> ?_;unfold zZ;rw[hs];split
   ·rename_i nm he;cases he;split
    ·rename_i xs h1 h2;split
     ·rename_i h3;exact cO ⟨nm,xs,rfl,rfl,h1,h2,h3⟩ hm
     ·rfl
    ·rfl
   ·rfl
 |j9 l=>exact no λf=>by unfold zZ;rw[hs]
 |un=>exact no λf=>by unfold zZ;rw[hs]
theorem Cn{α:Type}{N:aE}{σ0:St}{c0:eZ}{w0:bK}:∀(keep:aC aE) (σ:St) (c:eZ) (hk:∀x∈keep,Xq x=ai->∃ti,E.ty (kTy x)=ah ti) (h:At P E N σ0 c0 w0 σ a w c),∃σ' c',At P E N σ0 c0 w0 σ' a w c'/\∀f:St->α,Nm keep σ f=f σ'
 |[],σ,c,_,h=>⟨σ,c,h,λ_=>rfl⟩
 |x::r,σ,c,hk,h=>by
  cases hx:Xq x with
  |false=>obtain⟨σ',c',h',e⟩:=Cn r σ c (λy hy=>hk y (c7 _ hy)) h;exact⟨σ',c',h',λf=>by show(bif Xq x then _ else _)=_;rw[hx];exact e f⟩
  |true=>obtain⟨σ1,c1,h1,e1⟩:=Tl (α:=α) (hk x (dL ..) hx) h;obtain⟨σ',c',h',e⟩:=Cn r σ1 c1 (λy hy=>hk y (c7 _ hy)) h1;exact⟨σ',c',h',λf=>by show(bif Xq x then _ else _)=_;rw[hx,au,e1,e]⟩
theorem H9{N:aE}{σ0:St}{c0:eZ}{w0:bK}{keep:aC aE}(hk:∀x∈keep,Xq x=ai->∃ti,E.ty (kTy x)=ah ti)(h:At P E N σ0 c0 w0 σ a w c):∃c',At P E N σ0 c0 w0 (canon keep σ) a w c':=by obtain⟨σ',c1,h1,e⟩:=Cn (α:=aC (aE×eO)) keep σ c hk h;unfold canon Kk;rw[e,oM];exact Ou h1
theorem SX{n:aE}:∀x∈E.zX n,Xq x=ai->∃ti,E.ty (kTy x)=ah ti:=by
 intro x hx hk;have:=(dG.1 hx).2;rw[hk,au]at this;cases h:E.ty (kTy x)with
 |some ti=>exact⟨ti,rfl⟩
 |none=>rw[h]at this;cases this
end
end Go.FG

namespace Go.FG
def ad9:Ex->Exit| .normal=> .normal| .exit id=> .exit id| .ret=> .ret
def s9(N:aE):Code->aW
 | .region _ os _=>os.toList.all λo=>match o.dst with|some d=>qk d N|none=>ai
 | .seq a b=>s9 N a&&s9 N b
 | .cond _ a b=>s9 N a&&s9 N b
 | .block _ c=>s9 N c
 | .loop c=>s9 N c
 |_=>ai
theorem least{p:aE->Prop}(h:∃n,p n):∃n,p n/\∀k,p k->n<=k:=by
 obtain⟨n,hn⟩:=h;induction n using Nat.strongRecOn with
 |_ n ih=>
  by_cases hm:∃m,m<n/\p m
  ·obtain⟨m,h1,h2⟩:=hm;exact ih m h1 h2
  ·exact⟨n,hn,λk hk=>by
    rcases qJ k n with h|h
    ·exact cO ⟨k,h,hk⟩ hm
    ·exact h⟩
section
variable {P:cZ} {E:fU}
def b8(E:fU){R:Type}(it:It R)(c:Code):Prop:=∀L K r,it (gE c) (tc E it c) (canon (E.zX (gE c))) L K=ah r->∃n,iter (tc E it c) (canon (E.zX (gE c))) n (fO L) K=ah r
theorem ad8(hE:eC P E)(hF:∀g,b7 P E g (E.call g))(hm:P.follows .mixedOrders=ai){R:Type}{N:aE}{σ0:St}{c0:eZ}{w0:bK}{it:It R}{r:R}:∀(code:Code),(∀c∈jS code,b8 E it c)->∀(σ:St) (K:Ex->St->az R) (Q:Exit->Act->bK->Prop),tc E it code σ K=ah r->s9 N code=ai->
  (∀e σ' a w c,K e σ'=ah r->At P E N σ0 c0 w0 σ' a w c->Q (ad9 e) a w)->∀a w c,At P E N σ0 c0 w0 σ a w c->code.wp P Q a w:=by
 intro code;induction code with
 |skip=>intro _ σ K Q h _ hQ a w c gh;exact wp_skip (hQ .normal σ a w c h gh)
 |region id os draw=>intro Ca σ K Q h hb hQ a w c gh;refine Pt hE hF hm h (λo ho d hd=> ?_) (λσ' a w c hk gh=>hQ .normal σ' a w c hk gh) gh;have:=bu.1 hb o ho;rw[hd]at this;have this:qk d N=true:=this;simpa [Ak]using this
 |seq x y ihx ihy=>
  intro Ca σ K Q h hb hQ a w c gh;simp only[s9,aL]at hb;refine wp_seq (ihx (λc hc=>Ca c (bW _ hc)) σ _ _ h hb.1 (λe σ' a w c hk gh=> ?_) a w c gh);cases e with
  |normal=>exact ihy (λc hc=>Ca c (bP _ hc)) σ' K Q hk hb.2 hQ a w c gh
  |exit id=>exact hQ (.exit id) σ' a w c hk gh
  |ret=>exact hQ .ret σ' a w c hk gh
 |cond cnd x y ihx ihy=>
  intro Ca σ K Q h hb hQ a w c gh;simp only[s9,aL]at hb;cases cnd with
  |tmp t=>
   unfold tc at h;dsimp only at h;split at h
   ·rename_i b hs;have h1:=gh.sl.ok t;have:slot σ t= .v ak [.b b]:=by unfold slot;rw[hs]
    rw[this]at h1;have h1:a.eval (.tmp t)= .bool b:=h1;cases b with
    |true=>have h:tc E it x (pG σ (qg t) (.v (.v ak [.b ai]))) K=ah r:=h;rw[CW hs]at h;exact wp_cond_true h1 (ihx (λc hc=>Ca c (bW _ hc)) σ K Q h hb.1 hQ a w c gh)
    |false=>have h:tc E it y (pG σ (qg t) (.v (.v ak [.b ak]))) K=ah r:=h;rw[CW hs]at h;exact wp_cond_false h1 (ihy (λc hc=>Ca c (bP _ hc)) σ K Q h hb.2 hQ a w c gh)
   ·cases h
  |_=>simp[tc]at h
 |block id x ih=>
  intro Ca σ K Q h hb hQ a w c gh;refine wp_block (ih Ca σ _ _ h hb (λe σ' a w c hk gh=> ?_) a w c gh);cases e with
  |normal=>exact hQ .normal σ' a w c hk gh
  |ret=>exact hQ .ret σ' a w c hk gh
  |exit j=>
   have hk:(bif bD j id then K .normal σ' else K (.exit j) σ')=ah r:=hk;show HH id Q (.exit j) a w;cases hj:bD j id with
   |true=>rw[hj]at hk;have OS:=aU hj;have h1:Q .normal a w:=hQ .normal σ' a w c hk gh;simp only[HH,OS,if_true];exact h1
   |false=>
    rw[hj]at hk;have iw:j≠id:=λe=>by subst e;simp at hj
    have h1:Q (.exit j) a w:=hQ (.exit j) σ' a w c hk gh;simp only[HH,iw,if_false];exact h1
 |loop x ih=>
  intro Ca σ K Q h hb hQ a w c gh;obtain⟨n,h⟩:∃n,iter (tc E it x) (canon (E.zX (gE x))) n (canon (E.zX (gE x)) σ) K=ah r:=Ca x (dL ..) _ K r h;let f:=tc (R:=R) E it x;let cn:=canon (E.zX (gE x));let p:Act->bK->aE->Prop:=λa w m=>∃σ c,iter f cn m σ K=ah r/\At P E N σ0 c0 w0 σ a w c;let mu:Act->bK->aE:=λa w=>open Classical in if h:∃m,p a w m then(least h).choose else 0
  have hmu:∀a w,(∃m,p a w m)->p a w (mu a w)/\∀k,p a w k->mu a w<=k:=by
   intro a w h;have:mu a w=(least h).choose:=by simp only[mu];rw[dif_pos h]
   rw[this];exact(least h).choose_spec
  obtain⟨c1,arj⟩:=H9 (keep:=E.zX (gE x)) SX gh;refine wp_loop (λa w=>∃m,p a w m) mu ⟨n,_,c1,h,arj⟩ (λa w hI=> ?_);obtain⟨⟨σ1,c2,h1,oF⟩,hle⟩:=hmu a w hI;cases hm0:mu a w with
  |zero=>rw[hm0]at h1;cases h1
  |succ m=>
   rw[hm0]at h1;refine ih (λc hc=>Ca c (c7 _ hc)) σ1 _ _ h1 hb (λe σ' a' w' c' hk AF=> ?_) a w c2 oF;obtain⟨c3,aek⟩:=H9 (keep:=E.zX (gE x)) SX AF;cases e with
   |normal=>
    have hp:p a' w' m:=⟨_,c3,hk,aek⟩
    refine⟨⟨m,hp⟩, ?_⟩
    have:=(hmu a' w' ⟨m,hp⟩).2 m hp;omega
   |exit id=>exact hQ (.exit id) _ a' w' c3 hk aek
   |ret=>exact hQ .ret _ a' w' c3 hk aek
 |exit id=>intro _ σ K Q h _ hQ a w c gh;exact wp_exit (hQ (.exit id) σ a w c h gh)
 |ret=>intro _ σ K Q h _ hQ a w c gh;exact wp_ret (hQ .ret σ a w c h gh)
 |_=>intro _ σ K Q h;simp[tc]at h
end
end Go.FG

namespace Go.FG
structure jB where
 aa:AA
 tk:aC aE
 fz:aC aE
 p:Pl
 g:aE->aE->Pl
 u:bj
section
variable {P:cZ} {E:fU} {σ:St} {a:Act} {w:bK} {c:eZ}
def jO(T:Tab)(σ:St)(w:bK)(c:eZ)(r:jB):Prop:=
 (∃e ex ys te,r.aa= .ow e ex ys/\r.fz=[]/\T.ty e=ah te/\r.u=lO r.p/\r.p.sz=te.ks.length/\(∀y∈ys,y.map CV.kd=te.ks)/\jg w r.p ys (λi j u x=>if ex=ai then XC T w r.g i j u x else da T w c.K u x)/\(ex=ai->Fh r.p r.g ys)/\
  (r.p.nil=ak->∃n ob,n∈r.tk/\σ (c_ n)= .o ob/\fN c n ob r.p.blk)/\(ex=ai->∀i j,gm ys i j->(r.g i j).nil=ak->∃n ob,n∈r.tk/\σ (c_ n)= .o ob/\fN c n ob (r.g i j).blk))\/
 (r.tk=[]/\(∀n∈r.fz,∃el ex xs,σ (c_ n)= .o (.row el ex xs))/\(∀e ex xs,r.aa≠ .ow e ex xs)/\(∀xs,r.aa≠ .kp xs)/\∀c3:eZ,(∀b,K1r σ c r.fz b->c3.K b)->∀nm,eG T w c3 (lu nm r.aa) r.u)
theorem Is(cf:Ok E σ w c){om:Om}{k:Ck}{x:AV}{u:bj}{aa:AA}{tk fz:aC aE}(h:zU E om σ k x=ah (aa,tk,fz))(hx:eG E w c x u):∃p g,jO E σ w c ⟨aa,tk,fz,p,g,u⟩:=by
 let nl:Pl:=⟨ai,0,0,0,0,0⟩
 have OW:∀e ex ys tk,(wN e x).val σ=ah (ex,ys,tk)->(∃te,E.ty e=ah te)->∃p g,jO E σ w c ⟨.ow e ex ys,tk,[],p,g,u⟩:=by rintro e ex ys tk hb ⟨te,ht⟩;obtain⟨p,g,hB⟩:=BP cf ht hx hb;exact⟨p,g, .inl ⟨e,ex,ys,te,rfl,rfl,ht,hB.v,hB.sz,hB.sh,hB.at_,hB.inn,hB.own,hB.owni⟩⟩
 have SH:∀aa fz,(∀n∈fz,∃el ex xs,σ (c_ n)= .o (.row el ex xs))->(∀e ex xs,aa≠ .ow e ex xs)->(∀xs,aa≠ .kp xs)->(∀c3:eZ,(∀b,K1r σ c fz b->c3.K b)->∀nm,eG E w c3 (lu nm aa) u)->∃p g,jO E σ w c ⟨aa,[],fz,p,g,u⟩:=
  λaa fz h1 h2 h3 h4=>⟨nl,λ_ _=>nl, .inr ⟨rfl,h1,h2,h3,h4⟩⟩
 have Tn:∀n∈([]:aC aE),∃el ex xs,σ (c_ n)= .o (.row el ex xs):=λn hn=>by cases hn
 have HT:∀e,zV E e=ai->∃te,E.ty e=ah te:=λe he=>by
  unfold zV at he;cases ht:E.ty e with
  |none=>rw[ht]at he;cases he
  |some te=>exact⟨te,rfl⟩
 have frz:∀{n el:aE} {ex:aW} {xs:aQ},σ (c_ n)= .o (.row el ex xs)->∀c3:eZ,(∀b,K1r σ c [n] b->c3.K b)->(∀b,c.K b->c3.K b)/\∀b,fN c n (.row el ex xs) b->c3.K b:=λhg c3 h=>⟨λb hb=>h b (.inl hb),λb hb=>h b (.inr ⟨_,a_.2 rfl,_,hg,hb⟩)⟩
 have fst:∀{n el:aE} {ex:aW} {xs:aQ},σ (c_ n)= .o (.row el ex xs)->∀m∈[n],∃el ex xs,σ (c_ m)= .o (.row el ex xs):=λhg m hm=>by rw[a_]at hm;subst hm;exact⟨_,_,_,hg⟩
 cases x with
 |i k n=>cases h;exact SH _ _ Tn (λ_ _ _ h=>by cases h) (λ_ h=>by cases h) (λc3 _ _=>hx)
 |b y=>cases h;exact SH _ _ Tn (λ_ _ _ h=>by cases h) (λ_ h=>by cases h) (λc3 _ _=>hx)
 |s y=>cases h;exact SH _ _ Tn (λ_ _ _ h=>by cases h) (λ_ h=>by cases h) (λc3 _ _=>hx)
 |sh e xs=>
  cases om with
  |own=>cases h
  |nat=>cases h;exact SH _ _ Tn (λ_ _ _ h=>by cases h) (λ_ h=>by cases h) (λc3 h3 _=>da.frame hx (λ_ _=>rfl) (λb hb=>h3 b (.inl hb)))
  |sh=>cases h;exact SH _ _ Tn (λ_ _ _ h=>by cases h) (λ_ h=>by cases h) (λc3 h3 _=>da.frame hx (λ_ _=>rfl) (λb hb=>h3 b (.inl hb)))
 |nl=>
  have hx:u= .slice aj 0 0:=hx;cases om with
  |own e=>
   have h:(bif zV E e then ah (AA.ow e ai [],([]:aC aE),([]:aC aE))else aj)=ah (aa,tk,fz):=h;cases ht:zV E e with
   |false=>rw[ht]at h;cases h
   |true=>rw[ht]at h;cases h;exact OW e ai [] [] rfl (HT e ht)
  |sh e=>cases h;exact SH _ _ Tn (λ_ _ _ h=>by cases h) (λ_ h=>by cases h) (λc3 _ _=>by rw[hx];exact da.nl _ _ _)
  |nat=>
   cases k with
   |l e=>
    have h:(bif zV E e then ah (AA.ow e ai [],([]:aC aE),([]:aC aE))else aj)=ah (aa,tk,fz):=h;cases ht:zV E e with
    |false=>rw[ht]at h;cases h
    |true=>rw[ht]at h;cases h;exact OW e ai [] [] rfl (HT e ht)
   |_=>cases h;exact SH _ _ Tn (λ_ _ _ h=>by cases h) (λ_ h=>by cases h) (λc3 _ _=>hx)
 |own n=>
  unfold zU at h;dsimp only at h;cases ho:σ (c_ n)with
  |v=>rw[ho]at h;cases h
  |jX=>rw[ho]at h;cases h
  |o ob=>
   rw[ho]at h;have hu:u=lO (c.P n):=hx;cases ob with
   |row e ex xs=>
    obtain⟨_,_,ti,ht,_⟩:=lh cf ho;have hb:(wN e (.own n)).val σ=ah (ex,xs,[n]):=by simp[wN,jH,ho]
    cases om with
    |sh e'=>cases h;refine SH _ _ (fst ho) (λ_ _ _ h=>by cases h) (λ_ h=>by cases h) (λc3 h3 _=> ?_);obtain⟨r1,r2⟩:=frz ho c3 h3;rw[hu];exact rN cf ho r1 r2
    |nat=>cases h;exact OW e ex xs [n] hb ⟨ti,ht⟩
    |own=>cases h;exact OW e ex xs [n] hb ⟨ti,ht⟩
   |fV e xs=>
    have hh:da E w c.K u (.l e xs):=by rw[hu];exact(cf.obj n _ ho).1
    cases om with
    |own=>cases h
    |nat=>cases h;exact SH _ _ Tn (λ_ _ _ h=>by cases h) (λ_ h=>by cases h) (λc3 h3 _=>da.frame hh (λ_ _=>rfl) (λb hb=>h3 b (.inl hb)))
    |sh=>cases h;exact SH _ _ Tn (λ_ _ _ h=>by cases h) (λ_ h=>by cases h) (λc3 h3 _=>da.frame hh (λ_ _=>rfl) (λb hb=>h3 b (.inl hb)))
   |_=>cases h
 |vw n lo hi=>
  unfold zU at h;dsimp only at h;cases ho:σ (c_ n)with
  |v=>rw[ho]at h;cases h
  |jX=>rw[ho]at h;cases h
  |o ob=>
   rw[ho]at h;cases ob with
   |row e ex xs=>
    obtain⟨_,_,ti,ht,_⟩:=lh cf ho;have hb:(wN e (.vw n lo hi)).val σ=ah (ex,eW xs lo hi,[n]):=by simp[wN,jH,ho]
    cases om with
    |sh e'=>cases h;refine SH _ _ (fst ho) (λ_ _ _ h=>by cases h) (λ_ h=>by cases h) (λc3 h3 _=> ?_);obtain⟨r1,r2⟩:=frz ho c3 h3;exact EY cf ho r1 r2 hx
    |nat=>cases h;exact OW e ex _ [n] hb ⟨ti,ht⟩
    |own=>cases h;exact OW e ex _ [n] hb ⟨ti,ht⟩
   |fV e xs=>
    have hh:da E w c.K u (.l e (eW xs lo hi)):=pd cf ho hx;cases om with
    |own=>cases h
    |nat=>cases h;exact SH _ _ Tn (λ_ _ _ h=>by cases h) (λ_ h=>by cases h) (λc3 h3 _=>da.frame hh (λ_ _=>rfl) (λb hb=>h3 b (.inl hb)))
    |sh=>cases h;exact SH _ _ Tn (λ_ _ _ h=>by cases h) (λ_ h=>by cases h) (λc3 h3 _=>da.frame hh (λ_ _=>rfl) (λb hb=>h3 b (.inl hb)))
   |_=>cases h
 |_=>simp[zU]at h
theorem Ep(cf:Ok E σ w c){q:aE}:∀{xs:aC AV} {j0:aE} {ks:aC Ck} {l:aC AA} {tk fz:aC aE} {vals:dq bj},td E q σ j0 ks xs=ah (l,tk,fz)->gb E w c vals xs->
  ∃cs:aC jB,l=cs.map (·.aa)/\tk=cs.flatMap (·.tk)/\fz=cs.flatMap (·.fz)/\cs.length=xs.length/\∀(j:aE) (r:jB),cs[j]? =ah r->vals[j]? =ah r.u/\jO E σ w c r:=by
 intro xs;induction xs with
 |nil=>intro j0 ks l tk fz vals h _;cases h;exact⟨[],rfl,rfl,rfl,rfl,λj r h=>by simp at h⟩
 |cons x xs ih=>
  intro j0 ks l tk fz vals h hv;unfold td at h;split at h
  ·rename_i aa t f as ts fs h1 h2;cases h;obtain⟨u,hu,ha⟩:=hv.2 0 x rfl;obtain⟨p,g,hc⟩:=Is cf h1 ha;have M_:gb E w c (vals.extract 1 vals.size) xs:=by
    refine⟨by simp;have:=hv.1;simp at this;omega,λj b hj=> ?_⟩
    obtain⟨u,hu,hb⟩:=hv.2 (j+1) b hj;refine⟨u, ?_,hb⟩
    have:=(dV.1 hu).1;rw[ea,bw (by omega),iZ];exact hu
   obtain⟨cs,rfl,rfl,rfl,i4,i5⟩:=ih h2 M_;refine⟨⟨aa,t,f,p,g,u⟩::cs,rfl,rfl,rfl,by simp[i4],λj r hj=> ?_⟩
   cases j with
   |zero=>cases hj;exact⟨hu,hc⟩
   |succ j=>
    obtain⟨r1,r2⟩:=i5 j r hj;refine⟨?_,r2⟩
    rw[ea]at r1;split at r1
    ·rw[iZ];exact r1
    ·cases r1
  ·cases h
end
end Go.FG

namespace Go.FG
structure kX where
 box:az aE
 agg:aW
 cs:aC jB
 v:bj
def kX.arg(R:kX):fa:=match R.box with|some _=> .pt (R.cs.map (·.aa))|none=> .v R.agg (R.cs.map (·.aa))
def kX.tk(R:kX):aC aE:=R.box.toList++R.cs.flatMap (·.tk)
def kX.fz(R:kX):aC aE:=R.cs.flatMap (·.fz)
def zx(rv:ResultVar)(tmps:dq bj):Sem bj:=match rv with| .tmp t=>pure (tmps.getD t undef)| .cell a t=>do loadVar t (<-asAddr (tmps.getD a undef))
section
variable {P:cZ} {E:fU} {σ:St} {a:Act} {w:bK} {c:eZ}
def BF(T:Tab)(σ:St)(w:bK)(c:eZ)(R:kX):Prop:=
 (∃nm xs vals,R.box=ah nm/\σ (c_ nm)= .o (.box xs)/\R.v= .pointer (ah (ad (c.P nm).blk 0))/\nQ w (c.P nm).blk vals/\vals.size=R.cs.length/\∀(j:aE) (r:jB),R.cs[j]? =ah r->vals[j]? =ah r.u/\jO T σ w c r)\/
 (R.box=aj/\((R.agg=ak/\∃r,R.cs=[r]/\r.u=R.v/\jO T σ w c r)\/(R.agg=ai/\∃vals:dq bj,R.v= .agg vals/\vals.size=R.cs.length/\∀(j:aE) (r:jB),R.cs[j]? =ah r->vals[j]? =ah r.u/\jO T σ w c r)))
theorem Iu(cf:Ok E σ w c){q:aE}{ks:aC Ck}{s:SV}{v:bj}{x:fa}{tk fz:aC aE}(h:MY E q σ ks s=ah (x,tk,fz))(hs:jh E w c s v):∃R:kX,R.arg=x/\R.tk=tk/\R.fz=fz/\R.v=v/\BF E σ w c R:=by
 have gen:∀g xs,s= .v g xs->(match td E q σ 0 ks xs with|some (l,ns,ms)=>ah (fa.v g l,ns,ms)|none=>aj)=ah (x,tk,fz)->∃R:kX,R.arg=x/\R.tk=tk/\R.fz=fz/\R.v=v/\BF E σ w c R:=by
  rintro g xs rfl h;cases hf:td E q σ 0 ks xs with
  |none=>rw[hf]at h;cases h
  |some t=>
   obtain⟨l,ns,ms⟩:=t;rw[hf]at h;cases h;obtain⟨cs,rfl,rfl,rfl,h4,h5⟩:=Ep cf hf (qa.cells hs);refine⟨⟨aj,g,cs,v⟩,rfl,by simp[kX.tk],rfl,rfl, .inr ⟨rfl, ?_⟩⟩
   replace hs:qa E w c g xs v:=hs;have xB:∀y,qa E w c ak [y] v->v.cells= #[v]:=λy hy=>Ej (eG.one hy);unfold qa at hs;split at hs
   ·rename_i y;obtain⟨r,rfl⟩:=gV.1 (h4.trans rfl);obtain⟨h6,h7⟩:=h5 0 r rfl;rw[xB y hs]at h6;exact .inl ⟨rfl,r,rfl,by simpa using h6.symm,h7⟩
   ·obtain⟨vals,rfl,gi,_⟩:=hs;exact .inr ⟨rfl,vals,rfl,by rw[gi];exact h4.symm,h5⟩
   ·exact hs.elim
 unfold MY at h;split at h
 ·rename_i nm;cases ho:σ (c_ nm)with
  |v=>rw[ho]at h;cases h
  |jX=>rw[ho]at h;cases h
  |o ob=>
   rw[ho]at h;cases ob with
   |box xs=>
    dsimp only at h;cases hf:td E q σ 0 [] xs with
    |none=>rw[hf]at h;cases h
    |some t=>obtain⟨l,ns,ms⟩:=t;rw[hf]at h;cases h;obtain⟨vals,hb,gi,hv⟩:=cf.obj nm _ ho;obtain⟨cs,rfl,rfl,rfl,h4,h5⟩:=Ep cf hf ⟨gi,hv⟩;exact⟨⟨ah nm,ak,cs,v⟩,rfl,rfl,rfl,rfl, .inl ⟨nm,xs,vals,rfl,ho,hs,hb,by rw[gi];exact h4.symm,h5⟩⟩
   |_=>cases h
 ·exact gen _ _ rfl h
 ·cases h
theorem Jp(hE:eC P E){t:aE}{ti:TI}(ht:E.ty t=ah ti){b:aE}{vals:dq bj}(hb:nQ w b vals)(hl:vals.size=ti.ks.length):(loadVar t (ad b 0)).run P w= .ok (if ti.agg=ai then .agg vals else vals.toList.headD .nilIface) w:=by
 have h:=CL (P:=P) w hE ht (b:=b) (o:=0) (cs:=vals.toList) (by simpa using hl) (λj v hj=>by rw[bS,hb.cell];simpa using hj);have e:(yF t (.pointer (ah (ad b 0)))).run P w=(loadVar t (ad b 0)).run P w:=by simp only[yF,uF,ch,cS,bF]
 rw[<-e,h]
theorem Um(hE:eC P E)(cf:Ok E σ w c)(dJ:fC E σ a w c){q:aE}{rv:ResultVar}{t:aE}{x:fa}{tk fz:aC aE}(h:Ul E q σ rv t=ah (x,tk,fz)):∃R:kX,R.arg=x/\R.tk=tk/\R.fz=fz/\BF E σ w c R/\(zx rv a.tmps).run P w= .ok R.v w:=by
 unfold Ul at h;cases ht:E.ty t with
 |none=>rw[ht]at h;cases h
 |some ti=>
  rw[ht]at h;cases rv with
  |tmp s=>obtain⟨R,h1,h2,h3,h4,h5⟩:=Iu cf h (dJ.ok s);exact⟨R,h1,h2,h3,h5,by rw[h4];rfl⟩
  |cell b t'=>
   dsimp only at h;split at h
   ·rename_i Vh nm ht' hs;split at h
    ·rename_i xs ho;cases hb:bD xs.length Vh.ks.length with
     |false=>rw[hb]at h;cases h
     |true=>
      rw[hb]at h;have hlen:=aU hb;have hv:a.eval (.tmp b)= .pointer (ah (ad (c.P nm).blk 0)):=by have:=dJ.ok b;rw[hs]at this;exact this
      obtain⟨vals,hbl,gi,hcv⟩:=cf.obj nm _ ho;have Sn:=Jp (P:=P) (w:=w) hE ht' hbl (by rw[gi];exact hlen);have ar_:jh E w c (.v Vh.agg xs) (if Vh.agg=ai then .agg vals else vals.toList.headD .nilIface):=by
       show qa E w c Vh.agg xs _;cases ui:Vh.agg with
       |true=>rw[bw rfl];exact⟨vals,rfl,gi,hcv⟩
       |false=>
        obtain⟨d,_,_,hn⟩:=hE.desc t' Vh ht';have h1:Vh.ks.length=1:=by rcases hn ui with ⟨k,h,_⟩|⟨h,_⟩|⟨h,_⟩|⟨e',h,_⟩|⟨h,_⟩<;>simp[h]
        obtain⟨y,rfl⟩:=gV.1 (hlen.trans h1);obtain⟨u,hu,ha⟩:=hcv 0 y rfl;have r_:vals.toList[0]? =ah u:=by simpa using hu
        have:vals.toList.headD .nilIface=u:=by
         cases hl:vals.toList with
         |nil=>rw[hl]at r_;cases r_
         |cons z l=>rw[hl]at r_;cases r_;rfl
        rw[bG (by simp),this];exact ha
      obtain⟨R,h1,h2,h3,h4,h5⟩:=Iu cf h ar_;refine⟨R,h1,h2,h3,h5, ?_⟩
      rw[h4,<-Sn];have:a.tmps.getD b undef= .pointer (ah (ad (c.P nm).blk 0)):=hv;simp only[zx,this,asAddr,ch,cS,bF]
    ·cases h
   ·cases h
theorem Pw(hE:eC P E)(cf:Ok E σ w c)(dJ:fC E σ a w c):∀{rs:aC ResultVar} {q:aE} {ts:aC aE} {as:aC fa} {tk fz:aC aE},CE E σ q rs ts=ah (as,tk,fz)->∃RL:aC kX,as=RL.map (·.arg)/\tk=RL.flatMap (·.tk)/\fz=RL.flatMap (·.fz)/\(∀R∈RL,BF E σ w c R)/\RL.length=rs.length/\(rs.mapM (λrv=>zx rv a.tmps)).run P w= .ok (RL.map (·.v)) w:=by
 intro rs;induction rs with
 |nil=>intro q ts as tk fz h;cases h;exact⟨[],rfl,rfl,rfl,λR h=>(by cases h),rfl,by simp⟩
 |cons rv rs ih=>
  intro q ts as tk fz h;unfold CE at h;split at h
  ·rename_i x l m as' ls ms h1 h2;cases h;obtain⟨R,rfl,rfl,rfl,r4,r5⟩:=Um hE cf dJ h1;obtain⟨RL,rfl,rfl,rfl,i4,i5,i6⟩:=ih h2;refine⟨R::RL,rfl,rfl,rfl,λR' hR=> ?_,by simp[i5], ?_⟩
   ·rcases cu.1 hR with rfl|hR
    ·exact r4
    ·exact i4 R' hR
   ·simp only[Wr,ch,r5,i6,bF,cS,fB]
  ·cases h
def CF(vs:aC bj):bj:=match vs with|[v]=>v|l=> .tuple l.toArray
theorem Jq{fn:Func}{vs:aC bj}(h:(fn.results.toList.mapM (λrv=>zx rv a.tmps)).run P w= .ok vs w):(results fn a.tmps).run P w= .ok (CF vs) w:=by
 have e:(fn.results.mapM (λrv=>zx rv a.tmps)).run P w= .ok vs.toArray w:=by rw[Array.mapM_eq_mapM_toList];simp[h]
 have:results fn a.tmps=(do let vs<-fn.results.mapM (λrv=>zx rv a.tmps);pure (if h:vs.size=1 then vs[0]else .tuple vs)):=rfl;rw[this];simp only[ch,e,bF,cS];match vs with
 |[]=>rfl
 |[v]=>rfl
 |_::_::_=>rfl
end
end Go.FG

namespace Go.FG
structure mM where
 box:aW
 cs:aC jB
def mM.l(O:mM):aC AA:=O.cs.map (·.aa)
def mM.ns(O:mM)(p:aE):aC aE:=(if O.box=ai then [dU p 900]else [])++O.cs.flatMap (·.tk)
def mM.ms(O:mM):aC aE:=O.cs.flatMap (·.fz)
section
variable {P:cZ} {E:fU} {σ:St} {a:Act} {w:bK} {c:eZ}
def Kept(σ:St)(p j:aE)(xs:aC AA)(r:jB):Prop:=∃e ex z ys,xs[j]? =ah (.ow e ex z)/\r.aa= .kp ys/\r.tk=[dU p j]/\r.fz=[]/\σ (c_ (dU p j))= .o (.row e ex ys)
def HK(T:Tab)(σ:St)(w:bK)(c:eZ)(p:aE)(x:fa)(O:mM):Prop:=
 (O.box=ak/\(∀xs,x≠ .pt xs)/\(O.cs=[]\/∃g xs,x= .v g xs/\∀(j:aE) (r:jB),O.cs[j]? =ah r->Kept σ p j xs r\/(r.aa= .nl/\r.tk=[]/\r.fz=[])))\/
 (O.box=ai/\∃xs vs vals,x= .pt xs/\σ (c_ (dU p 900))= .o (.box vs)/\nQ w (c.P (dU p 900)).blk vals/\vals.size=O.cs.length/\
  ∀(j:aE) (r:jB),O.cs[j]? =ah r->vals[j]? =ah r.u/\((Kept σ p j xs r/\r.u=lO (c.P (dU p j)))\/jO T σ w c r))
theorem Ju{a b:aW}(h:Jt a b=ai):a=b:=by cases a<;>cases b<;>first|rfl|cases h
theorem YD(p j i:aE):dU p j+i=dU p (j+i):=by unfold dU;omega
theorem KY{tk:aC aE}{p:aE}:∀{xs:aC AA} {j:aE},∃cs:aC jB,(pO σ tk (dU p j) xs).1=cs.map (·.aa)/\(pO σ tk (dU p j) xs).2=cs.flatMap (·.tk)/\cs.flatMap (·.fz)=[]/\
  ∀(i:aE) (r:jB),cs[i]? =ah r->((∃e ex z ys,xs[i]? =ah (.ow e ex z)/\r.aa= .kp ys/\r.tk=[dU p (j+i)]/\r.fz=[]/\σ (c_ (dU p (j+i)))= .o (.row e ex ys))\/(r.aa= .nl/\r.tk=[]/\r.fz=[])):=by
 intro xs;induction xs with
 |nil=>intro j;exact⟨[],rfl,rfl,rfl,λi r h=>by simp at h⟩
 |cons x xs ih=>
  intro j;obtain⟨cs,h1,h2,h3,h4⟩:=ih (j:=j+1);have e1:dU p j+1=dU p (j+1):=YD p j 1;let pl:Pl:=⟨ai,0,0,0,0,0⟩
  have one:∃r:jB,nr σ tk (dU p j) x=(r.aa,r.tk)/\r.fz=[]/\((∃e ex z ys,x= .ow e ex z/\r.aa= .kp ys/\r.tk=[dU p j]/\r.fz=[]/\σ (c_ (dU p j))= .o (.row e ex ys))\/(r.aa= .nl/\r.tk=[]/\r.fz=[])):=by
   have no:nr σ tk (dU p j) x=(.nl,[])->∃r:jB,nr σ tk (dU p j) x=(r.aa,r.tk)/\r.fz=[]/\((∃e ex z ys,x= .ow e ex z/\r.aa= .kp ys/\r.tk=[dU p j]/\r.fz=[]/\σ (c_ (dU p j))= .o (.row e ex ys))\/(r.aa= .nl/\r.tk=[]/\r.fz=[])):=
    λh=>⟨⟨.nl,[],[],pl,λ_ _=>pl,undef⟩,h,rfl, .inr ⟨rfl,rfl,rfl⟩⟩
   cases x with
   |ow e ex z=>
    cases hm:mF (dU p j) tk with
    |true=>exact no (by simp[nr,hm])
    |false=>
     obtain⟨so,ho⟩:∃so,σ (c_ (dU p j))=so:=⟨_,rfl⟩
     cases so with
     |v=>exact no (by simp[nr,hm,ho])
     |jX=>exact no (by simp[nr,hm,ho])
     |o ob=>
      cases ob with
      |row e' uh ys=>
       cases hb:(bD e e'&&Jt ex uh)with
       |false=>exact no (by simp only[nr,hm,ay,ho,hb])
       |true=>simp only[aL]at hb;have he:=aU hb.1;have hx:=Ju hb.2;subst he;subst hx;exact⟨⟨.kp ys,[dU p j],[],pl,λ_ _=>pl,undef⟩,by simp[nr,hm,ho,hb.2],rfl, .inl ⟨e,ex,z,ys,rfl,rfl,rfl,rfl,ho⟩⟩
      |_=>exact no (by simp[nr,hm,ho])
   |_=>exact no rfl
  obtain⟨r,k1,k2,k3⟩:=one;refine⟨r::cs, ?_, ?_,by simp[k2,h3],λi r' hi=> ?_⟩
  ·show(nr σ tk (dU p j) x).1::(pO σ tk (dU p j+1) xs).1=_;rw[k1,e1,h1];rfl
  ·show(nr σ tk (dU p j) x).2++(pO σ tk (dU p j+1) xs).2=_;rw[k1,e1,h2];rfl
  ·cases i with
   |zero=>
    cases hi;rcases k3 with ⟨e,ex,z,ys,q1,q2⟩|q
    ·exact .inl ⟨e,ex,z,ys,by rw[q1];rfl,q2⟩
    ·exact .inr q
   |succ i=>have:=h4 i r' hi;rw[show j+1+i=j+(i+1)by omega]at this;exact this
theorem On(cf:Ok E σ w c){q:aE}:∀{xs:aC AV} {j:aE} {bs l:aC AA} {tk fz:aC aE} {vals:dq bj},Gl E q σ j bs xs=ah (l,tk,fz)->gb E w c vals xs->
  ∃cs:aC jB,l=cs.map (·.aa)/\tk=cs.flatMap (·.tk)/\fz=cs.flatMap (·.fz)/\cs.length=xs.length/\∀(i:aE) (r:jB),cs[i]? =ah r->vals[i]? =ah r.u/\
   (((∃e ex z ys,bs[i]? =ah (.ow e ex z)/\r.aa= .kp ys/\r.tk=[dU q (j+i)]/\r.fz=[]/\σ (c_ (dU q (j+i)))= .o (.row e ex ys))/\r.u=lO (c.P (dU q (j+i))))\/jO E σ w c r):=by
 intro xs;induction xs with
 |nil=>intro j bs l tk fz vals h _;cases h;exact⟨[],rfl,rfl,rfl,rfl,λi r h=>by simp at h⟩
 |cons x xs ih=>
  intro j bs l tk fz vals h hv;unfold Gl at h;split at h
  ·rename_i aa t f as ts fs h1 h2;cases h;obtain⟨u,hu,ha⟩:=hv.2 0 x rfl;have M_:gb E w c (vals.extract 1 vals.size) xs:=by
    refine⟨by simp;have:=hv.1;simp at this;omega,λi b hj=> ?_⟩
    obtain⟨u,hu,hb⟩:=hv.2 (i+1) b hj;refine⟨u, ?_,hb⟩
    have:=(dV.1 hu).1;rw[ea,bw (by omega),iZ];exact hu
   obtain⟨cs,rfl,rfl,rfl,i4,i5⟩:=ih h2 M_;have one:∃p g,((∃e ex z ys,bs[0]? =ah (.ow e ex z)/\aa= .kp ys/\t=[dU q j]/\f=[]/\σ (c_ (dU q j))= .o (.row e ex ys))/\u=lO (c.P (dU q j)))\/jO E σ w c ⟨aa,t,f,p,g,u⟩:=by
    have other:∀{om k},zU E om σ k x=ah (aa,t,f)->∃p g,((∃e ex z ys,bs[0]? =ah (.ow e ex z)/\aa= .kp ys/\t=[dU q j]/\f=[]/\σ (c_ (dU q j))= .o (.row e ex ys))/\u=lO (c.P (dU q j)))\/jO E σ w c ⟨aa,t,f,p,g,u⟩:=λhh=>by obtain⟨p,g,hc⟩:=Is cf hh ha;exact⟨p,g, .inr hc⟩
    unfold Z7 at h1;split at h1
    ·rename_i e ex z n _ hb;cases hn:bD n (dU q j)with
     |false=>rw[hn]at h1;exact other (k:= .o) h1
     |true=>
      rw[hn]at h1;have:=aU hn;subst this;obtain⟨so,ho⟩:∃so,σ (c_ (dU q j))=so:=⟨_,rfl⟩
      cases so with
      |v=>simp[ho]at h1
      |jX=>simp[ho]at h1
      |o ob=>
       cases ob with
       |row e' uh ys=>
        simp only[ho,au]at h1;cases Ez:(bD e e'&&Jt ex uh)with
        |false=>rw[Ez]at h1;cases h1
        |true=>
         rw[Ez]at h1;cases h1;simp only[aL]at Ez;have he:=aU Ez.1;have hx:=Ju Ez.2;subst he;subst hx;refine⟨⟨ai,0,0,0,0,0⟩,λ_ _=>⟨ai,0,0,0,0,0⟩, .inl ⟨⟨e,ex,z,ys, ?_,rfl,rfl,rfl,ho⟩,ha⟩⟩
         cases bs with
         |nil=>cases hb
         |cons b bs=>rw[show b=_ from hb];rfl
       |_=>simp[ho]at h1
    ·exact other (k:= .o) h1
   obtain⟨p,g,hc⟩:=one;refine⟨⟨aa,t,f,p,g,u⟩::cs,rfl,rfl,rfl,by simp[i4],λi r hi=> ?_⟩
   cases i with
   |zero=>cases hi;exact⟨hu,hc⟩
   |succ i=>
    obtain⟨r1,r2⟩:=i5 i r hi;refine⟨?_, ?_⟩
    ·rw[ea]at r1;split at r1
     ·rw[iZ];exact r1
     ·cases r1
    ·rw[show j+1+i=j+(i+1)by omega]at r2;have e1:bs.tail[i]? =bs[i+1]? :=by cases bs<;>simp
     rw[e1]at r2;exact r2
  ·cases h
end
end Go.FG

namespace Go.FG
section
variable {P:cZ} {E:fU} {σ:St} {a:Act} {w:bK} {c:eZ}
theorem Pj(cf:Ok E σ w c){tk:aC aE}:∀{args:aC fa} {p:aE} {l:aC (aC AA)} {ns ms:aC aE},Cy E σ tk p args=ah (l,ns,ms)->
  ∃OL:aC mM,l=OL.map (·.l)/\OL.length=args.length/\ns=(OL.zipIdx p).flatMap (λt=>t.1.ns t.2)/\ms=OL.flatMap (·.ms)/\∀(i:aE) (O:mM) (x:fa),OL[i]? =ah O->args[i]? =ah x->HK E σ w c (p+i) x O:=by
 intro args;induction args with
 |nil=>intro p l ns ms h;cases h;exact⟨[],rfl,rfl,rfl,rfl,λi O x h=>by simp at h⟩
 |cons x args ih=>
  intro p l ns ms h;unfold Cy at h;split at h
  ·cases h
  ·rename_i l' ns' ms' h1;obtain⟨OL,rfl,i2,rfl,rfl,i5⟩:=ih h1;have put:∀O:mM,HK E σ w c p x O->l=O.l::OL.map (·.l)->ns=O.ns p++(OL.zipIdx (p+1)).flatMap (λt=>t.1.ns t.2)->ms=O.ms++OL.flatMap (·.ms)->∃OL:aC mM,l=OL.map (·.l)/\OL.length=(x::args).length/\ns=(OL.zipIdx p).flatMap (λt=>t.1.ns t.2)/\ms=OL.flatMap (·.ms)/\∀(i:aE) (O:mM) (y:fa),OL[i]? =ah O->(x::args)[i]? =ah y->HK E σ w c (p+i) y O:=by
    intro O hO h1 h2 h3;refine⟨O::OL,h1,by simp[i2],by rw[h2,List.zipIdx_cons,yG],h3,λi O' y hi hy=> ?_⟩
    cases i with
    |zero=>cases hi;cases hy;exact hO
    |succ i=>have:=i5 i O' y hi hy;rwa[show p+1+i=p+(i+1)by omega]at this
   cases x with
   |v g xs=>
    dsimp only at h;cases hh:Sd xs with
    |false=>rw[hh]at h;cases h;exact put ⟨ak,[]⟩ (.inl ⟨rfl,(λ_ h=>by cases h), .inl rfl⟩) rfl rfl rfl
    |true=>rw[hh]at h;cases h;obtain⟨cs,k1,k2,k3,k4⟩:=KY (σ:=σ) (tk:=tk) (p:=p) (xs:=xs) (j:=0);refine put ⟨ak,cs⟩ (.inl ⟨rfl,(λ_ h=>by cases h), .inr ⟨g,xs,rfl,λj r hj=> ?_⟩⟩) (by rw[k1];rfl) (by rw[k2];rfl) (by simp[mM.ms,k3]);have:=k4 j r hj;rw[bS]at this;exact this
   |pt xs=>
    dsimp only at h;split at h
    ·rename_i vs ho;split at h
     ·rename_i as ns2 ms2 hb;cases h;obtain⟨vals,hbl,gi,hv⟩:=cf.obj _ _ ho;obtain⟨cs,rfl,rfl,rfl,k4,k5⟩:=On cf hb ⟨gi,hv⟩;refine put ⟨ai,cs⟩ (.inr ⟨rfl,xs,vs,vals,rfl,ho,hbl,by rw[gi];exact k4.symm,λj r hj=> ?_⟩) rfl (by simp[mM.ns]) rfl;obtain⟨r1,r2⟩:=k5 j r hj;rw[bS]at r2;exact⟨r1,r2⟩
     ·cases h
    ·cases h
   |fb xs=>cases h;exact put ⟨ak,[]⟩ (.inl ⟨rfl,(λ_ h=>by cases h), .inl rfl⟩) rfl rfl rfl
theorem zR:∀{l:aC (aC AA)} {p:aE},(ug l).getD p []=l.getD p []:=by
 intro l;induction l with
 |nil=>intro p;rfl
 |cons x l ih=>
  intro p;unfold ug;split
  ·rename_i h;cases p with
   |zero=>rfl
   |succ p=>rw[vD,<-ih,h];rfl
  ·rename_i x' r' _;cases p with
   |zero=>rfl
   |succ p=>rw[vD,vD,ih]
end
end Go.FG

namespace Go.FG
structure Sp where
 res:aW
 i:aE
 j:az aE
def ph(RL:aC kX)(OL:aC mM)(s:Sp):aC aE:=
 match s.res,s.j with
 |true,aj=>match RL[s.i]? with|some R=>R.box.toList|none=>[]
 |true,ah j=>match RL[s.i]? with|some R=>(match R.cs[j]? with|some r=>r.tk|none=>[])|none=>[]
 |false,aj=>match OL[s.i]? with|some O=>(if O.box=ai then [dU s.i 900]else [])|none=>[]
 |false,ah j=>match OL[s.i]? with|some O=>(match O.cs[j]? with|some r=>r.tk|none=>[])|none=>[]
theorem nv{α:Type}{l:aC α}{i:aE}{x:α}{p:aE}(h:l[i]? =ah x):(l.zipIdx p)[i]? =ah (x,p+i):=by rw[List.getElem?_zipIdx,h];rfl
theorem Zd{RL:aC kX}{OL:aC mM}(hn:(RL.flatMap (·.tk)++(OL.zipIdx 0).flatMap (λt=>t.1.ns t.2)).Nodup){s s':Sp}{n:aE}(h:n∈ph RL OL s)(h':n∈ph RL OL s'):s=s':=by
 obtain⟨n1,n2,n3⟩:=eK.1 hn;obtain⟨a1,a2⟩:=lR n1;obtain⟨b1,b2⟩:=lR n2;have R1:∀{i:aE} {j:az aE},n∈ph RL OL ⟨ai,i,j⟩->∃R,RL[i]? =ah R/\n∈R.tk/\((j=aj/\n∈R.box.toList)\/∃q r,j=ah q/\R.cs[q]? =ah r/\n∈r.tk):=by
  intro i j h;cases j with
  |none=>
   unfold ph at h;dsimp only at h;cases hR:RL[i]? with
   |none=>rw[hR]at h;cases h
   |some R=>rw[hR]at h;exact⟨R,rfl,bW _ h, .inl ⟨rfl,h⟩⟩
  |some q=>
   unfold ph at h;dsimp only at h;cases hR:RL[i]? with
   |none=>rw[hR]at h;cases h
   |some R=>
    rw[hR]at h;dsimp only at h;cases hr:R.cs[q]? with
    |none=>rw[hr]at h;cases h
    |some r=>rw[hr]at h;exact⟨R,rfl,bP _ (bL.2 ⟨r,aR hr,h⟩), .inr ⟨q,r,rfl,hr,h⟩⟩
 have O1:∀{i:aE} {j:az aE},n∈ph RL OL ⟨ak,i,j⟩->∃O,OL[i]? =ah O/\n∈O.ns i/\((j=aj/\n∈(if O.box=ai then [dU i 900]else []))\/∃q r,j=ah q/\O.cs[q]? =ah r/\n∈r.tk):=by
  intro i j h;cases j with
  |none=>
   unfold ph at h;dsimp only at h;cases hR:OL[i]? with
   |none=>rw[hR]at h;cases h
   |some R=>rw[hR]at h;exact⟨R,rfl,bW _ h, .inl ⟨rfl,h⟩⟩
  |some q=>
   unfold ph at h;dsimp only at h;cases hR:OL[i]? with
   |none=>rw[hR]at h;cases h
   |some R=>
    rw[hR]at h;dsimp only at h;cases hr:R.cs[q]? with
    |none=>rw[hr]at h;cases h
    |some r=>rw[hr]at h;exact⟨R,rfl,bP _ (bL.2 ⟨r,aR hr,h⟩), .inr ⟨q,r,rfl,hr,h⟩⟩
 have inn:∀{A:aC aE} {cs:aC jB} {j j':az aE},(A++cs.flatMap (·.tk)).Nodup->((j=aj/\n∈A)\/∃q r,j=ah q/\cs[q]? =ah r/\n∈r.tk)->((j'=aj/\n∈A)\/∃q r,j'=ah q/\cs[q]? =ah r/\n∈r.tk)->j=j':=by
  intro A cs j j' II k k';obtain⟨m1,m2,m3⟩:=eK.1 II;have inC:∀{q:aE} {r:jB},cs[q]? =ah r->n∈r.tk->n∈cs.flatMap (·.tk):=λhq hr=>bL.2 ⟨_,aR hq,hr⟩;rcases k with ⟨rfl,k⟩|⟨q,r,rfl,k1,k2⟩<;>rcases k' with ⟨rfl,k'⟩|⟨q',r',rfl,k1',k2'⟩
  ·rfl
  ·exact cO rfl (m3 n k n (inC k1' k2'))
  ·exact cO rfl (m3 n k' n (inC k1 k2))
  ·rw[(lR m2).1 q q' r r' n k1 k1' k2 k2']
 obtain⟨b,i,j⟩:=s;obtain⟨b',i',j'⟩:=s';cases b<;>cases b'
 ·obtain⟨O,h1,h2,h3⟩:=O1 h;obtain⟨O',KF,OJ,M4⟩:=O1 h';have:=b1 i i' _ _ n (nv (p:=0) h1) (nv (p:=0) KF) (by rw[bS];exact h2) (by rw[bS];exact OJ);subst this;rw[h1]at KF;cases KF;have:=b2 _ (aR (nv (p:=0) h1));rw[bS]at this;rw[inn this h3 M4]
 ·obtain⟨O,h1,h2,h3⟩:=O1 h;obtain⟨R,KF,OJ,_⟩:=R1 h';exact cO rfl (n3 n (bL.2 ⟨R,aR KF,OJ⟩) n (bL.2 ⟨_,aR (nv (p:=0) h1),by rw[bS];exact h2⟩))
 ·obtain⟨R,h1,h2,_⟩:=R1 h;obtain⟨O,KF,OJ,_⟩:=O1 h';exact cO rfl (n3 n (bL.2 ⟨R,aR h1,h2⟩) n (bL.2 ⟨_,aR (nv (p:=0) KF),by rw[bS];exact OJ⟩))
 ·obtain⟨R,h1,h2,h3⟩:=R1 h;obtain⟨R',KF,OJ,M4⟩:=R1 h';have:=a1 i i' _ _ n h1 KF h2 OJ;subst this;rw[h1]at KF;cases KF;have:=a2 _ (aR h1);rw[inn this h3 M4]
end Go.FG

namespace Go.FG
def MF(c:eZ)(RL:aC kX)(OL:aC mM)(m:aE):az (Pl×(aE->aE->Pl)):=
 if m<900000000 then aj
 else if 500<=(m-900000000)/1000 then(match RL[(m-900000000)/1000-500]? with
  |none=>aj
  |some R=>if(m-900000000)%1000=900 then R.box.map (λn=>(c.P n,c.G n))else(R.cs[(m-900000000)%1000]?).map λr=>(r.p,r.g))
 else if 100<=(m-900000000)%1000/\(m-900000000)%1000≠900 then(match OL[(m-900000000)/1000]? with
  |none=>aj
  |some O=>(O.cs[(m-900000000)%1000-100]?).map λr=>(r.p,r.g))
 else aj
def nq(σ:St)(c:eZ)(RL:aC kX)(OL:aC mM):eZ:=
 ⟨λm=>match MF c RL OL m with|some pg=>pg.1|none=>c.P m,λm=>match MF c RL OL m with|some pg=>pg.2|none=>c.G m,K1r σ c (RL.flatMap (·.fz)++OL.flatMap (·.ms))⟩
theorem A2{σ:St}{c:eZ}{RL:aC kX}{OL:aC mM}{m:aE}{p:Pl}{g:aE->aE->Pl}(h:MF c RL OL m=ah (p,g)):(nq σ c RL OL).P m=p/\(nq σ c RL OL).G m=g:=by unfold nq;simp only[h];exact⟨trivial,trivial⟩
theorem A1{σ:St}{c:eZ}{RL:aC kX}{OL:aC mM}{m:aE}(h:MF c RL OL m=aj):(nq σ c RL OL).P m=c.P m/\(nq σ c RL OL).G m=c.G m:=by unfold nq;simp only[h];exact⟨trivial,trivial⟩
section
variable {c:eZ} {RL:aC kX} {OL:aC mM}
theorem RJ{q n:aE}{R:kX}(h:RL[q]? =ah R)(hb:R.box=ah n):MF c RL OL (dU (500+q) 900)=ah (c.P n,c.G n):=by obtain⟨h1,h2⟩:=uo (p:=500+q) (j:=900) (by omega);have h0:=Cp (500+q) 900;unfold MF;rw[bG (by omega),h1,h2,bw (by omega),show 500+q-500=q by omega,h];simp[hb]
theorem Gj{q j:aE}{R:kX}{r:jB}(h:RL[q]? =ah R)(hj:R.cs[j]? =ah r)(hl:j<900):MF c RL OL (dU (500+q) j)=ah (r.p,r.g):=by obtain⟨h1,h2⟩:=uo (p:=500+q) (j:=j) (by omega);have h0:=Cp (500+q) j;unfold MF;rw[bG (by omega),h1,h2,bw (by omega),show 500+q-500=q by omega,h];dsimp only;rw[bG (by omega),hj];rfl
theorem AZ{p j:aE}(hp:p<500)(hl:j<100\/j=900):MF c RL OL (dU p j)=none:=by obtain⟨h1,h2⟩:=uo (p:=p) (j:=j) (by omega);have h0:=Cp p j;unfold MF;rw[bG (by omega),h1,h2,bG (by omega),bG (by omega)]
theorem MG{p j:aE}{O:mM}{r:jB}(hp:p<500)(h:OL[p]? =ah O)(hj:O.cs[j]? =ah r)(hl:j<=100):MF c RL OL (dU p (100+j))=ah (r.p,r.g):=by obtain⟨h1,h2⟩:=uo (p:=p) (j:=100+j) (by omega);have h0:=Cp p (100+j);unfold MF;rw[bG (by omega),h1,h2,bG (by omega),bw (by omega),h];dsimp only;rw[show 100+j-100=j by omega,hj];rfl
end
end Go.FG

namespace Go.FG
def ajp(OL:aC mM)(s:Sp):aE:=
 match s.res,s.j with
 |true,aj=>dU (500+s.i) 900
 |true,ah j=>dU (500+s.i) j
 |false,aj=>dU s.i 900
 |false,ah j=>match OL[s.i]? with|some O=>(match O.cs[j]? with|some r=>(match r.aa with| .kp _=>dU s.i j|_=>dU s.i (100+j))|none=>0)|none=>0
section
variable {P:cZ} {E:fU} {σ:St} {a:Act} {w:bK} {c:eZ} {RL:aC kX} {OL:aC mM}
theorem A4{r:jB}(h:jO E σ w c r)(hf:∀n∈r.fz,n∈RL.flatMap (·.fz)++OL.flatMap (·.ms)){x:aE}(hx:MF c RL OL x=ah (r.p,r.g)):eG E w (nq σ c RL OL) (lu x r.aa) r.u:=by
 rcases h with ⟨e,ex,ys,te,h1,h2,h3,h4,_⟩|⟨h1,h2,h3,h4,h5⟩
 ·rw[h1];show r.u=lO ((nq σ c RL OL).P x);rw[(A2 hx).1];exact h4
 ·exact h5 _ (λb hb=>hb.imp id (λ⟨n,hn,hh⟩=>⟨n,hf n hn,hh⟩)) x
theorem H_{r:jB}(h:jO E σ w c r){e:aE}{ex:aW}{ys:aQ}(ha:r.aa= .ow e ex ys){x:aE}(hx:MF c RL OL x=ah (r.p,r.g)):
  pJ E w (nq σ c RL OL) x (.row e ex ys)/\∀b,fN (nq σ c RL OL) x (.row e ex ys) b->∃n ob,n∈r.tk/\σ (c_ n)= .o ob/\fN c n ob b:=by
 obtain⟨e1,e2⟩:=A2 (σ:=σ) hx;rcases h with ⟨e',uh,Da,te,h1,h2,h3,h4,h5,h6,h7,h8,h9,P0⟩|⟨_,_,h3,_⟩
 ·rw[ha]at h1;cases h1;refine⟨⟨⟨te,h3,by rw[e1];exact h5,h6⟩, ?_,λpy=>by rw[e1,e2];exact h8 py⟩,λb hb=> ?_⟩
  ·rw[e1,e2];refine h7.frame (λ_=>rfl) (λi j y xx u hy VX hr=> ?_);split at hr
   ·rename_i py;rw[bw py];exact hr
   ·rename_i py;rw[bG py];exact hr.frame (λ_ _=>rfl) (λb hb=> .inl hb)
  ·rcases hb with ⟨hn,rfl⟩|⟨py,i,j,hh,hn,rfl⟩
   ·rw[e1]at hn⊢;exact h9 hn
   ·rw[e2]at hn⊢;exact P0 py i j hh hn
 ·exact cO ha (h3 _ _ _)
structure DV (T:Tab) (σ:St) (w:bK) (c:eZ) (RL:aC kX) (OL:aC mM) (args:aC fa) (r:dz):Prop where
 rl:∀R∈RL,BF T σ w c R
 ol:∀(i:aE) (O:mM) (x:fa),OL[i]? =ah O->args[i]? =ah x->HK T σ w c i x O
 len:OL.length=args.length
 nd:(RL.flatMap (·.tk)++(OL.zipIdx 0).flatMap (λt=>t.1.ns t.2)).Nodup
 ap:∀n∈RL.flatMap (·.tk)++(OL.zipIdx 0).flatMap (λt=>t.1.ns t.2),n∉RL.flatMap (·.fz)++OL.flatMap (·.ms)
 sm:Small args r
 rs:r.rs=RL.map (·.arg)
 outs:∀p,r.outs.getD p []=(OL.map (·.l)).getD p []
theorem RG{R:kX}{xs:aC AA}(h:LY R.arg xs):xs=R.cs.map (·.aa):=by
 unfold kX.arg at h;split at h
 ·rcases h with ⟨g,h⟩|h<;>cases h;rfl
 ·rcases h with ⟨g,h⟩|h<;>cases h;rfl
theorem wS(cf:Ok E σ w c){args:aC fa}{r:dz}(hE:DV E σ w c RL OL args r){x:aE}{ob:Obj}(h:Bq args r x (.o ob)):
  pJ E w (nq σ c RL OL) x ob/\∃s,x=ajp OL s/\∀b,fN (nq σ c RL OL) x ob b->∃n o,n∈ph RL OL s/\σ (c_ n)= .o o/\fN c n o b:=by
 have alf:∀{q:aE} {y:fa},r.rs[q]? =ah y->∃R,RL[q]? =ah R/\y=R.arg:=by
  intro q y hq;rw[hE.rs,bJ]at hq;cases hR:RL[q]? with
  |none=>rw[hR]at hq;cases hq
  |some R=>rw[hR]at hq;cases hq;exact⟨R,rfl,rfl⟩
 have fzR:∀{q:aE} {R:kX} {j:aE} {t:jB},RL[q]? =ah R->R.cs[j]? =ah t->∀n∈t.fz,n∈RL.flatMap (·.fz)++OL.flatMap (·.ms):=λhR hj n hn=>bW _ (bL.2 ⟨_,aR hR,bL.2 ⟨_,aR hj,hn⟩⟩);have fzO:∀{q:aE} {O:mM} {j:aE} {t:jB},OL[q]? =ah O->O.cs[j]? =ah t->∀n∈t.fz,n∈RL.flatMap (·.fz)++OL.flatMap (·.ms):=λhR hj n hn=>bP _ (bL.2 ⟨_,aR hR,bL.2 ⟨_,aR hj,hn⟩⟩);have afC:∀{p:aE} {y:fa},args[p]? =ah y->∃O,OL[p]? =ah O/\HK E σ w c p y O/\r.outs.getD p []=O.cs.map (·.aa):=by
  intro p y hp;have sL:p<OL.length:=by rw[hE.len];exact(aT.1 hp).1
  have hO:OL[p]? =ah OL[p]:=by simp[sL]
  refine⟨OL[p],hO,hE.ol p _ y hO hp, ?_⟩
  rw[hE.outs,cY,bJ,hO];rfl
 have csJ:∀{cs:aC jB} {j:aE} {y:AA},(cs.map (·.aa))[j]? =ah y->∃t,cs[j]? =ah t/\t.aa=y:=by
  intro cs j y hj;rw[bJ]at hj;cases ht:cs[j]? with
  |none=>rw[ht]at hj;cases hj
  |some t=>rw[ht]at hj;cases hj;exact⟨t,rfl,rfl⟩
 have hnm:∀p j,dU p 0+j=dU p j:=λp j=>by unfold dU;omega
 cases h with
 |rb q xs h0=>
  obtain⟨R,hR,hy⟩:=alf h0;rcases hE.rl R (aR hR)with ⟨nm,zs,vals,h1,h2,h3,h4,h5,h6⟩|⟨h1,_⟩
  ·have hxs:=RG (R:=R) (xs:=xs) (.inr hy.symm);obtain⟨e1,e2⟩:=A2 (σ:=σ) (RJ (c:=c) (OL:=OL) hR h1);refine⟨⟨vals,by rw[e1];exact h4,by rw[iO,hxs,bR];exact h5,λj y hj=> ?_⟩,⟨ai,q,aj⟩,rfl,λb hb=>⟨nm,_, ?_,h2, ?_⟩⟩
   ·rw[iB,hxs]at hj;cases hx:(R.cs.map (·.aa))[j]? with
    |none=>rw[hx]at hj;cases hj
    |some z=>
     rw[hx]at hj;cases hj;obtain⟨t,ht,rfl⟩:=csJ hx;obtain⟨k1,k2⟩:=h6 j t ht;have jW:j<900:=by have:=hE.sm.rl q _ xs h0 (.inr rfl);have h7:=(aT.1 ht).1;rw[hxs,bR]at this;omega
     rw[hnm];exact⟨t.u,k1,A4 k2 (fzR hR ht) (Gj hR ht jW)⟩
   ·show nm∈(match RL[q]? with|some R=>R.box.toList|none=>[]);rw[hR];dsimp only;rw[h1];exact a_.2 rfl
   ·rw[show b=_ from hb,e1];rfl
  ·unfold kX.arg at hy;rw[h1]at hy;cases hy
 |rr q y xs j e ex ys h0 hx hj=>
  obtain⟨R,hR,rfl⟩:=alf h0;have hxs:=RG hx;rw[hxs]at hj;obtain⟨t,ht,IM⟩:=csJ hj;have jW:j<900:=by have:=hE.sm.rl q _ xs h0 hx;have h7:=(aT.1 ht).1;rw[hxs,bR]at this;omega
  have hc:jO E σ w c t:=by
   rcases hE.rl R (aR hR)with ⟨nm,zs,vals,_,_,_,_,_,h6⟩|⟨_,⟨_,t',h1,_,h2⟩|⟨_,vals,_,_,h6⟩⟩
   ·exact(h6 j t ht).2
   ·rw[h1]at ht;cases j with
    |zero=>cases ht;exact h2
    |succ j=>simp at ht
   ·exact(h6 j t ht).2
  obtain⟨k1,k2⟩:=H_ (RL:=RL) (OL:=OL) hc IM (Gj hR ht jW);refine⟨k1,⟨ai,q,ah j⟩,rfl,λb hb=> ?_⟩
  obtain⟨n,o,h1,h2⟩:=k2 b hb;refine⟨n,o, ?_,h2⟩
  show n∈(match RL[q]? with|some R=>(match R.cs[j]? with|some r=>r.tk|none=>[])|none=>[]);rw[hR];dsimp only;rw[ht];exact h1
 |ob p xs h0=>
  obtain⟨O,hO,hoo,hl⟩:=afC h0;have hp:=hE.sm.a p _ xs h0 (.inr rfl);rcases hoo with ⟨_,h1,_⟩|⟨h1,LO,vs,vals,Xf,h2,h3,h4,h5⟩
  ·exact cO rfl (h1 xs)
  ·cases Xf;obtain⟨e1,e2⟩:=A1 (σ:=σ) (AZ (c:=c) (RL:=RL) (OL:=OL) hp (.inr rfl));have aim:O.cs.length<=100:=by have:=hE.sm.o p;rw[hl,bR]at this;exact this
   rw[hl];refine⟨⟨vals,by rw[e1];exact h3,by rw[vi,bR];exact h4,λj y hj=> ?_⟩,⟨ak,p,aj⟩,rfl,λb hb=>⟨dU p 900,_, ?_,h2, ?_⟩⟩
   ·rw[v8,bS]at hj;cases hx:(O.cs.map (·.aa))[j]? with
    |none=>rw[hx]at hj;cases hj
    |some z=>
     rw[hx]at hj;cases hj;obtain⟨t,ht,rfl⟩:=csJ hx;obtain⟨k1,k2⟩:=h5 j t ht;have jW:=(aT.1 ht).1;refine⟨t.u,k1, ?_⟩
     rcases k2 with ⟨⟨e,ex,z,ys,_,q2,_⟩,q6⟩|k2
     ·rw[q2];show t.u=lO ((nq σ c RL OL).P (dU p j));rw[(A1 (AZ hp (.inl (by omega)))).1];exact q6
     ·have hk:∀ys,t.aa≠ .kp ys:=by
       rcases k2 with ⟨_,_,_,_,q,_⟩|⟨_,_,_,q,_⟩
       ·intro ys hh;rw[q]at hh;cases hh
       ·exact q
      have:tD p j t.aa=lu (dU p (100+j)) t.aa:=by cases hq:t.aa<;>first|rfl|exact cO hq (hk _)
      rw[this];exact A4 k2 (fzO hO ht) (MG hp hO ht (by omega))
   ·show dU p 900∈(match OL[p]? with|some O=>(if O.box=ai then [dU p 900]else [])|none=>[]);rw[hO];dsimp only;rw[bw h1];exact a_.2 rfl
   ·rw[show b=_ from hb,e1];rfl
 |kp p y xs j e ex z ys h0 hx h2 h3=>
  obtain⟨O,hO,hoo,hl⟩:=afC h0;have hp:=hE.sm.a p _ xs h0 hx;rw[hl]at h3;obtain⟨t,ht,IM⟩:=csJ h3;have aim:O.cs.length<=100:=by have:=hE.sm.o p;rw[hl,bR]at this;exact this
  have jW:=(aT.1 ht).1;have aiH:Kept σ p j xs t:=by
   rcases hoo with ⟨_,_,h1|⟨g,LO,Xf,h1⟩⟩|⟨_,LO,vs,vals,Xf,_,_,_,h5⟩
   ·rw[h1]at ht;simp at ht
   ·have:LO=xs:=by rw[Xf]at hx;rcases hx with ⟨g',hx⟩|hx<;>cases hx;rfl
    subst this;rcases h1 j t ht with h|⟨h,_⟩
    ·exact h
    ·rw[IM]at h;cases h
   ·have:LO=xs:=by rw[Xf]at hx;rcases hx with ⟨g',hx⟩|hx<;>cases hx;rfl
    subst this;rcases(h5 j t ht).2 with ⟨h,_⟩|h
    ·exact h
    ·rcases h with ⟨_,_,_,_,q,_⟩|⟨_,_,_,q,_⟩
     ·rw[IM]at q;cases q
     ·exact cO IM (q _)
  obtain⟨e',uh,z',Da,q1,q2,q3,q4,q5⟩:=aiH;rw[h2]at q1;cases q1;rw[IM]at q2;cases q2;obtain⟨e1,e2⟩:=A1 (σ:=σ) (AZ (c:=c) (RL:=RL) (OL:=OL) (p:=p) (j:=j) hp (.inl (by omega)));obtain⟨⟨te,r1,r2,r3⟩,r4,r5⟩:=cf.obj _ _ q5;refine⟨⟨⟨te,r1,by rw[e1];exact r2,r3⟩, ?_,λpy=>by rw[e1,e2];exact r5 py⟩,⟨ak,p,ah j⟩, ?_,λb hb=>⟨dU p j,_, ?_,q5, ?_⟩⟩
  ·rw[e1,e2];refine r4.frame (λ_=>rfl) (λi j y xx u hy VX hr=> ?_);split at hr
   ·rename_i py;rw[bw py];exact hr
   ·rename_i py;rw[bG py];exact hr.frame (λ_ _=>rfl) (λb hb=> .inl hb)
  ·show dU p j=(match OL[p]? with|some O=>(match O.cs[j]? with|some r=>(match r.aa with| .kp _=>dU p j|_=>dU p (100+j))|none=>0)|none=>0)
   rw[hO];dsimp only;rw[ht];dsimp only;rw[IM]
  ·show dU p j∈(match OL[p]? with|some O=>(match O.cs[j]? with|some r=>r.tk|none=>[])|none=>[]);rw[hO];dsimp only;rw[ht];dsimp only;rw[q3];exact a_.2 rfl
  ·rw[mi (c:=c) (c':=nq σ c RL OL) ⟨e1,e2⟩]at hb;exact hb
 |nw p y xs j e ex ys h0 hx h3=>
  obtain⟨O,hO,hoo,hl⟩:=afC h0;have hp:=hE.sm.a p _ xs h0 hx;rw[hl]at h3;obtain⟨t,ht,IM⟩:=csJ h3;have aim:O.cs.length<=100:=by have:=hE.sm.o p;rw[hl,bR]at this;exact this
  have jW:=(aT.1 ht).1;have hc:jO E σ w c t:=by
   rcases hoo with ⟨_,_,h1|⟨g,LO,Xf,h1⟩⟩|⟨_,LO,vs,vals,Xf,_,_,_,h5⟩
   ·rw[h1]at ht;simp at ht
   ·rcases h1 j t ht with ⟨_,_,_,_,_,h,_⟩|⟨h,_⟩<;>(rw[IM]at h;cases h)
   ·rcases(h5 j t ht).2 with ⟨⟨_,_,_,_,_,h,_⟩,_⟩|h
    ·rw[IM]at h;cases h
    ·exact h
  obtain⟨k1,k2⟩:=H_ (RL:=RL) (OL:=OL) hc IM (MG hp hO ht (by omega));refine⟨k1,⟨ak,p,ah j⟩, ?_,λb hb=> ?_⟩
  ·show dU p (100+j)=(match OL[p]? with|some O=>(match O.cs[j]? with|some r=>(match r.aa with| .kp _=>dU p j|_=>dU p (100+j))|none=>0)|none=>0)
   rw[hO];dsimp only;rw[ht];dsimp only;rw[IM]
  ·obtain⟨n,o,h1,h2⟩:=k2 b hb;refine⟨n,o, ?_,h2⟩
   show n∈(match OL[p]? with|some O=>(match O.cs[j]? with|some r=>r.tk|none=>[])|none=>[]);rw[hO];dsimp only;rw[ht];exact h1
end
end Go.FG

namespace Go.FG
theorem vQ{args:aC fa}{r:dz}{m:aE}{o:Obj}(h:Bq args r m (.o o)):oe args r (c_ m)≠ .jX:=by
 refine rQ (wU.2 h) ?_;rintro ⟨k,d⟩ hd;rcases bc.1 hd with hd|hd
 ·obtain⟨i,a,_,hd⟩:=I7.1 hd;rcases iz.1 hd with ⟨_,_,_,h⟩|⟨_,_,_,_,_,_,_,_,h⟩<;>rw[h]<;>simp
 ·obtain⟨i,a,_,hd⟩:=I6.1 hd;rcases qA.1 hd with ⟨_,_,_,h⟩|⟨_,_,⟨_,_,_,_,_,_,_,_,h⟩|⟨_,_,_,_,_,_,h⟩⟩<;>rw[h]<;>simp
section
variable {P:cZ} {E:fU} {σ:St} {a:Act} {w:bK} {c c0:eZ} {RL:aC kX} {OL:aC mM}
theorem T5{s:Sp}{n:aE}(h:n∈ph RL OL s):n∈RL.flatMap (·.tk)++(OL.zipIdx 0).flatMap (λt=>t.1.ns t.2):=by
 obtain⟨b,i,j⟩:=s;have inO:∀{O:mM},OL[i]? =ah O->n∈O.ns i->n∈(OL.zipIdx 0).flatMap (λt=>t.1.ns t.2):=λhO hn=>bL.2 ⟨_,aR (nv (p:=0) hO),by rw[bS];exact hn⟩;have inR:∀{R:kX},RL[i]? =ah R->n∈R.tk->n∈RL.flatMap (·.tk):=λhR hn=>bL.2 ⟨_,aR hR,hn⟩;cases b<;>cases j<;>unfold ph at h<;>dsimp only at h
 ·cases hO:OL[i]? with
  |none=>rw[hO]at h;cases h
  |some O=>rw[hO]at h;exact bP _ (inO hO (bW _ h))
 ·rename_i j;cases hO:OL[i]? with
  |none=>rw[hO]at h;cases h
  |some O=>
   rw[hO]at h;dsimp only at h;cases hr:O.cs[j]? with
   |none=>rw[hr]at h;cases h
   |some r=>rw[hr]at h;exact bP _ (inO hO (bP _ (bL.2 ⟨r,aR hr,h⟩)))
 ·cases hO:RL[i]? with
  |none=>rw[hO]at h;cases h
  |some O=>rw[hO]at h;exact bW _ (inR hO (bW _ h))
 ·rename_i j;cases hO:RL[i]? with
  |none=>rw[hO]at h;cases h
  |some O=>
   rw[hO]at h;dsimp only at h;cases hr:O.cs[j]? with
   |none=>rw[hr]at h;cases h
   |some r=>rw[hr]at h;exact bW _ (inR hO (bP _ (bL.2 ⟨r,aR hr,h⟩)))
theorem Un{args:aC fa}{r:dz}(hE:DV E σ w c RL OL args r){q:aE}{R:kX}(hR:RL[q]? =ah R):qa E w (nq σ c RL OL) (Gi (500+q) R.arg).1 (Gi (500+q) R.arg).2 R.v:=by
 have hlen:∀{j:aE} {t:jB},R.cs[j]? =ah t->j<900:=by
  intro j t ht;have h0:r.rs[q]? =ah R.arg:=by rw[hE.rs,bJ,hR];rfl
  have hx:LY R.arg (R.cs.map (·.aa)):=by
   unfold kX.arg;split
   ·exact .inr rfl
   ·exact .inl ⟨_,rfl⟩
  have:=hE.sm.rl q _ _ h0 hx;have h7:=(aT.1 ht).1;rw[bR]at this;omega
 have hf:∀{j:aE} {t:jB},R.cs[j]? =ah t->∀n∈t.fz,n∈RL.flatMap (·.fz)++OL.flatMap (·.ms):=λhj n hn=>bW _ (bL.2 ⟨_,aR hR,bL.2 ⟨_,aR hj,hn⟩⟩);have hnm:∀p j,dU p 0+j=dU p j:=λp j=>by unfold dU;omega
 rcases hE.rl R (aR hR)with ⟨nm,zs,vals,h1,h2,h3,h4,h5,h6⟩|⟨h1,⟨h2,t,h3,h4,h5⟩|⟨h2,vals,h3,h4,h5⟩⟩
 ·have:R.arg= .pt (R.cs.map (·.aa)):=by unfold kX.arg;rw[h1]
  rw[this];show R.v= .pointer (ah (ad ((nq σ c RL OL).P (dU (500+q) 900)).blk 0));rw[(A2 (RJ hR h1)).1];exact h3
 ·have:R.arg= .v ak [t.aa]:=by unfold kX.arg;rw[h1,h2,h3];rfl
  rw[this,<-h4];have ht:R.cs[0]? =ah t:=by rw[h3];rfl
  have:=A4 (OL:=OL) h5 (hf ht) (Gj hR ht (by omega));exact this
 ·have:R.arg= .v ai (R.cs.map (·.aa)):=by unfold kX.arg;rw[h1,h2]
  rw[this];refine⟨vals,h3,by show vals.size=(gA _ _).length;rw[iO,bR];exact h4,λj y hj=> ?_⟩
  replace hj:(gA (dU (500+q) 0) (R.cs.map (·.aa)))[j]? =ah y:=hj;rw[iB,bJ]at hj;cases ht:R.cs[j]? with
  |none=>rw[ht]at hj;cases hj
  |some t=>
   rw[ht]at hj;cases hj;obtain⟨k1,k2⟩:=h5 j t ht;refine⟨t.u,k1, ?_⟩
   rw[hnm];exact A4 k2 (hf ht) (Gj hR ht (hlen ht))
theorem BZ{args:aC fa}{r:dz}{q:aE}{y:fa}{xs:aC AA}(h0:r.rs[q]? =ah y)(hx:LY y xs){v:AV}(hv:v∈gA (dU (500+q) 0) xs):jf (oe args r) v:=by
 intro m hm;obtain⟨j,hj⟩:=bX hv;rw[iB]at hj;cases hy:xs[j]? with
 |none=>rw[hy]at hj;cases hj
 |some z=>
  rw[hy]at hj;cases hj;obtain⟨rfl,e,ex,ys,rfl⟩:=tw hm;have hn:dU (500+q) 0+j=dU (500+q) j:=by unfold dU;omega
  rw[hn];exact vQ (.rr q y xs j e ex ys h0 hx hy)
theorem WQ(cf:Ok E σ w c){args:aC fa}{r:dz}(hE:DV E σ w c RL OL args r):Ok E (oe args r) w (nq σ c RL OL) where
 obj nm o h:=(wS cf hE (qw h)).1
 sep nm o xH o' b h h' hf vd:=by
  obtain⟨s,e1,k1⟩:=(wS cf hE (qw h)).2;obtain⟨s',e1',k1'⟩:=(wS cf hE (qw h')).2;obtain⟨n,ob,h1,h2,h3⟩:=k1 b hf;obtain⟨n',ob',KF,OJ,M4⟩:=k1' b vd;have:=cf.sep n ob n' ob' b h2 OJ h3 M4;subst this;rw[e1,e1',Zd hE.nd h1 KF]
 kk nm o b h hf hk:=by
  obtain⟨s,e1,k1⟩:=(wS cf hE (qw h)).2;obtain⟨n,ob,h1,h2,h3⟩:=k1 b hf;rcases hk with hk|⟨n',kF,ob',OJ,M4⟩
  ·exact cf.kk n ob b h2 h3 hk
  ·have:=cf.sep n ob n' ob' b h2 OJ h3 M4;subst this;exact hE.ap n (T5 h1) kF
 lt b hb:=by
  rcases hb with hb|⟨n,hn,ob,h1,h2⟩
  ·exact cf.lt b hb
  ·exact wy.lt cf ⟨n,ob,h1,h2⟩
 kn nm xs h v hv:=by
  have hx:=qw h;cases hx with
  |rb q xs h0=>exact BZ h0 (.inr rfl) hv
  |ob p xs h0=>
   intro m hm;obtain⟨j,hj⟩:=bX hv;rw[v8,bS]at hj;cases hy:(r.outs.getD p [])[j]? with
   |none=>rw[hy]at hj;cases hj
   |some z=>
    rw[hy]at hj;cases hj;cases z with
    |kp ys=>
     have hm:m=dU p j:=by simpa [tD,bN]using hm
     subst hm;have sL:p<OL.length:=by rw[hE.len];exact(aT.1 h0).1
     have hO:OL[p]? =ah OL[p]:=by simp[sL]
     have hl:r.outs.getD p []=OL[p].cs.map (·.aa):=by rw[hE.outs,cY,bJ,hO];rfl
     rw[hl,bJ]at hy;cases ht:OL[p].cs[j]? with
     |none=>rw[ht]at hy;cases hy
     |some t=>
      rw[ht]at hy;have IM:t.aa= .kp ys:=by injection hy
      rcases hE.ol p _ _ hO h0 with ⟨_,h1,_⟩|⟨_,LO,vs,vals,Xf,_,_,_,h5⟩
      ·exact cO rfl (h1 xs)
      ·cases Xf;rcases(h5 j t ht).2 with ⟨⟨e,ex,z,Da,q1,q2,_⟩,_⟩|h
       ·rw[IM]at q2;cases q2;exact vQ (.kp p _ xs j e ex z ys h0 (.inr rfl) q1 (by rw[hl,bJ,ht];exact lI ah IM))
       ·rcases h with ⟨_,_,_,_,q,_⟩|⟨_,_,_,q,_⟩
        ·rw[IM]at q;cases q
        ·exact cO IM (q _)
    |ow e ex ys=>
     have hm:m=dU p (100+j):=by simpa [tD,lu,bN]using hm
     subst hm;exact vQ (.nw p _ xs j e ex ys h0 (.inr rfl) hy)
    |_=>simp[tD,lu,bN]at hm
theorem OA(cf:Ok E σ w c){args:aC fa}{r:dz}(hE:DV E σ w c RL OL args r):oi σ c w (oe args r) (nq σ c RL OL) w where
 os:=rfl
 tape:=rfl
 output:=rfl
 size:=cw _
 K b hb:= .inl hb
 same _ _ _:=rfl
 own b hb:=by
  obtain⟨nm,o,h,hf⟩:=hb;obtain⟨s,e1,k1⟩:=(wS cf hE (qw h)).2;obtain⟨n,ob,h1,h2,h3⟩:=k1 b hf;exact .inl ⟨n,ob,h2,h3⟩
 kn b hb:=by
  rcases hb with hb|⟨n,hn,ob,h1,h2⟩
  ·exact .inl hb
  ·exact .inr (.inl ⟨n,ob,h1,h2⟩)
theorem OB{args:aC fa}{r:dz}(hs:Small args r)(ha:∀a∈args,np a<=100)(hA:Vw c0 c):∀m,inj args (c_ m)≠ .jX->(nq σ c RL OL).P m=c0.P m/\(nq σ c RL OL).G m=c0.G m:=by
 intro m hm;have:∃ob,inj args (c_ m)= .o ob:=by
  cases h:inj args (c_ m)with
  |o ob=>exact⟨ob,rfl⟩
  |jX=>exact cO h hm
  |v x=>
   obtain⟨p,a,h0,h⟩:=lQ.1 (nO h (by simp));rcases h with ⟨h,_⟩|h
   ·exact cO h (ml _ _)
   ·rcases iz.1 h with ⟨_,_,_,h⟩|⟨_,_,_,_,_,_,_,_,h⟩<;>cases h
 obtain⟨ob,h⟩:=this;obtain⟨p,a,h0,hh⟩:=Bd h;have go:∀j,j<100\/j=900->p<500->(nq σ c RL OL).P (dU p j)=c0.P (dU p j)/\(nq σ c RL OL).G (dU p j)=c0.G (dU p j):=by intro j hj hp;obtain⟨e1,e2⟩:=A1 (σ:=σ) (AZ (c:=c) (RL:=RL) (OL:=OL) hp hj);obtain⟨g1,g2⟩:=hA (dU p j) (Cp p j);exact⟨e1.trans g1,e2.trans g2⟩
 rcases hh with ⟨xs,rfl,rfl,_⟩|⟨xs,j,e,ex,ys,hx,hj,rfl,_⟩
 ·exact go 900 (.inr rfl) (hs.a p _ xs h0 (.inr rfl))
 ·refine go j (.inl ?_) (hs.a p _ xs h0 hx);have h1:=ha a (aR h0);have h2:np a=xs.length:=by rcases hx with ⟨g,rfl⟩|rfl<;>rfl
  have h3:=(aT.1 hj).1;omega
theorem RY{args:aC fa}{r:dz}(hE:DV E σ w c RL OL args r):jh E w (nq σ c RL OL) (Y0 r.rs) (CF (RL.map (·.v))):=by
 have j9:∀l:aC (aW×aC AV),l=lx 500 r.rs->jh E w (nq σ c RL OL) (.j9 l) (.tuple (RL.map (·.v)).toArray):=by
  rintro l rfl;refine⟨_,rfl,by rw[xF,hE.rs];simp,λj g xs hj=> ?_⟩
  rw[ER,hE.rs,bJ]at hj;cases hR:RL[j]? with
  |none=>rw[hR]at hj;cases hj
  |some R=>
   rw[hR]at hj;have hj:Gi (500+j) R.arg=(g,xs):=by injection hj
   have:=Un hE hR;rw[hj]at this;exact⟨R.v,by simp[hR],this⟩
 have one:∀x R,lx 500 r.rs=[x]->RL=[R]->jh E w (nq σ c RL OL) (sb [x]) R.v:=by
  intro x R hx hRL;have h0:RL[0]? =ah R:=by rw[hRL];rfl
  have h1:=Un hE h0;have h2:(lx 500 r.rs)[0]? =ah (Gi (500+0) R.arg):=by rw[ER,hE.rs,bJ,h0];rfl
  rw[hx]at h2;have h2:x=Gi (500+0) R.arg:=by injection h2
  subst h2;exact h1
 have hlen:(lx 500 r.rs).length=RL.length:=by rw[xF,hE.rs];simp
 have hL:∀L,L=lx 500 r.rs->L.length=RL.length->jh E w (nq σ c RL OL) (sb L) (CF (RL.map (·.v))):=by
  intro L hL hlen;have j9:=j9 L hL;generalize hV:RL.map (·.v)=V at j9⊢;have hlv:L.length=V.length:=by rw[hlen,<-hV];simp
  cases L with
  |nil=>
   cases V with
   |nil=>exact j9
   |cons v V=>simp at hlv
  |cons x L=>
   cases V with
   |nil=>simp at hlv
   |cons v V=>
    cases L with
    |cons y L=>
     cases V with
     |nil=>simp at hlv
     |cons v' V=>exact j9
    |nil=>
     cases V with
     |cons v' V=>simp at hlv
     |nil=>
      cases hR:RL with
      |nil=>rw[hR]at hV;cases hV
      |cons R RL'=>
       cases RL' with
       |nil=>
        have:=one x R hL.symm hR;rw[hR]at hV this;have hV:R.v=v:=by injection hV
        rw[<-hV];exact this
       |cons R' RL'=>rw[hR]at hV;simp at hV
 exact hL _ rfl hlen
end
end Go.FG

namespace Go.FG
theorem Eg{α:Type}{b:aW}{x r:α}(h:(bif b then ah x else aj)=ah r):b=ai/\x=r:=by
 cases b with
 |true=>exact⟨rfl,by injection h⟩
 |false=>cases h
section
variable {P:cZ} {E:fU} {σ:St} {a:Act} {w:bK} {c:eZ}
theorem aed(hE:eC P E)(cf:Ok E σ w c)(dJ:fC E σ a w c){F:Func}{args:aC fa}{e:Ex}{r:dz}(h:fin E F args e σ=ah r):
  (e= .normal\/e= .ret)/\(∀x∈args,np x<=100)/\∃RL OL,DV E σ w c RL OL args r/\(results F a.tmps).run P w= .ok (CF (RL.map (·.v))) w:=by
 have he:e= .normal\/e= .ret:=by
  cases e with
  |normal=>exact .inl rfl
  |ret=>exact .inr rfl
  |exit id=>cases h
 have h:(match CE E σ 500 F.results.toList F.resultTypes.toList with
  |some (rs,tk,fz)=>match Cy E σ (tk++fz) 0 args with
   |some (outs,ns,ms)=>bif tB (tk++ns)&&ry (tk++ns) (fz++ms)&&fK args.length 500&&(args.all λa=>fK (np a) 100)&&(rs.all λa=>fK (np a) 100)&&(outs.all λa=>fK a.length 100)then ah (dz.mk rs (ug outs))else aj
   |none=>aj
  |none=>aj)=ah r:=by
  rcases he with rfl|rfl<;>exact h
 split at h
 ·rename_i rs tk fz h1;split at h
  ·rename_i outs ns ms h2;obtain⟨RL,rfl,rfl,rfl,r4,r5,r6⟩:=Pw hE cf dJ h1;obtain⟨OL,rfl,o2,rfl,rfl,o5⟩:=Pj cf h2;obtain⟨hb,rfl⟩:=Eg h;simp only[aL,bu]at hb;obtain⟨⟨⟨⟨⟨b1,b2⟩,b3⟩,b4⟩,b5⟩,b6⟩:=hb;refine⟨he,λx hx=>cG (b4 x hx),RL,OL,⟨r4,λi O x hi hx=>by have:=o5 i O x hi hx;rwa[bS]at this,o2,qB b1,oK b2,⟨?_, ?_, ?_⟩,rfl,λp=>zR⟩,Jq r6⟩
   ·intro p x xs hp _;have:=(aT.1 hp).1;have:=cG b3;omega
   ·intro q x xs hq hx;have h1:=cG (b5 x (aR hq));have h2:np x=xs.length:=by rcases hx with ⟨g,rfl⟩|rfl<;>rfl
    omega
   ·intro p;show((ug (OL.map (·.l))).getD p []).length<=100;rw[zR,cY];cases hp:(OL.map (·.l))[p]? with
    |none=>simp
    |some l=>exact cG (b6 l (aR hp))
  ·cases h
 ·cases h
end
inductive Fit:CV->Prop
 |i (k n):Fit (.i k n)
 |b (x):Fit (.b x)
 |s (x) (h:DK x):Fit (.s x)
 |l (e xs) (h:xs.length<=9223372036854775807) (hc:∀y∈xs,∀x∈y,Fit x):Fit (.l e xs)
def vA(xs:aQ):Prop:=xs.length<=9223372036854775807/\∀y∈xs,∀x∈y,Fit x
def aij:AA->Prop
 | .s x=>DK x| .sh _ xs=>vA xs| .ow _ _ xs=>vA xs|_=>True
def Gt:aC AA->Prop
 |[]=>True|a::r=>aij a/\Gt r
def aik:CV->Prop
 | .s x=>DK x| .l _ xs=>vA xs|_=>True
def R5:aC CV->Prop
 |[]=>True|a::r=>aik a/\R5 r
def R4:fa->Prop
 | .v _ xs=>Gt xs| .pt xs=>Gt xs| .fb xs=>R5 xs
def wZ:aC fa->Prop
 |[]=>True|a::r=>R4 a/\wZ r
theorem Fit.ajx{u:bj}{x:CV}(hl:uj x=ak)(h:Sc u x):Fit x:=by
 cases x with
 |i k n=>exact .i k n
 |b x=>exact .b x
 |s x=>exact .s x h.2
 |l=>simp[uj]at hl
theorem da.fit{E:Tab}{w:bK}{K:aE->Prop}{v:bj}{x:CV}(h:da E w K v x):Fit x:=by
 induction h with
 |i k n=>exact .i k n
 |b x=>exact .b x
 |s x h=>exact .s x h
 |nl e A c=>exact .l e [] (bB _) (λy hy=>by cases hy)
 |l e xs b o c ti U ht hc hm hK hs hcell gz ih=>refine .l e xs (dg hc hm) (λy hy x hx=> ?_);obtain⟨i,hi⟩:=bX hy;obtain⟨j,hj⟩:=bX hx;exact ih i j y x hi hj
theorem Fit.row{e:aE}{xs:aQ}(h:Fit (.l e xs)):vA xs:=by cases h with|l _ _ h hc=>exact⟨h,hc⟩
theorem Fit.toC{x:CV}(h:Fit x):aik x:=by
 cases x with
 |s x=>cases h with|s _ h=>exact h
 |l e xs=>exact h.row
 |_=>trivial
theorem z8{w:bK}{p:Pl}{xs:aQ}{R:aE->aE->bj->CV->Prop}(h:jg w p xs R){i j:aE}{y:aC CV}{x:CV}(hi:xs[i]? =ah y)(hj:y[j]? =ah x):∃u:bj,R i j u x:=by
 cases hn:p.nil with
 |true=>rw[(h.nil hn).1]at hi;simp at hi
 |false=>obtain⟨vals,_,_,_,_,hc⟩:=h.mem hn;obtain⟨u,_,hr⟩:=hc i y j x hi hj;exact⟨u,hr⟩
theorem Mn.fit{E:Tab}{w:bK}{c:eZ}{nm e:aE}{ex:aW}{xs:aQ}(h:Mn E w c nm e ex xs):vA xs:=by
 refine⟨uv h.at_,λy hy x hx=> ?_⟩
 obtain⟨i,hi⟩:=bX hy;obtain⟨j,hj⟩:=bX hx;obtain⟨u,hr⟩:=z8 h.at_ hi hj;split at hr
 ·cases x with
  |i k n=>exact .i k n
  |b x=>exact .b x
  |s x=>exact .s x (show Sc u (.s x)from hr).2
  |l e2 ys=>obtain⟨_,ti,_,hp,_,mG,gh⟩:=hr;refine .l e2 ys (uv gh) (λy2 hy2 x2 VW=> ?_);obtain⟨i2,GF⟩:=bX hy2;obtain⟨j2,VT⟩:=bX VW;obtain⟨u2,hr2⟩:=z8 gh GF VT;exact Fit.ajx (iq hp (mG y2 hy2) VT) hr2
 ·exact da.fit hr
theorem Er{T:Tab}{w:bK}{c:eZ}{xs:aC AA}{nm:aE}(aiS:∀(j e:aE) (ex:aW) (ys:aQ),xs[j]? =ah (AA.ow e ex ys)->vA ys)(h:∀(j:aE) (x:AA),xs[j]? =ah x->∃v,eG T w c (lu (nm+j) x) v):Gt xs:=by
 induction xs generalizing nm with
 |nil=>trivial
 |cons x xs ih=>
  refine⟨?_,ih (nm:=nm+1) (λj e ex ys hj=>aiS (j+1) e ex ys hj) (λj y hj=> ?_)⟩
  ·obtain⟨v,hv⟩:=h 0 x rfl;cases x with
   |s x=>exact hv.2
   |sh e ys=>exact(da.fit hv).row
   |ow e ex ys=>exact aiS 0 e ex ys rfl
   |_=>trivial
  ·have:=h (j+1) y hj;rw[show nm+1+j=nm+(j+1)by omega];exact this
def zD(args:aC fa):aW:=fK args.length 500&&args.all λa=>fK (np a) 100
theorem Xk{args:aC fa}(hs:zD args=ai){p j e:aE}{x:fa}{xs:aC AA}{ex:aW}{ys:aQ}(h0:args[p]? =ah x)(hx:(∃g,x= .v g xs)\/x= .pt xs)(hj:xs[j]? =ah (AA.ow e ex ys)):inj args (c_ (dU p j))= .o (.row e ex ys):=by
 simp only[zD,aL,bu]at hs;have len:∀(x:fa) (xs:aC AA) (j:aE) (y:AA),x∈args->((∃g,x= .v g xs)\/x= .pt xs)->xs[j]? =ah y->j<100:=by
  intro x xs j y hm hx hj;have h1:=cG (hs.2 x hm);have h2:np x=xs.length:=by rcases hx with ⟨g,rfl⟩|rfl<;>rfl
  have h3:=(aT.1 hj).1;omega
 have jW:=len x xs j _ (aR h0) hx hj;refine zG (lQ.2 ⟨p,x,h0, .inr (iz.2 (.inr ⟨xs,j,e,ex,ys,hx,hj,by rw[bS],rfl⟩))⟩) (λc' Iz=> ?_);obtain⟨p',a',VN,hh⟩:=lQ.1 Iz;rw[bS]at hh;rcases hh with ⟨h,_⟩|hh
 ·exact cO h (ml _ _)
 ·rcases iz.1 hh with ⟨zs,_,h,_⟩|⟨zs,j',e',uh,Da,py,JK,h,rfl⟩
  ·have:=uq (by omega) (by omega) (jT h);omega
  ·have ayP:=len a' zs j' _ (aR VN) py JK;obtain⟨rfl,rfl⟩:=uq (by omega) (by omega) (jT h);rw[h0]at VN;cases VN;have:xs=zs:=by rcases hx with ⟨g,rfl⟩|rfl<;>rcases py with ⟨g',py⟩|py<;>cases py<;>rfl
   subst this;rw[hj]at JK;cases JK;rfl
theorem Ky{T:Tab}{w:bK}{c:eZ}:∀{cs:aC CV},(∀(q:aE) (x:CV),cs[q]? =ah x->Fit x)->R5 cs:=by
 intro cs;induction cs with
 |nil=>intro _;trivial
 |cons x cs ih=>intro h;exact⟨(h 0 x rfl).toC,ih (λq y hq=>h (q+1) y hq)⟩
theorem R6{T:Tab}{w:bK}{c:eZ}{args:aC fa}(hs:zD args=ai)(cf:Ok T (inj args) w c)(h:∀(p:aE) (x:fa),args[p]? =ah x->∃v,jh T w c (tq p x) v):wZ args:=by
 have one:∀(p:aE) (x:fa),args[p]? =ah x->R4 x:=by
  intro p x h0;have rows:∀xs,((∃g,x= .v g xs)\/x= .pt xs)->∀(j e:aE) (ex:aW) (ys:aQ),xs[j]? =ah (AA.ow e ex ys)->vA ys:=λxs hx j e ex ys hj=>Mn.fit (cf.obj _ _ (Xk hs h0 hx hj));obtain⟨v,hv⟩:=h p x h0;cases x with
  |v g xs=>
   refine Er (T:=T) (w:=w) (c:=c) (nm:=dU p 0) (rows xs (.inl ⟨g,rfl⟩)) (λj y hj=> ?_);replace hv:qa T w c g (gA (dU p 0) xs) v:=hv;have JK:(gA (dU p 0) xs)[j]? =ah (lu (dU p 0+j) y):=by rw[iB,hj];rfl
   unfold qa at hv;split at hv
   ·rename_i a he;rw[he]at JK;cases j with
    |zero=>cases JK;exact⟨v,hv⟩
    |succ j=>simp at JK
   ·obtain⟨vals,_,_,hv⟩:=hv;obtain⟨u,_,hu⟩:=hv j _ JK;exact⟨u,hu⟩
   ·exact hv.elim
  |pt xs=>
   have arl:inj args (c_ (dU p 900))= .o (.box (gA (dU p 0) xs)):=by
    refine zG (lQ.2 ⟨p,_,h0, .inr (iz.2 (.inl ⟨xs,rfl,by rw[bS],by rw[bS]⟩))⟩) (λc' Iz=> ?_);obtain⟨p',a',VN,hh⟩:=lQ.1 Iz;rw[bS]at hh;rcases hh with ⟨h,_⟩|hh
    ·exact cO h (ml _ _)
    ·rcases iz.1 hh with ⟨zs,hx,h,rfl⟩|⟨zs,j',e',uh,Da,py,JK,h,rfl⟩
     ·obtain⟨rfl,_⟩:=uq (by omega) (by omega) (jT h);rw[h0]at VN;cases VN;cases hx;rfl
     ·exfalso;simp only[zD,aL,bu]at hs;have h1:=cG (hs.2 a' (aR VN));have h2:np a'=zs.length:=by rcases py with ⟨g,rfl⟩|rfl<;>rfl
      have h3:=(aT.1 JK).1;have:=uq (by omega) (by omega) (jT h);omega
   obtain⟨vals,_,_,hc⟩:=cf.obj _ _ arl;refine Er (T:=T) (w:=w) (c:=c) (nm:=dU p 0) (rows xs (.inr rfl)) (λj y hj=> ?_);obtain⟨u,_,hu⟩:=hc j (lu (dU p 0+j) y) (by rw[iB,hj];rfl);exact⟨u,hu⟩
  |fb xs=>
   obtain⟨b,_,_,hf⟩:∃b,v= .pointer (ah (ad b 0))/\c.K b/\∀(q:aE) (x:CV),xs[q]? =ah x->∃u:bj,w.cell? (ad b q)=ah u/\da T w c.K u x:=by obtain⟨b,h1,h2,h3⟩:=hv;exact⟨b,h1,h2,h3⟩
   exact Ky (T:=T) (w:=w) (c:=c) (λq x hq=>by obtain⟨u,_,hu⟩:=hf q x hq;exact hu.fit)
 clear h cf hs;induction args with
 |nil=>trivial
 |cons x args ih=>exact⟨one 0 x rfl,ih (λp y hp=>one (p+1) y hp)⟩
theorem aee{P:cZ}{E:fU}(hE:eC P E)(hF:∀g,b7 P E g (E.call g))(hm:P.follows .mixedOrders=ai){g:aE}{F:Func}{code:Code}(hf:P.funcs[g]? =ah F)(hb:F.body=ah code)
  (hc:((F.name== "runtime.NumGoroutine")|| !s9 F.ntmps code)=ak) {spec:aC fa->az (aW×dz)} (hs:∀args r,spec args=ah (ai,r)->zD args=ai/\(wZ args->args.length<=F.ntmps/\∃(R:Type) (it:It R) (K:Ex->St->az R) (q:R),(∀c∈jS code,b8 E it c)/\tc E it code (inj args) K=ah q/\∀e σ,K e σ=ah q->fin E F args e σ=ah r)):b7 P E g spec:=by
 intro args r hr w c1 vs cf gi Su;obtain⟨hsm,hs⟩:=hs args r hr;obtain⟨hlen,R,it,K,q,Ca,ain,arx⟩:=hs (R6 hsm cf (λp x hp=>(Su p x hp).imp λ_ h=>h.2));simp only[iF,mH]at hc;refine⟨⟨F,hf,by rw[hb];rfl,hc.1⟩, ?_⟩
 refine calls_of_wp hf hb ?_;refine ad8 (N:=F.ntmps) (σ0:=inj args) (c0:=c1) (w0:=w) hE hF hm code Ca (inj args) K _ ain hc.2 (λe σ' a' w' c' hk gh=> ?_) _ w c1 ⟨cf,⟨λn=> ?_,IU,rfl⟩, ?_,oi.refl _ _ _,Vw.refl _⟩
 ·obtain⟨he,ha,RL,OL,WZ,Sn⟩:=aed hE gh.ok gh.sl (arx _ _ hk)
  have ar3:Rz E args r c1 w (CF (RL.map (·.v))) w':=
   ⟨nq σ' c' RL OL,WQ gh.ok WZ,gh.gr.trans (OA gh.ok WZ),OB WZ.sm ha gh.ag,RY WZ⟩
  rcases he with rfl|rfl<;>exact⟨gh.sl.df,_,Sn,ar3⟩
 ·rcases IV (args:=args) (n:=n)with ⟨x,h0,h⟩|h
  ·rw[h];obtain⟨v,hv,yw⟩:=Su n x h0;have:(Act.mk (vs++AK (F.ntmps-vs.size) undef) []).eval (.tmp n)=v:=by show(vs++AK (F.ntmps-vs.size) undef).getD n undef=v;have hn:=(dV.1 hv).1;rw[eI,Array.getElem?_append,bw hn,hv];rfl
   rw[this];exact yw
  ·rw[h];trivial
 ·simp;omega
theorem OE{P:cZ}{T:Tab}{g:aE}{spec:aC fa->az (aW×dz)}(h:∀args,spec args=aj):b7 P T g spec:=λargs r hr=>by rw[h]at hr;cases hr
end Go.FG

namespace Go.FG
structure pK where
 t:aE
 ti:TI
 fs:aC (aE×aE)
def AJ:aC pK->aE->az TI
 |[],_=>aj
 |r::rs,t=>bif bD t r.t then ah r.ti else AJ rs t
def DA:aC pK->aE->aE->az (aE×aE)
 |[],_,_=>aj
 |r::rs,t,f=>bif bD t r.t then(bif r.ti.agg then r.fs[f]? else aj)else DA rs t f
def Vf(rows:aC pK)(eqs:aC aE):Tab:={ty:=AJ rows,fo:=DA rows,eqs:=eqs}
def zB:Ck->bj->aW
 | .i k, .int k' n=>decide (k'=k)&&decide (n=0)
 | .b, .bool x=> !x
 | .s, .string x=>decide (x.size=0)
 | .l _, .slice aj 0 0=>ai
 | .o, .nilIface=>ai
 |_,_=>ak
def zsB:aC Ck->aC bj->aW
 |[],[]=>ai
 |k::ks,v::vs=>zB k v&&zsB ks vs
 |_,_=>ak
def isAgg:bj->aW| .agg _=>ai|_=>ak
def wX(P:cZ)(n:aE):aC Field->aC (aE×aE)->aW
 |[],[]=>ai
 |f::r,(o,m)::l=>bD f.offset o&&(match P.info? f.type with|some i=>bD i.size m|none=>ak)&&qk 0 m&&fK (o+m) n&&wX P n r l
 |_,_=>ak
def rI:TypeDesc->aW| .struct _=>ak| .array _ _=>ak|_=>ai
def Y1(P:cZ)(r:pK):aW:=
 match P.info? r.t,P.underlying r.t with
 |some inf,ah d=>bD inf.size r.ti.ks.length&&bD inf.bytes r.ti.bytes&&qk 0 r.ti.ks.length&&
  (bif K9 r.ti.ks then(match inf.zero with|some z=>zsB r.ti.ks z.cells.toList&&(!r.ti.agg||isAgg z)|none=>ak)else ai)&&
  (match d with
  | .struct fs=>r.ti.agg&&wX P r.ti.ks.length fs.toList r.fs
  | .int k=> !r.ti.agg&&qc r.ti.ks [.i k]
  | .bool=> !r.ti.agg&&qc r.ti.ks [.b]
  | .string=> !r.ti.agg&&qc r.ti.ks [.s]
  | .slice e=> !r.ti.agg&&qc r.ti.ks [.l e]
  |d=> !r.ti.agg&&qc r.ti.ks [.o]&&rI d)
 |_,_=>ak
theorem ama{k:Ck}{v:bj}(h:zB k v=ai):v=iJ k:=by
 cases k<;>cases v<;>simp_all [zB,iJ]
 ·rfl
 ·rename_i a n c;cases a<;>cases n<;>cases c<;>simp_all
theorem Vv:∀{ks:aC Ck} {vs:aC bj},zsB ks vs=ai->vs=ks.map iJ
 |[],[],_=>rfl
 |k::ks,v::vs,h=>by
  simp only[zsB,aL]at h;rw[ama h.1,Vv h.2];rfl
 |[],_::_,h=>by cases h
 |_::_,[],h=>by cases h
theorem ad3:∀{x y:Ck},ckB x y=ai->x=y:=by intro x y h;cases x<;>cases y<;>simp_all [ckB]
theorem nL:∀{a b:aC Ck},qc a b=ai->a=b
 |[],[],_=>rfl
 |x::a,y::b,h=>by
  simp only[qc,aL]at h;rw[ad3 h.1,nL h.2]
 |[],_::_,h=>by cases h
 |_::_,[],h=>by cases h
theorem vR{P:cZ}{n:aE}:∀{fs:aC Field} {l:aC (aE×aE)},wX P n fs l=ai->
  fs.mapM (λf=>(P.info? f.type).map λi=>(f.offset,i.size))=ah l/\∀(f o m:aE),l[f]? =ah (o,m)->∃fd,fs[f]? =ah fd/\fd.offset=o/\(P.info? fd.type).map (·.size)=ah m/\m≠0/\o+m<=n
 |[],[],_=>⟨rfl,λf o m h=>by simp at h⟩
 |f::r,(o,m)::l,h=>by
  simp only[wX,aL]at h;obtain⟨⟨⟨⟨h1,h2⟩,h3⟩,h4⟩,h5⟩:=h;obtain⟨i1,i2⟩:=vR h5;have e1:=aU h1;cases hi:P.info? f.type with
  |none=>rw[hi]at h2;cases h2
  |some i=>
   rw[hi]at h2;have e2:i.size=m:=aU h2;have e3:0<m:=by simpa [Ak]using h3
   have e4:=cG h4;refine⟨by simp[Wr,hi,i1,e1,e2],λg o' m' hg=> ?_⟩
   cases g with
   |zero=>cases hg;exact⟨f,rfl,e1,by rw[hi];exact lI ah e2,by omega,e4⟩
   |succ g=>exact i2 g o' m' hg
 |[],_::_,h=>by cases h
 |_::_,[],h=>by cases h
theorem JB:∀{rows:aC pK} {t:aE} {ti:TI},AJ rows t=ah ti->∃r∈rows,r.t=t/\r.ti=ti/\∀f,DA rows t f=(bif r.ti.agg then r.fs[f]? else aj)
 |[],_,_,h=>by cases h
 |r::rs,t,ti,h=>by
  unfold AJ at h;cases hb:bD t r.t with
  |true=>rw[hb]at h;cases h;exact⟨r,dL ..,(aU hb).symm,rfl,λf=>by simp[DA,hb]⟩
  |false=>rw[hb]at h;obtain⟨r',h1,h2,h3,h4⟩:=JB (rows:=rs) h;exact⟨r',c7 _ h1,h2,h3,λf=>by unfold DA;rw[hb];exact h4 f⟩
theorem MZ:∀{rows:aC pK} {t f:aE} {o n:aE},DA rows t f=ah (o,n)->∃ti,AJ rows t=ah ti/\ti.agg=ai
 |[],_,_,_,_,h=>by cases h
 |r::rs,t,f,o,n,h=>by
  unfold DA at h;unfold AJ;cases hb:bD t r.t with
  |true=>
   rw[hb]at h;refine⟨r.ti,rfl, ?_⟩
   cases ha:r.ti.agg with
   |true=>rfl
   |false=>rw[ha]at h;cases h
  |false=>rw[hb]at h;exact MZ (rows:=rs) h
def G1(P:cZ):aE->aC Ck->aC Field->aW
 |_,[],[]=>ai
 |j,k::ks,f::fs=>f.name != "_" &&bD f.offset j&&(match P.underlying f.type,k with|some (.int q), .i q'=>decide (q=q')|some .bool, .b=>ai|some .string, .s=>ai|_,_=>ak)&&G1 P (j+1) ks fs
 |_,_,_=>ak
def aaa(P:cZ)(rows:aC pK)(t:aE):aW:=
 !P.eqGuardType P.depth t&& !P.stoodInHeld t&&(match AJ rows t,P.underlying t with|some ti,ah (.struct fs)=>G1 P 0 ti.ks fs.toList|_,_=>ak)
theorem xS{P:cZ}{t:aE}{d:TypeDesc}(hd:P.underlying t=ah d)(hp:rI d=ai){cs:dq bj}{j:aE}{v:bj}(hj:cs[j]? =ah v)(w:bK):(part t cs j).run P w= .ok v w:=by cases d<;>simp_all [part,Go.isAgg,run_underlying hd,rI]
theorem zS{P:cZ}(w:bK):∀(fs:aC Field) (ks:aC Ck) (pre Lj xs ys:aC AV) (r:aW),G1 P pre.length ks fs=ai->Lj.length=pre.length->xs.map GN=ks->ys.map GN=ks->WO xs ys=ah r->
  (Ob 9999 ((pre++xs).map lT).toArray ((Lj++ys).map lT).toArray fs).run P w= .ok r w
 |[],[],pre,Lj,xs,ys,r,_,_,hx,hy,he=>by
  have:xs=[]:=by simpa using hx
  subst this;have:ys=[]:=by simpa using hy
  subst this;cases he;rfl
 |f::fs,k::ks,pre,Lj,x::xs,y::ys,r,h,hl,hx,hy,he=>by
  simp only[G1,aL]at h;obtain⟨⟨⟨h1,h2⟩,h3⟩,h4⟩:=h;have h2:=aU h2;have h1:f.name≠ "_" :=by simpa using h1
  simp only[fB,Z2]at hx hy;have gx:((pre++x::xs).map lT).toArray[f.offset]? =ah (lT x):=by rw[h2];simp
  have gy:((Lj++y::ys).map lT).toArray[f.offset]? =ah (lT y):=by rw[h2,<-hl];simp
  have ih:=λr' he'=>zS w fs ks (pre++[x]) (Lj++[y]) xs ys r' (by simpa using h4) (by simp[hl]) hx.2 hy.2 he';simp only[cq,uK]at ih
  have fin:∀{d:TypeDesc} {a b:bj} {q t:aW},P.underlying f.type=ah d->rI d=ai->lT x=a->lT y=b->(Op.equalIn 9999 f.type a b).run P w= .ok q w->WO xs ys=ah t->r=(q&&t)->
    (Ob 9999 ((pre++x::xs).map lT).toArray ((Lj++y::ys).map lT).toArray (f::fs)).run P w= .ok r w:=by
   intro d a b q t hd hp ha hb hq ht hr
   subst ha;subst hb;subst hr
   simp only[Ob,bw h1,ch,xS hd hp gx w,xS hd hp gy w,bF,hq,m7]
   cases q with
   |false=>rfl
   |true=>simpa using ih t ht
  cases hu:P.underlying f.type with
  |none=>rw[hu]at h3;cases h3
  |some d=>
   rw[hu]at h3;cases x<;>cases y<;>simp only[WO]at he<;>try (cases he;done)
   ·rename_i k1 n1 k2 n2;split at he
    ·rename_i Sh;subst Sh;split at he
     ·rename_i t ht;cases he;have hk:k= .i k1:=hx.1.symm;subst hk;cases d<;>simp at h3;subst h3;exact fin hu rfl rfl rfl (run_equalIn_int w 9998 f.type _ _ _ _ hu) ht rfl
     ·cases he
    ·cases he
   ·split at he
    ·rename_i t ht;cases he;have hk:k= .b:=hx.1.symm;subst hk;cases d<;>simp at h3;exact fin hu rfl rfl rfl (run_equalIn_bool' w 9998 f.type _ _ hu) ht rfl
    ·cases he
   ·split at he
    ·rename_i t ht;cases he;have hk:k= .s:=hx.1.symm;subst hk;cases d<;>simp at h3;exact fin hu rfl rfl rfl (run_equalIn_string w 9998 f.type _ _ hu) ht rfl
    ·cases he
 |[],_::_,_,_,_,_,_,h,_,_,_,_=>by cases h
 |_::_,[],_,_,_,_,_,h,_,_,_,_=>by cases h
 |_::_,_::_,_,_,[],_,_,_,_,hx,_,_=>by cases hx
 |_::_,_::_,_,_,_::_,[],_,_,_,_,hy,_=>by cases hy
theorem ad7{P:cZ}{rows:aC pK}{eqs:aC aE}(h:rows.all (Y1 P)=ai)(h2:eqs.all (aaa P rows)=ai):eC P (Vf rows eqs):=by
 have key:∀t ti,AJ rows t=ah ti->∃r,r.t=t/\r.ti=ti/\Y1 P r=ai/\∀f,DA rows t f=(bif r.ti.agg then r.fs[f]? else aj):=λt ti ht=>by obtain⟨r,h1,h2,h3,h4⟩:=JB ht;exact⟨r,h2,h3,bu.1 h r h1,h4⟩
 have open_:∀r,Y1 P r=ai->∃inf d,P.info? r.t=ah inf/\P.underlying r.t=ah d/\inf.size=r.ti.ks.length/\inf.bytes=r.ti.bytes/\0<r.ti.ks.length/\
   (K9 r.ti.ks=ai->∃z,inf.zero=ah z/\z.cells.toList=r.ti.ks.map iJ/\(r.ti.agg=ai->isAgg z=ai))/\
   ((∃fs,d= .struct fs/\r.ti.agg=ai/\wX P r.ti.ks.length fs.toList r.fs=ai)\/(r.ti.agg=ak/\((∃k,r.ti.ks=[.i k]/\d= .int k)\/(r.ti.ks=[.b]/\d= .bool)\/(r.ti.ks=[.s]/\d= .string)\/(∃e,r.ti.ks=[.l e]/\d= .slice e)\/(r.ti.ks=[.o]/\rI d=ai)))):=by
  intro r hr
  unfold Y1 at hr
  split at hr
  ·rename_i inf d h1 h2;simp only[aL]at hr;obtain⟨⟨⟨⟨k1,k2⟩,k3⟩,k4⟩,k5⟩:=hr;refine⟨inf,d,h1,h2,aU k1,aU k2,by simpa [Ak]using k3,λhn=> ?_, ?_⟩
   ·rw[hn,au]at k4;split at k4
    ·rename_i z hz;simp only[aL,dM,dv]at k4;exact⟨z,hz,Vv k4.1,λha=>by rcases k4.2 with h|h;(·rw[ha]at h;cases h);exact h⟩
    ·cases k4
   ·cases d<;>simp only[aL,dv]at k5;case struct fs=>exact .inl ⟨fs,rfl,k5⟩
    case int k=>exact .inr ⟨k5.1, .inl ⟨k,nL k5.2,rfl⟩⟩
    case bool=>exact .inr ⟨k5.1, .inr (.inl ⟨nL k5.2,rfl⟩)⟩
    case string=>exact .inr ⟨k5.1, .inr (.inr (.inl ⟨nL k5.2,rfl⟩))⟩
    case slice e=>exact .inr ⟨k5.1, .inr (.inr (.inr (.inl ⟨e,nL k5.2,rfl⟩)))⟩
    all_goals exact .inr ⟨k5.1.1, .inr (.inr (.inr (.inr ⟨nL k5.1.2,k5.2⟩)))⟩
  ·cases hr
 refine⟨λt ti ht=> ?_,λt ti ht=> ?_,λt f o n hf=>MZ hf,λt ti ht ha fs hu=> ?_,λt ti he ht w x y xs ys r hr hx hy=> ?_,λ_ _ h=>by cases h⟩
 ·obtain⟨r,rfl,rfl,hr,_⟩:=key t ti ht;obtain⟨inf,d,h1,h2,h3,h4,h5,h6,h7⟩:=open_ r hr;refine⟨inf,h1,h3,h4,h5,λhn=> ?_⟩
  obtain⟨z,z1,z2,z3⟩:=h6 hn;have hc:z.cells=(r.ti.ks.map iJ).toArray:=by rw[<-z2]
  refine⟨z,z1,hc,λha=> ?_⟩
  have:=z3 ha;cases z<;>simp[isAgg]at this;rw[show _=_ from hc.symm];rfl
 ·obtain⟨r,rfl,rfl,hr,w8⟩:=key t ti ht;obtain⟨inf,d,h1,h2,h3,h4,h5,h6,h7⟩:=open_ r hr;refine⟨d,h2,λha=> ?_,λha=> ?_⟩
  ·rcases h7 with ⟨fs,rfl,_,hb⟩|⟨hn,_⟩
   ·refine⟨fs,rfl,λf o n hf=> ?_⟩
    have hf:DA rows r.t f=ah (o,n):=hf;rw[w8,ha]at hf;obtain⟨fd,k1,k2⟩:=(vR hb).2 f o n hf;exact⟨fd,by simpa using k1,k2⟩
   ·rw[ha]at hn;cases hn
  ·rcases h7 with ⟨fs,_,hn,_⟩|⟨_,h|h|h|h|⟨h,hb⟩⟩
   ·rw[ha]at hn;cases hn
   ·exact .inl h
   ·exact .inr (.inl h)
   ·exact .inr (.inr (.inl h))
   ·exact .inr (.inr (.inr (.inl h)))
   ·refine .inr (.inr (.inr (.inr ⟨h, ?_⟩)));cases d<;>first|rfl|cases hb
 ·obtain⟨r,rfl,rfl,hr,w8⟩:=key t ti ht;obtain⟨inf,d,h1,h2,h3,h4,h5,h6,h7⟩:=open_ r hr;rw[h2]at hu;cases hu;rcases h7 with ⟨fs',he,_,hb⟩|⟨hn,_⟩
  ·cases he;refine⟨r.fs,(vR hb).1,λf o n hf=> ?_⟩
   have hf:DA rows r.t f=ah (o,n):=hf;rw[w8,ha]at hf;exact hf
  ·rw[ha]at hn;cases hn
 ·have hm:t∈eqs:=by
   have:∀l:aC aE,mF t l=ai->t∈l:=by
    intro l;induction l with
    |nil=>intro h;cases h
    |cons a l ih=>
     intro h;simp only[mF,dM]at h;rcases h with h|h
     ·rw[aU h];exact dL
     ·exact c7 _ (ih h)
   exact this _ he
  have hb:=bu.1 h2 t hm;simp only[aaa,aL,dv]at hb;obtain⟨⟨b1,b2⟩,b3⟩:=hb;rw[show AJ rows t=ah ti from ht]at b3;cases hu:P.underlying t with
  |none=>rw[hu]at b3;cases b3
  |some d=>
   rw[hu]at b3;cases d<;>try (cases b3;done)
   rename_i fs;have w8:P.fieldsOf t=fs:=by unfold Program.fieldsOf;rw[hu]
   have r_:P.underlying t=ah (.struct (P.fieldsOf t)):=by rw[w8];exact hu
   have key:(Op.equalIn 10000 t (.agg (xs.map lT).toArray) (.agg (ys.map lT).toArray)).run P w= .ok r w:=by rw[run_equalIn_agg w 9999 t _ _ r_ b2,w8];exact zS w fs.toList ti.ks [] [] xs ys r b3 rfl hx hy hr
   refine⟨?_, ?_⟩
   ·simp only[ch,run_eqGuard_agg w .eql t x y _ _ b1,bF,run_eql_struct,key]
   ·simp only[ch,run_eqGuard_agg w .neq t x y _ _ b1,bF,run_neq_struct,key]
def alP(rows:aC pK)(eqs:aC aE)(R7:aC (aE×aE)):Tab:={Vf rows eqs with R7:=λt f=>R7.any λp=>bD t p.1&&bD f p.2}
def flB(P:cZ)(p:aE×aE):aW:=
 match P.underlying p.1 with
 |some (.struct fs)=>(match fs[p.2]? with|some fd=>(match P.underlying fd.type with|some d=>rI d|none=>ak)|none=>ak)
 |_=>ak
theorem adP{P:cZ}{t:aE}{d:TypeDesc}(h:P.underlying t=ah d)(hb:rI d=ai)(w:bK):(Go.isAgg t).run P w= .ok ak w:=by unfold Go.isAgg;rw[ch,run_underlying h,bF];cases d<;>first|rfl|cases hb
theorem WM{P:cZ}{rows:aC pK}{eqs:aC aE}{R7:aC (aE×aE)}(h:eC P (Vf rows eqs))(hf:R7.all (flB P)=ai):eC P (alP rows eqs R7):=by
 refine⟨h.info,h.desc,h.fo,h.pl,h.eq,λt f hq fs fd hu hd w=> ?_⟩
 obtain⟨p,hp,he⟩:=List.any_eq_true.1 (show(R7.any λp=>bD t p.1&&bD f p.2)=ai from hq);rw[aL]at he;have hb:=bu.1 hf p hp;unfold flB at hb;rw[<-aU he.1,<-aU he.2,hu]at hb;dsimp only at hb;rw[hd]at hb;dsimp only at hb;split at hb
 ·rename_i d h2;exact adP h2 hb w
 ·cases hb
end Go.FG

