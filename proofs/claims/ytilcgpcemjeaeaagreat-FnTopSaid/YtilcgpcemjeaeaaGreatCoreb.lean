/- An evaluator for the part of the language that this program uses, proved sound over the model: states told as values and lists; what an evaluation tells, the call does. No condition. -/
import Derived.Calls
import Derived.Orders
import Derived.Below
import Derived.Laws.AppendOwn
import Derived.Laws.Slices
import Derived.Laws.StructEq
import Derived.Laws.Tables
import Derived.Laws.MakeOwn
import Derived.Laws.IdiomStrings
import Derived.Laws.BytesArg
import Derived.Laws.NewFold
import Derived.SizedLaws
import Derived.Carry
import Derived.ProofKit
import Derived.KernelRfl
import Derived.Laws.Strings
import Derived.Test.YtilcgpcemjeaeaaGreatCorea
set_option linter.unusedVariables false
set_option linter.unusedSimpArgs false
set_option maxRecDepth 100000
open Array renaming ext'->sJ,length_toList->dS,getElem?_toList->cX,getElem?_eq_some_iff->dV,getElem?_extract->ea,getElem?_map->O9,getElem?_append_left->EK,toList_map->AM,eq_empty_of_size_eq_zero->AL,getD_eq_getD_getElem?->eK,getElem?_replicate->EL,replicate->Bm
open Bool renaming false->ak,true->ai,or_true->KO,and_eq_true->aM,and_true->iL,false_eq_true->dx,not_eq_true'->dp,not_eq_false'->nk,or_eq_true->dJ,and_false->wH,not_false->bP,true_or->AO,or_eq_false_iff->iH
open Go renaming World->bM,Value->bn,Program->cZ,Oper->fu,IntKind->nA,Operand->dy
open Go.Act renaming put->WI
open Go.Builtin renaming firstCells->fm,lenOf->pJ,append_->ix,zeroCells->fO
open Go.Exit renaming inBlock->IP
open Go.Instr renaming makeFunc->WJ,loadAt->yW,sureAddr->uX
open Go.IntKind renaming u8->bj
open Go.Op renaming eqFields->O_
open Go.Oper renaming wp->Pb,upon_enter->WK
open Go.Region renaming wanted->vm,binds->mW,ready->wP
open Go.Result renaming andThen_ok->bI
open Go.Sem renaming run_bind->cj,run_pure->cT,run->nB,run_ite->nr
open List renaming mem_of_getElem?->aR,map_append->dh,map_cons->fw,map_nil->Ce,mem_append->bf,mem_map->cU,mem_singleton->a_,mem_append_left->bN,mem_append_right->bO,getElem?_append_left->dF,getElem?_append_right->db,length_append->bU,eq_nil_of_length_eq_zero->gh,length_map->bV,getElem?_eq_some_iff->aT,mem_cons->cB,getElem?_of_mem->b7,getElem_mem->bB,map_toArray->DY,mem_cons_self->dv,mem_cons_of_mem->c7,not_mem_nil->fQ,getElem?_cons_succ->dM,mem_flatMap->bQ,length_eq_one_iff->g6,getElem?_cons_zero->sL,flatMap_cons->yX,nodup_append->eM,getElem?_map->bL,nodup_cons->kM,getD_eq_getElem?_getD->cY,nil_append->gF,all_eq_true->bu,map_map->mz,append_nil->dj,cons_append->Cd,length_singleton->bC,range'->iV,length_cons->dc,getElem?_eq_none->lh,append_assoc->cy,take_append_of_le_length->pb,take_length->dR,singleton_append->u5,length_nil->jR,getElem?_take->d_,countP_cons->lQ,range->b8,reverse_reverse->vT,range_eq_range'->XD,find?_eq_none->Xx,find?_some->vn,length_set->cD,mem_or_eq_of_mem_set->jI,mem_filter->dm,mapM_cons->XA,getD_cons_succ->vQ,any_eq_true->Gu
open Nat renaming lt_of_lt_of_le->jy,mul_le_mul_right->b_,add_mul->dn,add_assoc->mi,eq_of_beq_eq_true->aW,le_refl->cG,zero_le->bD,div_lt_iff_lt_mul->yN,mod_lt->DM,div_add_mod->KD,mul_comm->ET,zero_add->bX,add_comm->jd,beq->bF,le_of_ble_eq_true->cM,add_zero->yZ,blt->qC,blt_eq->AX,lt_or_ge->qY,le_trans->dg,ble_eq_true_of_le->KX,ble->fJ,sub_zero->sA
open Option renaming some->ah,getD_some->y_,none->aj
open Option.some renaming inj->aJ,injEq->jC
open Prod.mk renaming inj->bY,injEq->jj
open _root_ renaming Nat->aE,Bool->aU,List->az,if_pos->bA,if_neg->bJ,absurd->cL,Array->dt,Int->ax,decide_eq_true_eq->bh,Option->aA,cond_true->au,cond_false->aw,decide_eq_true->aG,decide_eq_false->aK,of_decide_eq_true->cq,congrArg->lV
namespace Go.FG
theorem qc{E:fT}{w:bM}{K:aE->Prop}{p:Pl}{xs:aQ}{el:aE}{te:TI}(ht:E.ty el=ah te)(hs:p.sz=te.ks.length)(mT:∀y∈xs,y.map CV.kd=te.ks)
  (h:jl w p xs (λ_ _ u x=>da E w K u x)) (hK:p.nil=ak->K p.blk):da E w K (l_ p) (.l el xs):=by
 cases hq:p.nil with
 |true=>rw[nN hq,(h.nil hq).1];exact .nl _ _ _
 |false=>
  rw[e6 hq,h.n];obtain⟨vals,hb,TB,hmx,_,hc⟩:=h.mem hq;have JD:=λi y j x (h1:xs[i]? =ah y) (h2:y[j]? =ah x)=>hc i y j x h1 h2;refine .l el xs p.blk p.off p.cap te (λi j=>(vals[p.off+i*p.sz+j]?).getD undef) ht (by rw[<-h.n];exact TB) hmx (hK hq) mT (λi j y x h1 h2=> ?_) (λi j y x h1 h2=> ?_)
  ·obtain⟨u,hu,_⟩:=JD i y j x h1 h2;rw[hb.cell,<-hs,hu];rfl
  ·obtain⟨u,hu,hr⟩:=JD i y j x h1 h2;simp only[hu,y_];exact hr
theorem yK{E:fT}{w:bM}{K:aE->Prop}{G:aE->aE->Pl}{i j:aE}{u:bn}{x:CV}(h:XC E w G i j u x)(hK:uI x=ai->(G i j).nil=ak->K (G i j).blk):da E w K u x:=by
 cases x with
 |l e ys=>obtain⟨rfl,t,ht,hp,hs,mT,gi⟩:=h;exact qc ht hs mT (gi.frame (λ_=>rfl) (λi j y x u hi hj hr=>kV (iv hp (mT y (aR hi)) hj) hr)) (hK rfl)
 |i=>exact kV rfl h
 |b=>exact kV rfl h
 |s=>exact kV rfl h
section
variable {P:cZ} {E:fT} {σ:St} {a:Act} {w:bM} {c:eZ} {o:fu} {nm:aE} {e:tc}
structure KN (E:fT) (σ:St) (w:bM) (c:eZ) (te:TI) (v:bn) (DN:aU) (xs:aQ) (b:az aE) (p:Pl) (g:aE->aE->Pl):Prop where
 v:v=l_ p
 sz:p.sz=te.ks.length
 sh:∀y∈xs,y.map CV.kd=te.ks
 at_:jl w p xs (λi j u x=>if DN=ai then XC E w g i j u x else da E w c.K u x)
 inn:DN=ai->Gt p g xs
 own:p.nil=ak->∃nm ob,nm∈b/\σ (c9 nm)= .o ob/\fL c nm ob p.blk
 owni:DN=ai->∀i j,gm xs i j->(g i j).nil=ak->∃nm ob,nm∈b/\σ (c9 nm)= .o ob/\fL c nm ob (g i j).blk
 kn:∀nm∈b,∃ob,σ (c9 nm)= .o ob
def K1(σ:St)(c:eZ)(D:az (aE×Obj))(q:aE):Prop:=c.K q\/∃n e xs ob,(n,Obj.fW e xs)∈D/\σ (c9 n)= .o ob/\fL c n ob q
structure rC (E:fT) (σ:St) (w:bM) (c:eZ) (te:TI) (b:az aE) (Bf:aU) (ys:aQ) (D:az (aE×Obj)) (news:az bn) (gx:aE->aE->Pl):Prop where
 sh:∀y∈ys,y.map CV.kd=te.ks
 cellX:Bf=ai->∀(i:aE) (y:az CV) (j:aE) (x:CV),ys[i]? =ah y->y[j]? =ah x->∃u:bn,news[i*te.ks.length+j]? =ah u/\XC E w gx i j u x
 cellH:Bf=ak->∀(i:aE) (y:az CV) (j:aE) (x:CV),ys[i]? =ah y->y[j]? =ah x->∃u:bn,news[i*te.ks.length+j]? =ah u/\da E w (K1 σ c D) u x
 own:Bf=ai->∀i j,gm ys i j->(gx i j).nil=ak->∃n ob,(n,Obj.dead)∈D/\σ (c9 n)= .o ob/\fL c n ob (gx i j).blk
 one:Bf=ai->∀i j i' j',gm ys i j->gm ys i' j'->(gx i j).nil=ak->(gx i' j').nil=ak->(gx i j).blk=(gx i' j').blk->i=i'/\j=j'
 D:∀n x,(n,x)∈D->n∉b/\(∃ob,σ (c9 n)= .o ob)/\(x= .dead\/(Bf=ak/\∃e xs,x= .fW e xs/\da E w (K1 σ c D) (l_ (c.P n)) (.l e xs)/\(c.P n).n=xs.length/\∃ti,E.ty e=ah ti/\(c.P n).sz=ti.ks.length))
theorem FC(cg:Ok E σ w c)(dI:fy E σ a w c)(hd:∀d,o.dst=ah d->d<a.tmps.size){tT el:aE}{te:TI}(ht:E.ty el=ah te)(hf:σ (c9 tT)= .j9)(jt:tT<900000000)
  {v:bn} {DN Bf:aU} {xs ys:aQ} {b:az aE} {p p':Pl} {g gx:aE->aE->Pl} {D2:az (aE×Obj)} {news:az bn} {w':bM}
  (hB:KN E σ w c te v DN xs b p g) (hM:rC E σ w c te b Bf ys D2 news gx) (hA:aeP w w' p p' ys.length news) (hr:(execOp a.eval o).run P w= .ok (.value (l_ p')) w'):
  gZ P E σ a w c o (oz b++(kB D2++[(c9 tT,eP.o (.row el (DN&&Bf) (xs++ys)))])++dw o (.v ak [.own tT])):=by
 have afP:(DN&&Bf)=ai->DN=ai/\Bf=true:=λh=>by simpa using h
 generalize afO:(DN&&Bf)=Pz at afP;let D:az (aE×Obj):=Fq b++(D2++[(tT, .row el Pz (xs++ys))])
 have hD:oz b++(kB D2++[(c9 tT,eP.o (.row el Pz (xs++ys)))])=kB D:=by rw[CC];simp only[D,kB,dh,fw,Ce]
 rw[hD];have mem:∀m x,(m,x)∈D->(m∈b/\x= .dead)\/(m,x)∈D2\/(m=tT/\x= .row el Pz (xs++ys)):=by
  intro m x hm;rcases bf.1 hm with hm|hm
  ·obtain⟨q,hq,h⟩:=cU.1 hm;cases h;exact .inl ⟨hq,rfl⟩
  ·rcases bf.1 hm with hm|hm
   ·exact .inr (.inl hm)
   ·rw[a_]at hm;cases hm;exact .inr (.inr ⟨rfl,rfl⟩)
 have NX:∀m,m∈b->uW D m:=λm hm=>⟨.dead,bN _ (cU.2 ⟨m,hm,rfl⟩)⟩
 have Tv:∀m x,(m,x)∈D2->uW D m:=λm x hm=>⟨x,bO _ (bN _ hm)⟩
 have ajQ:uW D tT:=⟨_,bO _ (bO _ (a_.2 rfl))⟩
 have F1:p'.nil=ak->p'.blk=w.heap.size\/∃m ob,m∈b/\σ (c9 m)= .o ob/\fL c m ob p'.blk:=by
  intro hn;rcases hA.blk hn with ⟨h1,h2⟩|h
  ·rw[h2];exact .inr (hB.own h1)
  ·exact .inl h
 have Dne:∀n x ob q,(n,x)∈D2->σ (c9 n)= .o ob->fL c n ob q->¬(p'.nil=ak/\q=p'.blk):=by
  rintro n x ob q hx na pZ ⟨hn,rfl⟩;have Yl:=wS.lt cg ⟨n,ob,na,pZ⟩;rcases F1 hn with h|⟨m,ob',h1,h2,h3⟩
  ·omega
  ·have:=cg.sep n ob m ob' _ na h2 pZ h3;subst this;exact(hM.D n x hx).1 h1
 have Kne:∀q,c.K q->¬(p'.nil=ak/\q=p'.blk):=by
  rintro q hq ⟨hn,rfl⟩;have Yl:=cg.lt _ hq;rcases F1 hn with h|⟨m,ob',h1,h2,h3⟩
  ·omega
  ·exact cg.kk m ob' _ h2 h3 hq
 have Gne:DN=ai->∀i j,gm xs i j->(g i j).nil=ak->¬(p'.nil=ak/\(g i j).blk=p'.blk):=by
  rintro hx i j hh hn ⟨kP,he⟩;obtain⟨m,ob,q1,q2,q3⟩:=hB.owni hx i j hh hn;have Yl:=wS.lt cg ⟨m,ob,q2,q3⟩;rcases hA.blk kP with ⟨h1,h2⟩|h
  ·exact(hB.inn hx).out i j hh hn h1 (he.trans h2)
  ·omega
 let K':aE->Prop:=λq=>c.K q\/(Pz=ak/\ka (uW D) σ c q/\¬(p'.nil=ak/\q=p'.blk))
 have ajz:∀q,K' q->q<w.heap.size:=by
  rintro q (h|⟨_,h,_⟩)
  ·exact cg.lt q h
  ·exact wS.lt cg h.own
 have ajA:∀q,K' q->¬(p'.nil=ak/\q=p'.blk):=by
  rintro q (h|⟨_,_,h⟩)
  ·exact Kne q h
  ·exact h
 have F3:∀q,K' q->w'.heap[q]? =w.heap[q]? :=λq hq=>hA.old q (ajz q hq) (λhn he=>ajA q hq ⟨hn,he⟩);have F4:Pz=ak->∀q,K1 σ c D2 q->K' q:=by
  rintro hR q (h|⟨n,e',zs,ob,h1,h2,h3⟩)
  ·exact .inl h
  ·exact .inr ⟨hR,⟨n,ob,Tv n _ h1,h2,h3⟩,Dne n _ ob q h1 h2 h3⟩
 have F5:Pz=ak->DN=ai->∀i j,gm xs i j->(g i j).nil=ak->K' (g i j).blk:=by intro hR hx i j hh hn;obtain⟨m,ob,q1,q2,q3⟩:=hB.owni hx i j hh hn;exact .inr ⟨hR,⟨m,ob,NX m q1,q2,q3⟩,Gne hx i j hh hn⟩
 have F6:Pz=ak->Bf=ai->∀i j,gm ys i j->(gx i j).nil=ak->K' (gx i j).blk:=by intro hR hx i j hh hn;obtain⟨n,ob,q1,q2,q3⟩:=hM.own hx i j hh hn;exact .inr ⟨hR,⟨n,ob,Tv n _ q1,q2,q3⟩,Dne n _ ob _ q1 q2 q3⟩
 let G':aE->aE->Pl:=λi j=>if i<xs.length then g i j else gx (i-xs.length) j
 have G'l:∀i j,i<xs.length->G' i j=g i j:=λi j h=>bA h;have G'r:∀i j,¬i<xs.length->G' i j=gx (i-xs.length) j:=λi j h=>bJ h;have TR:∀i j,i<xs.length->gm (xs++ys) i j->gm xs i j:=by rintro i j hi ⟨y,x,h1,h2,h3⟩;rw[dF hi]at h1;exact⟨y,x,h1,h2,h3⟩
 have Yz:∀i j,¬i<xs.length->gm (xs++ys) i j->gm ys (i-xs.length) j:=by rintro i j hi ⟨y,x,h1,h2,h3⟩;rw[db (by omega)]at h1;exact⟨y,x,h1,h2,h3⟩
 let c':eZ:=⟨λm=>if m=tT then p' else c.P m,λm=>if m=tT then G' else c.G m,K'⟩
 have hP:c'.P tT=p':=bA rfl;have hG:c'.G tT=G':=bA rfl;have hAg:jE σ c c':=λm hm=>by
  have:m≠tT:=by rintro rfl;rcases hm with h|h;exact h hf;omega
  exact⟨bJ this,bJ this⟩
 have akt:Pz=ai->∀i j,gm (xs++ys) i j->(G' i j).nil=ak->¬(p'.nil=ak/\(G' i j).blk=p'.blk)/\ka (uW D) σ c (G' i j).blk:=by
  intro hR i j hh hn;obtain⟨r1,r2⟩:=afP hR;by_cases hi:i<xs.length
  ·rw[G'l i j hi]at hn⊢;obtain⟨m,ob,q1,q2,q3⟩:=hB.owni r1 i j (TR i j hi hh) hn;exact⟨Gne r1 i j (TR i j hi hh) hn,m,ob,NX m q1,q2,q3⟩
  ·rw[G'r i j hi]at hn⊢;obtain⟨n,ob,q1,q2,q3⟩:=hM.own r2 _ j (Yz i j hi hh) hn;exact⟨Dne n _ ob _ q1 q2 q3,n,ob,Tv n _ q1,q2,q3⟩
 have hlen:∀y∈xs++ys,y.map CV.kd=te.ks:=λy hy=>(bf.1 hy).elim (hB.sh y) (hM.sh y);refine Ly cg dI hd (D:=D) (c':=c') (w':=w') hAg ?_ ?_ ?_ ?_ (λq h=> .inl h) ?_ (λq hq=>jy (ajz q hq) hA.size) ?_ hA.size hA.os hA.tape hA.output ?_ ?_ hr
 ·intro m x hm;rcases mem m x hm with ⟨_,rfl⟩|Yf|⟨rfl,rfl⟩
  ·trivial
  ·obtain⟨_,⟨ob,na⟩,hx⟩:=hM.D m x Yf;rcases hx with rfl|⟨W9,e',zs,rfl,q1,q2,q3⟩
   ·trivial
   ·have hR:Pz=false:=by rw[<-afO,W9];simp
    obtain⟨a1,a2⟩:=hAg m (.inl (by rw[na];simp));show da E w' K' (l_ (c'.P m)) _/\(c'.P m).n=_/\_;rw[a1];exact⟨q1.frame (λq hq=>F3 q (F4 hR q hq)) (F4 hR),q2,q3⟩
  ·refine⟨⟨te,ht,by rw[hP,hA.sz];exact hB.sz,hlen⟩, ?_,λhR=> ?_⟩
   ·rw[hP,hG];refine⟨by rw[hA.n,hB.at_.n,bU],λhn=> ?_,λhn=> ?_⟩
    ·obtain⟨n1,n2,n3⟩:=hA.nil hn;refine⟨?_,n1⟩
     have e1:xs.length=0:=by rw[<-hB.at_.n];exact n2
     rw[gh e1,gh n3];rfl
    ·obtain⟨je,m1,m2,m3,m4,m5,m6⟩:=hA.mem hn;refine⟨je,m1,m2,m3,m4,λi y j x hy hx=> ?_⟩
     have hj:j<te.ks.length:=by rw[<-hlen y (aR hy),bV];exact(aT.1 hx).1
     by_cases hi:i<xs.length
     ·rw[dF hi]at hy;have hpn:p.nil=false:=by
       cases hq:p.nil with
       |false=>rfl
       |true=>have:=(hB.at_.nil hq).1;subst this;simp at hi
      obtain⟨vals,k1,k2,k3,k4,k5⟩:=hB.at_.mem hpn;obtain⟨u,hu,hR⟩:=k5 i y j x hy hx;have hk:i*p.sz+j<p.n*p.sz:=by have:(i+1)*p.sz<=p.n*p.sz:=b_ _ (by rw[hB.at_.n];exact hi);rw[dn]at this;rw[hB.sz]at this⊢;omega
      refine⟨u, ?_, ?_⟩
      ·rw[hA.sz,mi];refine m5 _ u hk ?_;rw[k1.cell,<-mi];exact hu
      ·cases hxb:DN with
       |true=>
        rw[hxb,bA rfl]at hR;cases Yu:Pz with
        |true=>
         rw[bA rfl];have Rc:XC E w' g i j u x:=hR.frame (λhl kP=>hA.old _ (by obtain⟨m,ob,_,q2,q3⟩:=hB.owni hxb i j ⟨y,x,hy,hx,hl⟩ kP;exact wS.lt cg ⟨m,ob,q2,q3⟩) (λafY he=>Gne hxb i j ⟨y,x,hy,hx,hl⟩ kP ⟨afY,he⟩));cases x with
         |l e1 z1=>simpa only[XC,G'l i j hi]using Rc
         |_=>exact Rc
        |false=>rw[bJ (by simp)];have:=yK (K:=K') hR (λhl kP=>F5 Yu hxb i j ⟨y,x,hy,hx,hl⟩ kP);exact this.frame F3 (λ_ h=>h)
       |false=>
        have Yu:Pz=false:=by rw[<-afO,hxb];rfl
        rw[hxb,bJ (by simp)]at hR;rw[Yu,bJ (by simp)];exact hR.frame (λq hq=>F3 q (.inl hq)) (λq hq=> .inl hq)
     ·rw[db (by omega)]at hy;have JQ:i-xs.length<ys.length:=(aT.1 hy).1;have hk:(i-xs.length)*p.sz+j<ys.length*p.sz:=by have:(i-xs.length+1)*p.sz<=ys.length*p.sz:=b_ _ JQ;rw[dn]at this;rw[hB.sz]at this⊢;omega
      have atx:p'.off+i*p'.sz+j=p'.off+p.n*p.sz+((i-xs.length)*p.sz+j):=by
       rw[hA.sz,hB.at_.n];have:i*p.sz=xs.length*p.sz+(i-xs.length)*p.sz:=by rw[<-dn];congr 1;omega
       omega
      have jV:∀u,news[(i-xs.length)*te.ks.length+j]? =ah u->je[p'.off+i*p'.sz+j]? =ah u:=λu hu=>by rw[atx,m6 _ hk,hB.sz];exact hu
      cases W9:Bf with
      |true=>
       obtain⟨u,hu,hX⟩:=hM.cellX W9 _ y j x hy hx;refine⟨u,jV u hu, ?_⟩
       cases Yu:Pz with
       |true=>
        rw[bA rfl];have Rc:XC E w' gx (i-xs.length) j u x:=hX.frame (λhl kP=>hA.old _ (by obtain⟨n,ob,_,q2,q3⟩:=hM.own W9 _ j ⟨y,x,hy,hx,hl⟩ kP;exact wS.lt cg ⟨n,ob,q2,q3⟩) (λafY he=>by obtain⟨n,ob,q1,q2,q3⟩:=hM.own W9 _ j ⟨y,x,hy,hx,hl⟩ kP;exact Dne n _ ob _ q1 q2 q3 ⟨afY,he⟩));cases x with
        |l e1 z1=>simpa only[XC,G'r i j hi]using Rc
        |_=>exact Rc
       |false=>rw[bJ (by simp)];have:=yK (K:=K') hX (λhl kP=>F6 Yu W9 _ j ⟨y,x,hy,hx,hl⟩ kP);exact this.frame F3 (λ_ h=>h)
      |false=>
       have Yu:Pz=false:=by rw[<-afO,W9];simp
       obtain⟨u,hu,hH⟩:=hM.cellH W9 _ y j x hy hx;refine⟨u,jV u hu, ?_⟩
       rw[Yu,bJ (by simp)];exact hH.frame (λq hq=>F3 q (F4 Yu q hq)) (F4 Yu)
   ·rw[hP,hG];refine⟨λi j hh hn hpn he=>(akt hR i j hh hn).1 ⟨hpn,he⟩,λi j i' j' hh Bi hn kP he=> ?_⟩
    obtain⟨r1,r2⟩:=afP hR;have abu:∀i j i' j',i<xs.length->¬i'<xs.length->gm (xs++ys) i j->gm (xs++ys) i' j'->(G' i j).nil=ak->(G' i' j').nil=ak->(G' i j).blk≠(G' i' j').blk:=by intro i j i' j' hi mm hh Bi hn kP he;rw[G'l i j hi]at hn he;rw[G'r i' j' mm]at kP he;obtain⟨m,ob,q1,q2,q3⟩:=hB.owni r1 i j (TR i j hi hh) hn;obtain⟨n,ob',s1,s2,s3⟩:=hM.own r2 _ j' (Yz i' j' mm Bi) kP;rw[he]at q3;have:=cg.sep m ob n ob' _ q2 s2 q3 s3;subst this;exact(hM.D m _ s1).1 q1
    by_cases hi:i<xs.length
    ·by_cases mm:i'<xs.length
     ·rw[G'l i j hi]at hn he;rw[G'l i' j' mm]at kP he;exact(hB.inn r1).one i j i' j' (TR i j hi hh) (TR i' j' mm Bi) hn kP he
     ·exact cL he (abu i j i' j' hi mm hh Bi hn kP)
    ·by_cases mm:i'<xs.length
     ·exact cL he.symm (abu i' j' i j mm hi Bi hh kP hn)
     ·rw[G'r i j hi]at hn he;rw[G'r i' j' mm]at kP he;have:=hM.one r2 _ j _ j' (Yz i j hi hh) (Yz i' j' mm Bi) hn kP he;exact⟨by omega,this.2⟩
 ·intro m x q hm pZ;rcases mem m x hm with ⟨_,rfl⟩|Yf|⟨rfl,rfl⟩
  ·exact pZ.elim
  ·obtain⟨_,_,hx⟩:=hM.D m x Yf;rcases hx with rfl|⟨_,e',zs,rfl,_⟩
   ·exact pZ.elim
   ·exact pZ.elim
  ·rcases pZ with ⟨hn,rfl⟩|⟨hR,i,j,hh,hn,rfl⟩
   ·rw[hP]at hn⊢;refine⟨?_,λhk=>ajA _ hk ⟨hn,rfl⟩⟩
    rcases F1 hn with h|⟨m,ob,h1,h2,h3⟩
    ·right;omega
    ·exact .inl ⟨m,ob,NX m h1,h2,h3⟩
   ·rw[hG]at hn⊢;obtain⟨q1,q2⟩:=akt hR i j hh hn;refine⟨.inl q2, ?_⟩
    rintro (h|⟨h,_⟩)
    ·exact cg.J7 q2.own h
    ·rw[hR]at h;cases h
 ·intro m x m' x' q hm xS pZ Ty;have only:∀m x,(m,x)∈D->fL c' m x q->m=tT:=by
   intro m x hm pZ;rcases mem m x hm with ⟨_,rfl⟩|Yf|⟨rfl,rfl⟩
   ·exact pZ.elim
   ·obtain⟨_,_,hx⟩:=hM.D m x Yf;rcases hx with rfl|⟨_,e',zs,rfl,_⟩
    ·exact pZ.elim
    ·exact pZ.elim
   ·rfl
  rw[only m x hm pZ,only m' x' xS Ty]
 ·intro m zs hm;rcases mem m _ hm with ⟨_,h⟩|Yf|⟨_,h⟩
  ·cases h
  ·obtain⟨_,_,hx⟩:=hM.D m _ Yf;rcases hx with h|⟨_,e',zs,h,_⟩<;>cases h
  ·cases h
 ·rintro q (h|⟨_,h,_⟩)
  ·exact .inl h
  ·exact .inr (.inl h)
 ·intro q hq Yg;refine hA.old q hq (λhn he=>Yg ?_);rcases F1 hn with h|⟨m,ob,h1,h2,h3⟩
  ·omega
  ·rw[he];exact⟨m,ob,NX m h1,h2,h3⟩
 ·show _=l_ (c'.P tT);rw[hP]
 ·intro m hm;have:m=tT:=by simpa [cO,bR]using hm
  subst this;exact .inr ajQ
end
end Go.FG

namespace Go.FG
theorem JX:∀{l:az aE} {n:aE},n∈l->mS n l=true:=by
 intro l;induction l with
 |nil=>intro n h;cases h
 |cons m r ih=>
  intro n h;rcases cB.1 h with rfl|h
  ·simp[mS]
  ·simp only[mS,ih h,KO]
theorem qt{l:az aE}{n:aE}(h:mS n l=ak):n∉l:=λhm=>by rw[JX hm]at h;cases h
theorem da.one{E:fT}{w:bM}{K:aE->Prop}{u:bn}{x:CV}(h:da E w K u x):u.oneCell'=true:=by cases h<;>rfl
theorem Ye(p:Pl):(l_ p).oneCell'=true:=by unfold l_;split<;>rfl
theorem XC.one{E:fT}{w:bM}{G:aE->aE->Pl}{i j:aE}{u:bn}{x:CV}(h:XC E w G i j u x):u.oneCell'=true:=by
 cases x with
 |l e ys=>rw[h.1];exact Ye _
 |i=>rw[show u=_ from h.1];rfl
 |b=>rw[show u=_ from h.1];rfl
 |s=>rw[show u=_ from h.1];rfl
theorem Kr{x:CV}:(QB x).oneCell'=true:=by cases x<;>rfl
theorem xE{α:Type}{b:aU}{x y:Rd α}(h:b=ai):(bif b then x else y)=x:=by rw[h];rfl
theorem Fo{α:Type}{b:aU}{x y:Rd α}(h:b=ak):(bif b then x else y)=y:=by rw[h];rfl
theorem sW{α β γ:Type}{σ:St}{a x:α}{b y:β}{c z:γ}(h:(Rd.ret (a,b,c)).val σ=ah (x,y,z)):a=x/\b=y/\c=z:=by obtain⟨h1,h2⟩:=bY (aJ h);obtain⟨h2,h3⟩:=bY h2;exact⟨h1,h2,h3⟩
section
variable {P:cZ} {E:fT} {σ:St} {a:Act} {w:bM} {c:eZ} {o:fu} {nm:aE} {e:tc}
theorem Cs(cg:Ok E σ w c){el:aE}{te:TI}(ht:E.ty el=ah te){s:AV}{v:bn}(hs:eF E w c s v){DN:aU}{xs:aQ}{b:az aE}(h:(xD el s).val σ=ah (DN,xs,b)):
  ∃p g,KN E σ w c te v DN xs b p g:=by
 have ak6:∀b,(∀m∈b,∃ob,σ (c9 m)= .o ob)->v= .slice aj 0 0->∀DN,KN E σ w c te v DN [] b ⟨ai,0,0,0,0,te.ks.length⟩ (L3 E te.ks):=λb hb hv DN=>
  ⟨hv,rfl,λy hy=>(by cases hy),⟨rfl,λ_=>⟨rfl,rfl⟩,λh=>(by cases h)⟩,λ_=>wm (λ_ _=>rfl),λh=>(by cases h),λ_ i j ⟨y,x,h,_⟩=>(by simp at h),hb⟩
 cases s with
 |nl=>obtain⟨rfl,rfl,rfl⟩:=sW h;exact⟨_,_,ak6 [] (λm hm=>by cases hm) hs ai⟩
 |own n=>
  obtain⟨ob,hg,h⟩:=Rd.bind_some h;have hg:=dz hg;cases ob with
  |row e' ex ys=>obtain⟨h1,h9⟩:=cR h;have:=aW h1;subst this;have h:=h9;obtain⟨rfl,rfl,rfl⟩:=sW h;obtain⟨⟨t2,q1,q2,q3⟩,q4,q5⟩:=cg.obj n _ hg;obtain rfl:te=t2:=aJ (ht.symm.trans q1);exact⟨c.P n,c.G n,hs,q2,q3,q4,q5,λhn=>⟨n,_,by simp,hg, .inl ⟨hn,rfl⟩⟩,λhx i j hh hn=>⟨n,_,by simp,hg, .inr ⟨hx,i,j,hh,hn,rfl⟩⟩,λm hm=>by rw[a_]at hm;subst hm;exact⟨_,hg⟩⟩
  |_=>simp at h
 |vw n lo hi=>
  obtain⟨ob,hg,h⟩:=Rd.bind_some h;have hg:=dz hg;cases ob with
  |row e' ex ys=>
   obtain⟨h1,h9⟩:=cR h;have:=aW h1;subst this;have h:=h9;obtain⟨rfl,rfl,rfl⟩:=sW h;obtain⟨⟨t2,q1,q2,q3⟩,q4,q5⟩:=cg.obj n _ hg;obtain rfl:te=t2:=aJ (ht.symm.trans q1);obtain⟨v1,v2,v3,v4⟩:=hs;have hle:hi<=ys.length:=by rw[<-q4.n];exact v2
   have hvl:=mJ (xs:=ys) (lo:=lo) hle;have hb:∀m∈[n],∃ob,σ (c9 m)= .o ob:=λm hm=>by rw[a_]at hm;subst hm;exact⟨_,hg⟩
   cases hq:(c.P n).nil with
   |true=>
    have hy:=(q4.nil hq).1;subst hy;have Rb:eW ([]:aQ) lo hi=[]:=by unfold eW;simp
    rw[Rb];exact⟨_,_,ak6 [n] hb (v3 hq) ex⟩
   |false=>
    obtain⟨vals,k1,k2,k3,k4,k5⟩:=q4.mem hq;rcases v4 hq with ⟨u1,hv⟩|⟨u1,oo,u2,hv⟩
    ·have Yy:∀i j,gm (eW ys lo hi) i j->gm ys (lo+i) j:=by
      rintro i j ⟨y,x,h1,h2,h3⟩;rw[uj]at h1;split at h1
      ·exact⟨y,x,h1,h2,h3⟩
      ·cases h1
     refine⟨⟨ak,(c.P n).blk,(c.P n).off+lo*(c.P n).sz,(c.P n).cap-lo,hi-lo,(c.P n).sz⟩,λi j=>c.G n (lo+i) j,hv,q2,λy hy=>q3 y (CZ hy),⟨hvl.symm,λh=>(by cases h),λ_=>⟨vals,k1,by show hi-lo<=(c.P n).cap-lo;omega,by show(c.P n).cap-lo<=maxLen;omega, ?_,λi y j x h1 h2=> ?_⟩⟩,λhx=>⟨λi j hh hn _=>(q5 hx).out _ j (Yy i j hh) hn hq,λi j i' j' hh Bi hn kP he=> ?_⟩,λ_=>⟨n,_,by simp,hg, .inl ⟨hq,rfl⟩⟩,λhx i j hh hn=>⟨n,_,by simp,hg, .inr ⟨hx,lo+i,j,Yy i j hh,hn,rfl⟩⟩,hb⟩
     ·show(c.P n).off+lo*(c.P n).sz+((c.P n).cap-lo)*(c.P n).sz<=vals.size;have:lo*(c.P n).sz+((c.P n).cap-lo)*(c.P n).sz=(c.P n).cap*(c.P n).sz:=by rw[<-dn];congr 1;omega
      omega
     ·rw[uj]at h1;split at h1
      ·obtain⟨u,hu,hr⟩:=k5 (lo+i) y j x h1 h2;refine⟨u, ?_, ?_⟩
       ·show vals[(c.P n).off+lo*(c.P n).sz+i*(c.P n).sz+j]? =ah u;rw[<-hu];congr 1;rw[dn];omega
       ·split at hr
        ·rename_i hx;rw[bA hx];cases x with
         |l e1 z1=>exact hr
         |_=>exact hr
        ·rename_i hx;rw[bJ hx];exact hr
      ·cases h1
     ·have:=(q5 hx).one _ j _ j' (Yy i j hh) (Yy i' j' Bi) hn kP he;exact⟨by omega,this.2⟩
    ·have h0:hi-lo=0:=by omega
     have Rb:eW ys lo hi=[]:=gh (hvl.trans h0);rw[Rb];exact⟨⟨ak,(c.P n).blk,oo,0,0,(c.P n).sz⟩,L3 E te.ks,hv,q2,λy hy=>(by cases hy),⟨rfl,λh=>(by cases h),λ_=>⟨vals,k1,cG _,bD _,by show oo+0*(c.P n).sz<=vals.size;rw[Nat.zero_mul];omega,λi y j x h=>(by simp at h)⟩⟩,λ_=>wm (λ_ _=>rfl),λ_=>⟨n,_,by simp,hg, .inl ⟨hq,rfl⟩⟩,λ_ i j ⟨y,x,h,_⟩=>(by simp at h),hb⟩
  |_=>simp at h
 |_=>simp[xD]at h
theorem rP{u:aE}(hu:(∃e',P.underlying u=ah (.slice e'))\/P.underlying u=ah .string){z:dt bn}{v:bn}{ys:aQ}{ks:az Ck}(ly:0<ks.length){R:aE->aE->bn->CV->Prop}(hs:oy w v ys ks.length R)(mT:∀y∈ys,y.map CV.kd=ks)(h1:∀i j u x,R i j u x->u.oneCell'=ai):
  ∃news,App P w u v z ks.length ys.length news/\∀(i:aE) (y:az CV) (j:aE) (x:CV),ys[i]? =ah y->y[j]? =ah x->∃u:bn,news[i*ks.length+j]? =ah u/\R i j u x:=by
 have hl:∀y∈ys,y.length=ks.length:=λy hy=>by rw[<-mT y hy];simp
 obtain⟨A,cp,news,rfl,n1,n2,n3⟩:=hs.list hl;have first:∀W:bM,(∀q,W.cell? q=w.cell? q)->(fm ks.length ys.length (.slice A ys.length cp)).run P W= .ok news.toArray W:=by
  intro W hW;rcases n2 with h|⟨b,oo,rfl,h⟩
  ·subst h;have hn:news=[]:=gh (by rw[n1];simp);subst hn;cases A with
   |none=>exact run_firstCells_none _ _ _ _ _
   |some a=>exact run_firstCells_some W ks.length 0 a _ _ [] (by simp) (λj v hj=>by simp at hj)
  ·exact run_firstCells_some W ks.length ys.length _ _ _ news n1 (λj v hj=>by rw[hW,Addr.oc];exact h j v hj)
 refine⟨news,⟨.inl ⟨hu,by simp[pJ],first w (λ_=>rfl),first w.drew (λ_=>rfl)⟩,n1,λv hv=> ?_⟩,n3⟩
 obtain⟨q,hq⟩:=b7 hv;have Yl:q<ys.length*ks.length:=by rw[<-n1];exact(aT.1 hq).1
 have hi:q/ks.length<ys.length:=by rw[yN ly];exact Yl
 have hj:q%ks.length<ys[q/ks.length].length:=by rw[hl _ (bB hi)];exact DM _ ly
 obtain⟨u',sF,hr⟩:=n3 (q/ks.length) ys[q/ks.length] (q%ks.length) (ys[q/ks.length][q%ks.length]) (by simp[hi]) (by simp[hj]);have:q/ks.length*ks.length+q%ks.length=q:=by have:=KD q ks.length;rw[ET]at this;exact this
 rw[this,hq]at sF;cases sF;exact h1 _ _ _ _ hr
theorem Ux(hE:eA P E)(cg:Ok E σ w c){tT el:aE}{te:TI}(ht:E.ty el=ah te)(ly:0<te.ks.length){u:aE}(hu:(∃e',P.underlying u=ah (.slice e'))\/P.underlying u=ah .string){z:dt bn}{b:az aE}{x:AV}{v:bn}(hx:eF E w c x v)
  {Bf:aU} {ys:aQ} {w2:az (aE×eP)} (h:(Uw E tT el te.ks b x).val σ=ah (Bf,ys,w2)):
  ∃D news gx,w2=kB D/\App P w u v z te.ks.length ys.length news/\rC E σ w c te b Bf ys D news gx:=by
 have inK:∀D q,c.K q->K1 σ c D q:=λD q h=> .inl h;have PL:plain te.ks=ai->∀ys,oy w v ys te.ks.length (λ_ _ u x=>Sc u x)->(∀y∈ys,y.map CV.kd=te.ks)->∃D news gx,([]:az (aE×eP))=kB D/\App P w u v z te.ks.length ys.length news/\rC E σ w c te b ai ys D news gx:=by
  intro hp ys hs mT;obtain⟨news,n1,n2⟩:=rP (P:=P) (z:=z) hu ly hs mT (λi j u x hr=>by rw[hr.1];exact Kr);refine⟨[],news,λ_ _=>⟨ai,0,0,0,0,0⟩,rfl,n1,mT,λ_ i y j x hy hx=> ?_,λh=>(by cases h),λ_ i j _ hn=>(by cases hn),λ_ i j _ _ _ _ hn=>(by cases hn),λn x hn=>(by cases hn)⟩
  obtain⟨u,hu,hr⟩:=n2 i y j x hy hx;exact⟨_,hu,uQ (iv hp (mT y (aR hy)) hx) hr⟩
 have PLr:plain te.ks=ai->∀ys,(mM E x).val σ=ah (el,ys)->∃D news gx,([]:az (aE×eP))=kB D/\App P w u v z te.ks.length ys.length news/\rC E σ w c te b ai ys D news gx:=by intro hp ys hr;obtain⟨q1,q2,_⟩:=AJ cg hx hr ht hp;exact PL hp ys q1 q2
 have SH:∀ys,oy w v ys te.ks.length (λ_ _ u x=>da E w c.K u x)->(∀y∈ys,y.map CV.kd=te.ks)->∃D news gx,([]:az (aE×eP))=kB D/\App P w u v z te.ks.length ys.length news/\rC E σ w c te b ak ys D news gx:=by
  intro ys hs mT;obtain⟨news,n1,n2⟩:=rP (P:=P) (z:=z) hu ly hs mT (λi j u x hr=>hr.one);refine⟨[],news,λ_ _=>⟨ai,0,0,0,0,0⟩,rfl,n1,mT,λh=>(by cases h),λ_ i y j x hy hx=> ?_,λh=>(by cases h),λh=>(by cases h),λn x hn=>(by cases hn)⟩
  obtain⟨u,hu,hr⟩:=n2 i y j x hy hx;exact⟨_,hu,hr.frame (λ_ _=>rfl) (inK [])⟩
 have SHv:∀ys,da E w c.K v (.l el ys)->∃D news gx,([]:az (aE×eP))=kB D/\App P w u v z te.ks.length ys.length news/\rC E σ w c te b ak ys D news gx:=by intro ys hh;obtain⟨q1,q2⟩:=Aa ht hh;exact SH ys q1 q2
 have HP:∀ys,da E w c.K v (.l el ys)->(mM E x).val σ=ah (el,ys)->∃D news gx,([]:az (aE×eP))=kB D/\App P w u v z te.ks.length ys.length news/\rC E σ w c te b (plain te.ks) ys D news gx:=by
  intro ys hh hr;cases hp:plain te.ks with
  |true=>exact PLr hp ys hr
  |false=>exact SHv ys hh
 have FZ:∀n xs lo hi,σ (c9 n)= .o (.row el ai xs)->n∉b->xC (c.P n) lo hi v->∃D news gx,[(c9 n,eP.o (.fW el xs))]=kB D/\App P w u v z te.ks.length (eW xs lo hi).length news/\rC E σ w c te b ak (eW xs lo hi) D news gx:=by
  intro n xs lo hi hg LK hv;obtain⟨⟨t2,q1,q2,q3⟩,q4,q5⟩:=cg.obj n _ hg;obtain rfl:te=t2:=aJ (ht.symm.trans q1);obtain⟨t3,r1,r2,r3⟩:=yt cg hg hv;obtain rfl:te=t3:=aJ (ht.symm.trans r1);let D:az (aE×Obj):=[(n, .fW el xs)]
  have kin:∀i j,gm xs i j->(c.G n i j).nil=ak->K1 σ c D (c.G n i j).blk:=λi j hh hn=> .inr ⟨n,el,xs,_,a_.2 rfl,hg, .inr ⟨rfl,i,j,hh,hn,rfl⟩⟩;have gi:jl w (c.P n) xs (λ_ _ u x=>da E w (K1 σ c D) u x):=q4.frame (λ_=>rfl) (λi j y x u hy hx hr=>by rw[bA rfl]at hr;exact yK hr (λhl hn=>kin i j ⟨y,x,hy,hx,hl⟩ hn));have Es:oy w v (eW xs lo hi) te.ks.length (λ_ _ u x=>da E w (K1 σ c D) u x):=by have:=Mv gi hv;rwa[q2]at this
  obtain⟨news,n1,n2⟩:=rP (P:=P) (z:=z) hu ly Es r2 (λi j u x hr=>hr.one);refine⟨D,news,λ_ _=>⟨ai,0,0,0,0,0⟩,rfl,n1,r2,λh=>(by cases h),λ_=>n2,λh=>(by cases h),λh=>(by cases h),λm y hm=> ?_⟩
  rw[a_]at hm;cases hm;exact⟨LK,⟨_,hg⟩, .inr ⟨rfl,el,xs,rfl,qc ht q2 q3 gi (λhn=> .inr ⟨n,el,xs,_,a_.2 rfl,hg, .inl ⟨hn,rfl⟩⟩),q4.n,te,ht,q2⟩⟩
 cases x with
 |s s=>
  obtain⟨h1,h⟩:=cR h;obtain⟨rfl,rfl,rfl⟩:=sW h;have hk:te.ks=[.i .u8]:=by
   unfold u8s at h1;split at h1
   ·assumption
   ·cases h1
  have hv:v= .string s:=hx.1;subst hv;refine⟨[],(s.data.map λb=>Value.int .u8 b.toNat).toList,λ_ _=>⟨ai,0,0,0,0,0⟩,rfl,⟨.inl ⟨hu, ?_, ?_, ?_⟩, ?_, ?_⟩,by rw[hk];exact Kh s,λ_ i y j x hy hx=> ?_,λh=>(by cases h),λ_ i j _ hn=>(by cases hn),λ_ i j _ _ _ _ hn=>(by cases hn),λn x hn=>(by cases hn)⟩
  ·simp[pJ,mn]
  ·simp[fm,mn];apply sJ;simp
  ·simp[fm,mn];apply sJ;simp
  ·rw[hk,mn];simp
  ·intro v hv;have hv:∃b,b∈s.data/\Value.int bj (b.toNat:ax)=v:=by simpa using hv
   obtain⟨b,_,rfl⟩:=hv;rfl
  ·obtain⟨rfl,b,hb,rfl⟩:=H_ hy hx;refine⟨.int .u8 b.toNat, ?_,rfl,trivial⟩
   rw[hk];simp[hb]
 |nl=>obtain⟨rfl,rfl,rfl⟩:=sW h;have hv:v= .slice aj 0 0:=hx;subst hv;refine⟨[],[],λ_ _=>⟨ai,0,0,0,0,0⟩,rfl,⟨.inl ⟨hu,by simp[pJ],run_firstCells_none _ _ _ _ _,run_firstCells_none _ _ _ _ _⟩,by simp,λv hv=>(by cases hv)⟩,λy hy=>(by cases hy),λ_ i y j x hy=>(by simp at hy),λh=>(by cases h),λ_ i j _ hn=>(by cases hn),λ_ i j _ _ _ _ hn=>(by cases hn),λn x hn=>(by cases hn)⟩
 |sh e' xs=>obtain⟨h1,h9⟩:=cR h;have:=aW h1;subst this;have h:=h9;obtain⟨rfl,rfl,rfl⟩:=sW h;exact HP xs hx rfl
 |own n=>
  obtain⟨ob,hg,h⟩:=Rd.bind_some h;have hg:=dz hg;have hv:v=l_ (c.P n):=hx;cases ob with
  |row e' ex xs=>
   obtain⟨h1,h9⟩:=cR h;have:=aW h1;subst this;have h:=h9;have JO:(mM E (.own n)).val σ=ah (el,xs):=by simp[mM,jN,hg]
   have hvw:xC (c.P n) 0 xs.length v:=by rw[hv];exact wy cg hg
   cases hp:plain te.ks with
   |true=>rw[xE (by rw[hp];rfl)]at h;obtain⟨rfl,rfl,rfl⟩:=sW h;rw[hp];exact PLr hp xs JO
   |false=>
    cases ex with
    |false=>rw[xE (by simp)]at h;obtain⟨rfl,rfl,rfl⟩:=sW h;rw[hp];obtain⟨t3,r1,r2,r3⟩:=yt cg hg hvw;obtain rfl:te=t3:=aJ (ht.symm.trans r1);rw[qW]at r2 r3;exact SH xs (r3.imp λi y j x u _ _ hr=>by simpa using hr) r2
    |true=>
     rw[Fo (by rw[hp];rfl)]at h;cases hm:mS n b with
     |true=>rw[hm]at h;simp at h
     |false=>
      have LK:=qt hm;rw[hm]at h;cases HL:E.tk tT with
      |true=>rw[HL]at h;obtain⟨rfl,rfl,rfl⟩:=sW h;have:=FZ n xs 0 xs.length hg LK hvw;rwa[qW]at this
      |false=>
       rw[HL]at h;obtain⟨rfl,rfl,rfl⟩:=sW h;obtain⟨t3,r1,r2,r3⟩:=yt cg hg hvw;obtain rfl:te=t3:=aJ (ht.symm.trans r1);rw[qW]at r2 r3;have r3':=r3.imp (R':=λi j u x=>XC E w (c.G n) i j u x) (λi y j x u _ _ hr=>by rw[bA rfl,bX]at hr;exact hr);obtain⟨news,n1,n2⟩:=rP (P:=P) (z:=z) hu ly r3' r2 (λi j u x hr=>hr.one);refine⟨[(n, .dead)],news,c.G n,rfl,n1,r2,λ_=>n2,λh=>(by cases h),λ_ i j hh hn=>⟨n,_,a_.2 rfl,hg, .inr ⟨rfl,i,j,hh,hn,rfl⟩⟩,λ_=>((cg.obj n _ hg).inn rfl).one,λm y hm=> ?_⟩
       rw[a_]at hm;cases hm;exact⟨LK,⟨_,hg⟩, .inl rfl⟩
  |fW e' xs=>obtain⟨h1,h9⟩:=cR h;have:=aW h1;subst this;have h:=h9;obtain⟨rfl,rfl,rfl⟩:=sW h;refine HP xs ?_ (by simp[mM,jN,hg]);rw[hv];exact(cg.obj n _ hg).1
  |_=>simp at h
 |vw n lo hi=>
  obtain⟨ob,hg,h⟩:=Rd.bind_some h;have hg:=dz hg;cases ob with
  |row e' ex xs=>
   obtain⟨h1,h9⟩:=cR h;have:=aW h1;subst this;have h:=h9;have JO:(mM E (.vw n lo hi)).val σ=ah (el,eW xs lo hi):=by simp[mM,jN,hg]
   cases hp:plain te.ks with
   |true=>rw[xE (by rw[hp];rfl)]at h;obtain⟨rfl,rfl,rfl⟩:=sW h;rw[hp];exact PLr hp _ JO
   |false=>
    cases ex with
    |false=>rw[xE (by simp)]at h;obtain⟨rfl,rfl,rfl⟩:=sW h;rw[hp];obtain⟨t3,r1,r2,r3⟩:=yt cg hg hx;obtain rfl:te=t3:=aJ (ht.symm.trans r1);exact SH _ (r3.imp λi y j x u _ _ hr=>by simpa using hr) r2
    |true=>
     rw[Fo (by rw[hp];rfl)]at h;cases hm:mS n b with
     |true=>rw[hm]at h;simp at h
     |false=>
      have LK:=qt hm;rw[hm]at h;cases HL:E.tk tT with
      |true=>rw[HL]at h;obtain⟨rfl,rfl,rfl⟩:=sW h;exact FZ n xs lo hi hg LK hx
      |false=>rw[HL]at h;simp at h
  |fW e' xs=>obtain⟨h1,h9⟩:=cR h;have:=aW h1;subst this;have h:=h9;obtain⟨rfl,rfl,rfl⟩:=sW h;exact HP _ (pB cg hg hx) (by simp[mM,jN,hg])
  |_=>simp at h
 |inn n i j=>obtain⟨h1,h⟩:=cR h;obtain⟨⟨e',xs⟩,h2,h⟩:=Rd.bind_some h;obtain⟨h3,h9⟩:=cR h;have:=aW h3;subst this;have h:=h9;obtain⟨rfl,rfl,rfl⟩:=sW h;exact PLr h1 xs h2
 |_=>simp[Uw]at h
theorem Qf(hE:eA P E)(cg:Ok E σ w c)(dI:fy E σ a w c)(hd:∀d,o.dst=ah d->d<a.tmps.size){cl:Call}(ho:o.op= .call cl)(hb:cl.callee= .builtin .append)(h:(mo E nm o).val σ=ah e)(hc:e.cond=ai):gZ P E σ a w c o e.ws:=by
 simp only[mo,ho,hb]at h;split at h
 ·rename_i s x t u sD af4;obtain⟨ku,h1,h⟩:=Rd.bind_some h;obtain⟨sv,h2,h⟩:=Rd.bind_some h;obtain⟨xv,h3,h⟩:=Rd.bind_some h;obtain⟨es,_⟩:=jc dI h2;obtain⟨ex,_⟩:=jc dI h3;have sD:=DC sD;have af4:=DC af4;have exec:∀{r w'},(ix #[t,u] o.type #[a.eval s,a.eval x]).run P w= .ok r w'->(execOp a.eval o).run P w= .ok (.value r) w':=by intro r w' hr;obtain⟨cs,IG⟩:=m9 (P:=P) (a:=a) (w:=w) ho hb;rw[IG,sD,af4];simp only[builtin,DY,fw,Ce];exact i_ hr
  have APP:((∃e',P.underlying u=ah (.slice e'))\/P.underlying u=ah .string)->∀b v wl,(He E nm t sv xv).val σ=ah (b,v,wl)->b=ai->gZ P E σ a w c o (wl++dw o (.v ak [v])):=by
   intro hu b v wl h hbt;obtain⟨ti,k1,h⟩:=Rd.bind_some h;have k1:=dX k1;split at h
   ·rename_i el uH Bj;obtain⟨te,k2,h⟩:=Rd.bind_some h;have k2:=dX k2;obtain⟨zN,h⟩:=cR h;obtain⟨⟨DN,xs,bl⟩,k3,h⟩:=Rd.bind_some h;obtain⟨⟨Bf,ys,w2⟩,k4,h⟩:=Rd.bind_some h;obtain⟨_,k5,h⟩:=Rd.bind_some h;obtain⟨rfl,rfl,rfl⟩:=sW h;obtain⟨hf,jt⟩:=kO k5;have ht:=pq hE k1 uH Bj;obtain⟨inf,hi,gj,hby,ly,hz⟩:=hE.info el te k2;obtain⟨z,KH,Eu,_⟩:=hz zN;obtain⟨p,g,hB⟩:=Cs cg k2 es k3;obtain⟨D,news,gx,rfl,hA,hM⟩:=Ux (P:=P) (z:=z.cells) hE cg k2 ly hu ex k4;simp only[cw,aM,bh]at hbt;obtain⟨p',w',hr,hAd⟩:=ub (P:=P) (w:=w) (ty:=o.type) (p:=p) (x:=a.eval x) ht hi KH (by rw[Eu,hB.sz];simp) (by rw[gj,hB.sz]) (λhn=>by rw[hB.at_.n,(hB.at_.nil hn).1];rfl) (λhn=>by obtain⟨vals,m1,m2,m3,m4,_⟩:=hB.at_.mem hn;exact⟨vals,m1,m2,m3,m4⟩) (by rw[hB.sz];exact hA) (by rw[hB.at_.n,hby];exact hbt.1) (by rw[hB.at_.n];exact hbt.2);rw[<-hB.v]at hr;exact FC cg dI hd k2 hf jt hB hM hAd (exec hr)
   ·simp at h
  have ZER:∀k,P.underlying u=ah (.int k)->∀(kn:nA) (n:ax),a.eval x= .int kn n->∀b v wl,(WE E nm t sv n).val σ=ah (b,v,wl)->b=ai->gZ P E σ a w c o (wl++dw o (.v ak [v])):=by
   intro k hu kn n hxn b v wl h hbt;obtain⟨ti,k1,h⟩:=Rd.bind_some h;have k1:=dX k1;split at h
   ·rename_i el uH Bj;obtain⟨te,k2,h⟩:=Rd.bind_some h;have k2:=dX k2;obtain⟨Q_,h⟩:=cR h;simp only[aM]at Q_;obtain⟨zN,PR⟩:=Q_;obtain⟨⟨DN,xs,bl⟩,k3,h⟩:=Rd.bind_some h;obtain⟨_,k5,h⟩:=Rd.bind_some h;obtain⟨rfl,rfl,rfl⟩:=sW h;obtain⟨hf,jt⟩:=kO k5;have ht:=pq hE k1 uH Bj;obtain⟨inf,hi,gj,hby,ly,hz⟩:=hE.info el te k2;obtain⟨z,KH,Eu,_⟩:=hz zN;obtain⟨p,g,hB⟩:=Cs cg k2 es k3;simp only[cw,aM,bh]at hbt;obtain⟨⟨c0,c1,c2⟩,c3⟩:=hbt;have LP:(aP te.ks n.toNat).length=n.toNat:=by simp[aP]
    have hzc:fO z.cells n.toNat=madeCells (te.ks.map iK).toArray (n.toNat*te.ks.length):=by rw[Eu];show madeCells _ (n.toNat*(te.ks.map iK).toArray.size)=_;simp
    have hA:App P w u (a.eval x) z.cells te.ks.length (aP te.ks n.toNat).length (fO z.cells n.toNat).toList:=by
     refine⟨.inr ⟨⟨k,hu⟩,⟨kn, ?_⟩, ?_⟩, ?_,λv hv=> ?_⟩
     ·rw[hxn,LP,Int.toNat_of_nonneg c0]
     ·rw[LP]
     ·rw[LP,dS,size_zeroCells,Eu];simp
     ·rw[hzc]at hv;obtain⟨q,hq⟩:=b7 hv;have Yl:q<n.toNat*te.ks.length:=by have:=(aT.1 hq).1;simpa [size_madeCells]using this
      have h1:q/te.ks.length<n.toNat:=by rw[yN ly];exact Yl
      have h2:q%te.ks.length<te.ks.length:=DM _ ly;have:=ma (n:=n.toNat) h1 (show te.ks[q%te.ks.length]? =ah te.ks[q%te.ks.length]by simp[h2]);rw[show q/te.ks.length*te.ks.length+q%te.ks.length=q by have:=KD q te.ks.length;rw[ET]at this;exact this]at this;rw[cX,this]at hq;cases hq;cases te.ks[q%te.ks.length]<;>rfl
    have hM:rC E σ w c te bl ai (aP te.ks n.toNat) [] (fO z.cells n.toNat).toList (L3 E te.ks):=by
     refine⟨yL zN _,λ_ i y j x hy hx=> ?_,λh=>(by cases h),λ_ i j _ hn=>(by cases hn),λ_ i j _ _ _ _ hn=>(by cases hn),λn x hn=>(by cases hn)⟩
     obtain⟨gC,k,hk,rfl⟩:=uT hy hx;refine⟨iK k, ?_,O7 PR zN hk⟩
     rw[hzc,cX];exact ma gC hk
    obtain⟨p',w',hr,hAd⟩:=ub (P:=P) (w:=w) (ty:=o.type) (p:=p) (x:=a.eval x) ht hi KH (by rw[Eu,hB.sz];simp) (by rw[gj,hB.sz]) (λhn=>by rw[hB.at_.n,(hB.at_.nil hn).1];rfl) (λhn=>by obtain⟨vals,m1,m2,m3,m4,_⟩:=hB.at_.mem hn;exact⟨vals,m1,m2,m3,m4⟩) (by rw[hB.sz];exact hA) (by rw[hB.at_.n,hby,LP];exact c1) (by rw[hB.at_.n,LP];exact c2);rw[<-hB.v]at hr;have:=FC cg dI hd k2 hf jt hB hM hAd (exec hr);rw[iL]at this;exact this
   ·simp at h
  cases ku with
  |i k=>
   cases xv with
   |i k' n=>obtain⟨⟨b,v,wl⟩,h4,h⟩:=Rd.bind_some h;obtain rfl:=aJ h;exact ZER k (zQ hE h1) k' n ex b v wl h4 hc
   |_=>simp at h
  |l e'=>obtain⟨⟨b,v,wl⟩,h4,h⟩:=Rd.bind_some h;obtain rfl:=aJ h;exact APP (.inl ⟨e',kR hE h1⟩) b v wl h4 hc
  |s=>obtain⟨⟨b,v,wl⟩,h4,h⟩:=Rd.bind_some h;obtain rfl:=aJ h;exact APP (.inr (lA hE h1)) b v wl h4 hc
  |b=>simp at h
  |o=>simp at h
 ·simp at h
end
end Go.FG

namespace Go.FG
section
variable {P:cZ} {E:fT} {σ:St} {a:Act} {w:bM} {c:eZ} {o:fu} {nm:aE} {e:tc}
theorem XR:∀{xs:az AV} {cs:az CV},(S5.afl xs).val σ=ah cs->cs.length=xs.length/\∀(vals:dt bn),f_ E w c vals xs->∀(q:aE) (x:CV),cs[q]? =ah x->∃u:bn,vals[q]? =ah u/\da E w c.K u x:=by
 intro xs;induction xs with
 |nil=>intro cs h;obtain rfl:=aJ h;exact⟨rfl,λ_ _ q x hq=>by simp at hq⟩
 |cons a xs ih=>
  intro cs h;obtain⟨l,h1,h⟩:=Rd.bind_some h;obtain⟨i1,i2⟩:=ih h1;have main:∀cv,(∀u,eF E w c a u->da E w c.K u cv)->cs=cv::l->cs.length=(a::xs).length/\∀(vals:dt bn),f_ E w c vals (a::xs)->∀(q:aE) (x:CV),cs[q]? =ah x->∃u:bn,vals[q]? =ah u/\da E w c.K u x:=by
   rintro cv hcv rfl;refine⟨by simp[i1],λvals hv q x hq=> ?_⟩
   cases q with
   |zero=>cases hq;obtain⟨u,hu,ha⟩:=hv.2 0 a rfl;exact⟨u,hu,hcv u ha⟩
   |succ q=>
    have N1:f_ E w c (vals.extract 1 vals.size) xs:=by
     refine⟨by simp;have:=hv.1;simp at this;omega,λj b hj=> ?_⟩
     obtain⟨u,hu,hb⟩:=hv.2 (j+1) b hj;refine⟨u, ?_,hb⟩
     have:=(dV.1 hu).1;rw[ea,bA (by omega),jd];exact hu
    obtain⟨u,r1,r2⟩:=i2 _ N1 q x hq;refine⟨u, ?_,r2⟩
    rw[ea]at r1;split at r1
    ·rw[jd];exact r1
    ·cases r1
  cases a with
  |i k n=>exact main (.i k n) (λu hu=>by rw[show u=_ from hu];exact .i _ _) (aJ h).symm
  |b x=>exact main (.b x) (λu hu=>by rw[show u=_ from hu];exact .b _) (aJ h).symm
  |s x=>exact main (.s x) (λu hu=>by rw[show u=_ from hu.1];exact .s _ hu.2) (aJ h).symm
  |sh e xs=>exact main (.l e xs) (λu hu=>hu) (aJ h).symm
  |_=>simp at h
def aiM(E:fT)(σ:St)(w:bM)(c:eZ)(D:az (aE×Obj))(cs:az CV)(v:bn):Prop:=
 ∃n,v= .pointer (ah (ad (c.P n).blk 0))/\(((n,Obj.oe cs)∈D)\/σ (c9 n)= .o (.oe cs))
theorem XS(cg:Ok E σ w c)(dI:fy E σ a w c):∀{xs:az dy} {l:az (az CV)} {ws:az (aE×eP)},(S5 xs).val σ=ah (l,ws)->l.length=xs.length/\∃D,ws=kB D/\
  (∀n x,(n,x)∈D->∃cs ys,x= .oe cs/\σ (c9 n)= .o (.box ys)/\∀(q:aE) (y:CV),cs[q]? =ah y->∃u:bn,w.cell? (ad (c.P n).blk q)=ah u/\da E w c.K u y)/\
  ∀(q:aE) (cs:az CV),l[q]? =ah cs->∃x,xs[q]? =ah x/\aiM E σ w c D cs (a.eval x):=by
 intro xs;induction xs with
 |nil=>intro l ws h;obtain⟨rfl,rfl⟩:=bY (aJ h);exact⟨rfl,[],rfl,λn x h=>(by cases h),λq cs h=>by simp at h⟩
 |cons x xs ih=>
  intro l ws h;obtain⟨v,h1,h⟩:=Rd.bind_some h;have hv:=(jc dI h1).1;split at h
  ·rename_i n;obtain⟨ob,hg,h⟩:=Rd.bind_some h;have hg:=dz hg;have hv:a.eval x= .pointer (ah (ad (c.P n).blk 0)):=hv;cases ob with
   |box ys=>
    obtain⟨cs,h2,h⟩:=Rd.bind_some h;obtain⟨⟨l',EH⟩,h3,h⟩:=Rd.bind_some h;obtain⟨rfl,rfl⟩:=bY (aJ h);obtain⟨i1,D,rfl,i2,i3⟩:=ih h3;obtain⟨_,c2⟩:=XR (E:=E) (w:=w) (c:=c) h2;obtain⟨vals,hb,gj,hcv⟩:=cg.obj n _ hg;refine⟨by simp[i1],(n, .oe cs)::D,rfl,λm y hm=> ?_,λq cs' hq=> ?_⟩
    ·rcases cB.1 hm with hm|hm
     ·cases hm;refine⟨cs,ys,rfl,hg,λq y hq=> ?_⟩
      obtain⟨u,hu,hh⟩:=c2 vals ⟨gj,hcv⟩ q y hq;exact⟨u,(hb.cell q).trans hu,hh⟩
     ·exact i2 m y hm
    ·cases q with
     |zero=>cases hq;exact⟨x,rfl,n,hv, .inl (dv ..)⟩
     |succ q=>obtain⟨x',pL,m,e1,e2⟩:=i3 q cs' hq;exact⟨x',pL,m,e1,e2.imp (c7 _) id⟩
   |oe cs=>
    obtain⟨⟨l',EH⟩,h3,h⟩:=Rd.bind_some h;obtain⟨rfl,rfl⟩:=bY (aJ h);obtain⟨i1,D,rfl,i2,i3⟩:=ih h3;refine⟨by simp[i1],D,rfl,i2,λq cs' hq=> ?_⟩
    cases q with
    |zero=>cases hq;exact⟨x,rfl,n,hv, .inr hg⟩
    |succ q=>exact i3 q cs' hq
   |_=>simp at h
  ·simp at h
theorem J9(cg:Ok E σ w c)(dI:fy E σ a w c)(hd:∀d,o.dst=ah d->d<a.tmps.size){fn:Fn}{first iW:dt dy}(ho:o.op= .makeFunc fn first iW)(h:(mo E nm o).val σ=ah e):gZ P E σ a w c o e.ws:=by
 cases fn with
 |func f=>
  simp only[mo,ho]at h;obtain⟨h1,h⟩:=cR h;obtain⟨⟨l,ws⟩,h2,h⟩:=Rd.bind_some h;obtain rfl:=aJ h;obtain⟨hl,D,rfl,hD,PO⟩:=XS cg dI h2;have FF:first= #[]:=by simpa using h1
  let K':aE->Prop:=λb=>c.K b\/∃n x,(n,x)∈D/\b=(c.P n).blk;let c':eZ:=⟨c.P,c.G,K'⟩
  have kin:∀b,c.K b->K' b:=λb h=> .inl h;have own:∀n x,(n,x)∈D->ka (uW D) σ c (c.P n).blk:=λn x hm=>by obtain⟨cs,ys,_,hg,_⟩:=hD n x hm;exact⟨n,_,⟨x,hm⟩,hg,rfl⟩
  have fb:∀n cs,(n,Obj.oe cs)∈D->FB E w K' (c.P n).blk cs:=λn cs hm=>by obtain⟨cs',ys,hx,hg,hc⟩:=hD n _ hm;cases hx;exact⟨.inr ⟨n,_,hm,rfl⟩,λq x hq=>by obtain⟨u,hu,hh⟩:=hc q x hq;exact⟨u,hu,hh.frame (λ_ _=>rfl) kin⟩⟩
  refine Ly cg dI hd (c':=c') (w':=w) (v:= .func (.func f) #[] (iW.map a.eval)) (λm _=>⟨rfl,rfl⟩) ?_ ?_ ?_ ?_ kin ?_ ?_ (λb _ _=>rfl) (cG _) rfl rfl rfl ?_ ?_ ?_
  ·intro n x hm;obtain⟨cs,ys,rfl,hg,hc⟩:=hD n x hm;exact fb n cs hm
  ·intro n x b hm hf;obtain⟨cs,ys,rfl,_⟩:=hD n x hm;exact hf.elim
  ·intro n x n' x' b hm _ hf;obtain⟨cs,ys,rfl,_⟩:=hD n x hm;exact hf.elim
  ·intro n xs hm;obtain⟨cs,ys,hx,_⟩:=hD n _ hm;cases hx
  ·rintro b (h|⟨n,x,hm,rfl⟩)
   ·exact .inl h
   ·exact .inr (.inl (own n x hm))
  ·rintro b (h|⟨n,x,hm,rfl⟩)
   ·exact cg.lt b h
   ·exact wS.lt cg (own n x hm).own
  ·refine⟨iW.map a.eval,rfl,by simp[hl],λq cs hq=> ?_⟩
   obtain⟨x,hx,n,hv,hor⟩:=PO q cs hq;rw[cX]at hx;refine⟨(c.P n).blk,by rw[O9,hx,<-hv];rfl, ?_⟩
   rcases hor with hm|hg
   ·exact fb n cs hm
   ·exact FB.frame (cg.obj n _ hg) (λ_ _=>rfl) kin
  ·intro n hn;simp[cO,bR]at hn
  ·unfold execOp;rw[ho,FF];refine i_ (s:=WJ (.func f) ((#[]:dt dy).map a.eval) (iW.map a.eval)) ?_;simp[WJ]
 |_=>simp[mo,ho]at h
end
end Go.FG

namespace Go.FG
theorem n6:∀{l:az (aE×eP)} {k:aE} {c:eP},fM l k=c->c≠ .j9->(k,c)∈l:=by
 intro l;induction l with
 |nil=>intro k c h hc;exact cL h.symm hc
 |cons d l ih=>
  obtain⟨k',c'⟩:=d;intro k c h hc;unfold fM at h;cases hb:bF k k' with
  |true=>rw[hb]at h;have:=aW hb;subst this;have:c'=c:=h;subst this;exact dv ..
  |false=>rw[hb]at h;exact c7 _ (ih h hc)
theorem si:∀{l:az (aE×eP)} {k:aE} {c:eP},(k,c)∈l->(∀d∈l,d.2≠ .j9)->fM l k≠ .j9:=by
 intro l;induction l with
 |nil=>intro k c h;cases h
 |cons d l ih=>
  obtain⟨k',c'⟩:=d;intro k c h hn;unfold fM;cases hb:bF k k' with
  |true=>exact hn _ (dv ..)
  |false=>
   rcases cB.1 h with h|h
   ·cases h;simp at hb
   ·exact ih h (λd hd=>hn d (c7 _ hd))
theorem Qc{nm:aE}{a:AA}{k:aE}{c:eP}:(k,c)∈FJ nm a↔∃e ex xs,a= .ow e ex xs/\k=c9 nm/\c= .o (.row e ex xs):=by
 cases a with
 |ow e ex xs=>simp only[FJ,a_,jj];exact⟨λ⟨h1,h2⟩=>⟨e,ex,xs,rfl,h1,h2⟩,λ⟨e',uG,MG,h,h1,h2⟩=>by cases h;exact⟨h1,h2⟩⟩
 |_=>simp[FJ]
theorem CX:∀{xs:az AA} {nm:aE} {k:aE} {c:eP},(k,c)∈tL nm xs↔∃j e ex ys,xs[j]? =ah (.ow e ex ys)/\k=c9 (nm+j)/\c= .o (.row e ex ys):=by
 intro xs;induction xs with
 |nil=>intro nm k c;simp[tL]
 |cons a xs ih=>
  intro nm k c;simp only[tL,bf,Qc,ih];constructor
  ·rintro (⟨e,ex,ys,rfl,h1,h2⟩|⟨j,e,ex,ys,h0,h1,h2⟩)
   ·exact⟨0,e,ex,ys,rfl,h1,h2⟩
   ·exact⟨j+1,e,ex,ys,h0,by rw[h1];congr 1;omega,h2⟩
  ·rintro ⟨j,e,ex,ys,h0,h1,h2⟩;cases j with
   |zero=>cases h0;exact .inl ⟨e,ex,ys,rfl,h1,h2⟩
   |succ j=>exact .inr ⟨j,e,ex,ys,h0,by rw[h1];congr 1;omega,h2⟩
theorem iA{p:aE}{a:fa}{k:aE}{c:eP}:(k,c)∈vA p a↔(∃xs,a= .pt xs/\k=c9 (dU p 900)/\c= .o (.box (gD (dU p 0) xs)))\/∃xs j e ex ys,((∃g,a= .v g xs)\/a= .pt xs)/\xs[j]? =ah (.ow e ex ys)/\k=c9 (dU p j)/\c= .o (.row e ex ys):=by
 have hn:∀j,dU p 0+j=dU p j:=λj=>by unfold dU;omega
 cases a with
 |v g xs=>
  simp only[vA,CX,hn];constructor
  ·rintro ⟨j,e,ex,ys,h⟩;exact .inr ⟨xs,j,e,ex,ys, .inl ⟨g,rfl⟩,h⟩
  ·rintro (⟨MG,h,_⟩|⟨MG,j,e,ex,ys,h,h'⟩)
   ·cases h
   ·rcases h with ⟨g',h⟩|h<;>cases h;exact⟨j,e,ex,ys,h'⟩
 |pt xs=>
  simp only[vA,cB,CX,hn,jj];constructor
  ·rintro (⟨h1,h2⟩|⟨j,e,ex,ys,h⟩)
   ·exact .inl ⟨xs,rfl,h1,h2⟩
   ·exact .inr ⟨xs,j,e,ex,ys, .inr rfl,h⟩
  ·rintro (⟨MG,h,h1,h2⟩|⟨MG,j,e,ex,ys,h,h'⟩)
   ·cases h;exact .inl ⟨h1,h2⟩
   ·rcases h with ⟨g',h⟩|h<;>cases h;exact .inr ⟨j,e,ex,ys,h'⟩
 |fb xs=>
  simp only[vA,fQ,false_iff];rintro (⟨MG,h,_⟩|⟨MG,j,e,ex,ys,h,h'⟩)
  ·cases h
  ·rcases h with ⟨g',h⟩|h<;>cases h
theorem mb:∀{l:az fa} {q:aE} {k:aE} {c:eP},(k,c)∈LQ q l↔∃p a,l[p]? =ah a/\((k=qv (q+p)/\c= .v (tM (q+p) a))\/(k,c)∈vA (q+p) a):=by
 intro l;induction l with
 |nil=>intro q k c;simp[LQ]
 |cons a l ih=>
  intro q k c;simp only[LQ,cB,bf,ih,jj];constructor
  ·rintro ((⟨h1,h2⟩|h)|⟨p,b,h0,h⟩)
   ·exact⟨0,a,rfl, .inl ⟨h1,h2⟩⟩
   ·exact⟨0,a,rfl, .inr h⟩
   ·exact⟨p+1,b,h0,by rw[show q+(p+1)=q+1+p by omega];exact h⟩
  ·rintro ⟨p,b,h0,h⟩;cases p with
   |zero=>
    cases h0;rcases h with ⟨h1,h2⟩|h
    ·exact .inl (.inl ⟨h1,h2⟩)
    ·exact .inl (.inr h)
   |succ p=>exact .inr (⟨p,b,h0,by rw[show q+1+p=q+(p+1)by omega];exact h⟩)
theorem JR{l:az fa}{q:aE}:∀d∈LQ q l,d.2≠ .j9:=by
 rintro ⟨k,c⟩ h;obtain⟨p,a,_,h⟩:=mb.1 h;rcases h with ⟨_,h⟩|h
 ·rw[h];simp
 ·rcases iA.1 h with ⟨_,_,_,h⟩|⟨_,_,_,_,_,_,_,_,h⟩<;>rw[h]<;>simp
theorem BL{args:az fa}{m:aE}{ob:Obj}(h:inj args (c9 m)= .o ob):∃p a,args[p]? =ah a/\((∃xs,a= .pt xs/\m=dU p 900/\ob= .box (gD (dU p 0) xs))\/∃xs j e ex ys,((∃g,a= .v g xs)\/a= .pt xs)/\xs[j]? =ah (.ow e ex ys)/\m=dU p j/\ob= .row e ex ys):=by
 obtain⟨p,a,h0,h⟩:=mb.1 (n6 h (by simp));rw[bX]at h;refine⟨p,a,h0, ?_⟩
 rcases h with ⟨h,_⟩|h
 ·exact cL h (mC _ _)
 ·rcases iA.1 h with ⟨xs,h1,h2,h3⟩|⟨xs,j,e,ex,ys,h1,h2,h3,h4⟩
  ·cases h3;exact .inl ⟨xs,h1,j4 h2,rfl⟩
  ·cases h4;exact .inr ⟨xs,j,e,ex,ys,h1,h2,j4 h3,rfl⟩
theorem JT{args:az fa}{n:aE}:(∃a,args[n]? =ah a/\slot (inj args) n=tM n a)\/slot (inj args) n= .un:=by
 unfold slot;cases h:inj args (qv n)with
 |v x=>
  obtain⟨p,a,h0,h⟩:=mb.1 (n6 h (by simp));rw[bX]at h;rcases h with ⟨h1,h2⟩|h
  ·have:=Ig h1;subst this;cases h2;exact .inl ⟨a,h0,rfl⟩
  ·rcases iA.1 h with ⟨_,_,h,_⟩|⟨_,_,_,_,_,_,_,h,_⟩<;>exact cL h (se _ _)
 |o=>exact .inr rfl
 |j9=>exact .inr rfl
theorem qO{args:az fa}{p:aE}{a:fa}(h:args[p]? =ah a):(∀xs,a= .pt xs->inj args (c9 (dU p 900))≠ .j9)/\∀xs j e ex ys,((∃g,a= .v g xs)\/a= .pt xs)->xs[j]? =ah (.ow e ex ys)->inj args (c9 (dU p j))≠ .j9:=by
 constructor
 ·intro xs hx;exact si (mb.2 ⟨p,a,h, .inr (iA.2 (.inl ⟨xs,hx,by rw[bX],rfl⟩))⟩) JR
 ·intro xs j e ex ys hx hj;exact si (mb.2 ⟨p,a,h, .inr (iA.2 (.inr ⟨xs,j,e,ex,ys,hx,hj,by rw[bX],rfl⟩))⟩) JR
theorem iD:∀{xs:az AA} {nm j:aE},(gD nm xs)[j]? =(xs[j]?).map (lJ (nm+j)):=by
 intro xs;induction xs with
 |nil=>intro nm j;simp[gD]
 |cons a xs ih=>
  intro nm j;cases j with
  |zero=>rfl
  |succ j=>simp only[gD,dM,ih];congr 2;omega
theorem iT:∀{xs:az AA} {nm:aE},(gD nm xs).length=xs.length:=by
 intro xs;induction xs with
 |nil=>intro nm;rfl
 |cons a xs ih=>intro nm;simp[gD,ih]
theorem tQ{nm:aE}{a:AA}{n:aE}(h:n∈bR (lJ nm a)):n=nm/\∃e ex ys,a= .ow e ex ys:=by cases a<;>simp[lJ,bR]at h;exact⟨h,_,_,_,rfl⟩
theorem JS{args:az fa}(n:aE):mX (inj args) (slot (inj args) n):=by
 rcases JT (args:=args) (n:=n)with ⟨a,h0,h⟩|h
 ·rw[h];intro m hm;have cells:∀xs,((∃g,a= .v g xs)\/a= .pt xs)->m∈(gD (dU n 0) xs).flatMap bR->inj args (c9 m)≠ .j9:=by
   intro xs hx hm;obtain⟨v,hv,hm⟩:=bQ.1 hm;obtain⟨j,hj⟩:=b7 hv;rw[iD]at hj;cases hy:xs[j]? with
   |none=>rw[hy]at hj;cases hj
   |some y=>
    rw[hy]at hj;cases hj;obtain⟨rfl,e,ex,ys,rfl⟩:=tQ hm;have:=(qO h0).2 xs j e ex ys hx hy;have hn:dU n 0+j=dU n j:=by unfold dU;omega
    rw[hn];exact this
  cases a with
  |v g xs=>exact cells xs (.inl ⟨g,rfl⟩) hm
  |pt xs=>
   have:m=dU n 900:=by simpa [tM,cO,bR]using hm
   rw[this];exact(qO h0).1 xs rfl
  |fb xs=>simp[tM,cO,bR]at hm
 ·rw[h];intro m hm;simp[cO]at hm
theorem HM{args:az fa}{nm:aE}{xs:az AV}(h:inj args (c9 nm)= .o (.box xs)):∀a∈xs,jk (inj args) a:=by
 obtain⟨p,a,h0,hh⟩:=BL h;rcases hh with ⟨ys,rfl,_,hb⟩|⟨_,_,_,_,_,_,_,_,hb⟩
 ·cases hb;intro v hv m hm;obtain⟨j,hj⟩:=b7 hv;rw[iD]at hj;cases hy:ys[j]? with
  |none=>rw[hy]at hj;cases hj
  |some y=>
   rw[hy]at hj;cases hj;obtain⟨rfl,e,ex,zs,rfl⟩:=tQ hm;have:=(qO h0).2 ys j e ex zs (.inr rfl) hy;have hn:dU p 0+j=dU p j:=by unfold dU;omega
   rw[hn];exact this
 ·cases hb
end Go.FG

namespace Go.FG
theorem uL{p j:aE}(h:j<1000):(dU p j-900000000)/1000=p/\(dU p j-900000000)%1000=j:=by unfold dU;omega
theorem C4(p j:aE):900000000<=dU p j:=by unfold dU;omega
theorem uM{p j p' j':aE}(h:j<1000)(h':j'<1000)(e:dU p j=dU p' j'):p=p'/\j=j':=by unfold dU at e;omega
section
variable {P:cZ} {E:fT} {σ:St} {a:Act} {w:bM} {c:eZ} {o:fu} {nm:aE} {e:tc}
theorem sd(cg:Ok E σ w c){n el:aE}{ex:aU}{xs:aQ}(hg:σ (c9 n)= .o (.row el ex xs)){K:aE->Prop}(hK:∀b,c.K b->K b)(hF:∀b,fL c n (.row el ex xs) b->K b):da E w K (l_ (c.P n)) (.l el xs):=by
 obtain⟨⟨t2,q1,q2,q3⟩,q4,q5⟩:=cg.obj n _ hg;refine qc q1 q2 q3 (q4.frame (λ_=>rfl) (λi j y x u hy hx hr=> ?_)) (λhn=>hF _ (.inl ⟨hn,rfl⟩));split at hr
 ·rename_i pL;exact yK hr (λhl hn=>hF _ (.inr ⟨pL,i,j,⟨y,x,hy,hx,hl⟩,hn,rfl⟩))
 ·exact hr.frame (λ_ _=>rfl) hK
theorem Ga(cg:Ok E σ w c){n el:aE}{ex:aU}{xs:aQ}(hg:σ (c9 n)= .o (.row el ex xs)){K:aE->Prop}(hK:∀b,c.K b->K b)(hF:∀b,fL c n (.row el ex xs) b->K b){lo hi:aE}{v:bn}(hv:xC (c.P n) lo hi v):da E w K v (.l el (eW xs lo hi)):=by obtain⟨⟨t2,q1,q2,q3⟩,q4,q5⟩:=cg.obj n _ hg;exact JM q1 (sd cg hg hK hF) q4.n q2 hv
def K1r(σ:St)(c:eZ)(nP:az aE)(b:aE):Prop:=c.K b\/∃n∈nP,∃o,σ (c9 n)= .o o/\fL c n o b
def vU(T:Tab)(σ:St)(w:bM)(c:eZ)(nP:az aE)(k:Pk)(u:bn):Prop:=
 match k.src with
 | .own nm e ex=>∃xs,σ (c9 nm)= .o (.row e ex xs)/\k.a= .ow e ex xs/\u=l_ (c.P nm)
 | .no=>(∀c1:eZ,(∀b,K1r σ c nP b->c1.K b)->∀nm,eF T w c1 (lJ nm k.a) u)/\∀e ex xs,k.a≠ .ow e ex xs
theorem vU.mono{T:Tab}{nP Vs:az aE}{k:Pk}{u:bn}(h:vU T σ w c nP k u)(hs:∀n∈nP,n∈Vs):vU T σ w c Vs k u:=by
 unfold vU at h⊢;split
 ·rename_i hk;rw[hk]at h;exact h
 ·rename_i hk;rw[hk]at h;exact⟨λc1 h1=>h.1 c1 (λb hb=>h1 b (hb.imp id (λ⟨n,hn,hh⟩=>⟨n,hs n hn,hh⟩))),h.2⟩
theorem De(cg:Ok E σ w c){mt:aU}{x:AV}{k:Pk}{u:bn}(h:(AF E mt x).val σ=ah k)(hx:eF E w c x u):vU E σ w c k.rd k u:=by
 have rd:∀{n el:aE} {ex:aU} {xs:aQ},σ (c9 n)= .o (.row el ex xs)->∀c1:eZ,(∀b,K1r σ c [n] b->c1.K b)->(∀b,c.K b->c1.K b)/\∀b,fL c n (.row el ex xs) b->c1.K b:=λhg c1 h=>⟨λb hb=>h b (.inl hb),λb hb=>h b (.inr ⟨_,a_.2 rfl,_,hg,hb⟩)⟩
 cases x with
 |i=>obtain rfl:=aJ h;exact⟨λc1 _ _=>hx,λ_ _ _ hh=>by cases hh⟩
 |b=>obtain rfl:=aJ h;exact⟨λc1 _ _=>hx,λ_ _ _ hh=>by cases hh⟩
 |s=>obtain rfl:=aJ h;exact⟨λc1 _ _=>hx,λ_ _ _ hh=>by cases hh⟩
 |nl=>obtain rfl:=aJ h;exact⟨λc1 _ _=>hx,λ_ _ _ hh=>by cases hh⟩
 |sh e xs=>obtain rfl:=aJ h;exact⟨λc1 h1 _=>da.frame hx (λ_ _=>rfl) (λb hb=>h1 b (.inl hb)),λ_ _ _ hh=>by cases hh⟩
 |fn f iW=>obtain rfl:=aJ h;exact⟨λc1 h1 _=>eF.frame (a:= .fn f iW) hx (λ_ _=>rfl) (λb hb=>h1 b (.inl hb)) (λn hn=>by simp[bR]at hn),λ_ _ _ hh=>by cases hh⟩
 |own n=>
  obtain⟨ob,hg,h⟩:=Rd.bind_some h;have hg:=dz hg;have hx:u=l_ (c.P n):=hx;cases ob with
  |row el ex xs=>
   cases mt with
   |true=>obtain rfl:=aJ h;exact⟨xs,hg,rfl,hx⟩
   |false=>
    obtain rfl:=aJ h;refine⟨λc1 h1 _=> ?_,λ_ _ _ hh=>by cases hh⟩
    obtain⟨r1,r2⟩:=rd hg c1 h1;rw[hx];exact sd cg hg r1 r2
  |fW el xs=>
   obtain rfl:=aJ h;refine⟨λc1 h1 _=> ?_,λ_ _ _ hh=>by cases hh⟩
   rw[hx];exact da.frame (cg.obj n _ hg).1 (λ_ _=>rfl) (λb hb=>h1 b (.inl hb))
  |_=>simp at h
 |vw n lo hi=>
  cases mt with
  |true=>simp[AF]at h
  |false=>
  obtain⟨ob,hg,h⟩:=Rd.bind_some h;have hg:=dz hg;cases ob with
  |row el ex xs=>
   obtain rfl:=aJ h;refine⟨λc1 h1 _=> ?_,λ_ _ _ hh=>by cases hh⟩
   obtain⟨r1,r2⟩:=rd hg c1 h1;exact Ga cg hg r1 r2 hx
  |fW el xs=>
   obtain rfl:=aJ h;refine⟨λc1 h1 _=> ?_,λ_ _ _ hh=>by cases hh⟩
   exact da.frame (pB cg hg hx) (λ_ _=>rfl) (λb hb=>h1 b (.inl hb))
  |_=>simp at h
 |inn n i j=>
  obtain⟨ob,hg,h⟩:=Rd.bind_some h;have hg:=dz hg;cases ob with
  |row el ex xs=>
   cases ex with
   |false=>simp at h
   |true=>
   obtain⟨te,ht,h⟩:=Rd.bind_some h;have ht:=dX ht;split at h
   ·rename_i e2 Az;obtain⟨t2,HK,h⟩:=Rd.bind_some h;obtain⟨_,h⟩:=cR h;obtain rfl:=aJ h;obtain⟨⟨hi,hx⟩,_⟩:=hx;obtain⟨zs,y,t3,q1,q2,q3,q4,q5,q6,q7,q8⟩:=BM cg hg ht Az hi;refine⟨λc1 h1 _=> ?_,λ_ _ _ hh=>by cases hh⟩
    show da E w c1.K u (.l e2 (iX (ar xs i j)));rw[fC q1 q2,hx];obtain⟨r1,r2⟩:=rd hg c1 h1;exact qc q3 q5 q6 (q7.frame (λ_=>rfl) (λi' j' y' x' u' hy' pL hr=>kV (iv q4 (q6 y' (aR hy')) pL) hr)) (λhn=>r2 _ (.inr ⟨rfl,i,j,⟨y,_,q1,q2,rfl⟩,hn,rfl⟩))
   ·simp at h
  |_=>simp at h
 |_=>simp[AF]at h
theorem FW(cg:Ok E σ w c){mt:aU}:∀{xs:az AV} {l:az Pk},(Df E mt xs).val σ=ah l->l.length=xs.length/\∀(j:aE) (k:Pk),l[j]? =ah k->∃x,xs[j]? =ah x/\(AF E mt x).val σ=ah k:=by
 intro xs;induction xs with
 |nil=>intro l h;obtain rfl:=aJ h;exact⟨rfl,λj k h=>by simp at h⟩
 |cons x xs ih=>
  intro l h;obtain⟨k,h1,h⟩:=Rd.bind_some h;obtain⟨l',h2,h⟩:=Rd.bind_some h;obtain rfl:=aJ h;obtain⟨i1,i2⟩:=ih h2;refine⟨by simp[i1],λj k' hj=> ?_⟩
  cases j with
  |zero=>cases hj;exact⟨x,rfl,h1⟩
  |succ j=>exact i2 j k' hj
structure AY (T:Tab) (σ:St) (w:bM) (c:eZ) (nP:az aE) (pa:Pa) (v:bn):Prop where
 len:pa.cs.length<=100
 val:pa.box=aj->∃agg,pa.arg= .v agg (pa.cs.map (·.a))/\((agg=ak/\∃k,pa.cs=[k]/\vU T σ w c nP k v)\/(agg=ai/\∃vals:dt bn,v= .agg vals/\vals.size=pa.cs.length/\∀(j:aE) (k:Pk),pa.cs[j]? =ah k->∃u:bn,vals[j]? =ah u/\vU T σ w c nP k u))
 box:∀n xs,pa.box=ah (n,xs)->pa.arg= .pt (pa.cs.map (·.a))/\v= .pointer (ah (ad (c.P n).blk 0))/\σ (c9 n)= .o (.box xs)/\pa.cs.length=xs.length/\
  (∃vals,n8 w (c.P n).blk vals/\vals.size=xs.length/\∀(j:aE) (k:Pk),pa.cs[j]? =ah k->∃u:bn,vals[j]? =ah u/\vU T σ w c nP k u)/\
  ∀(j:aE) (k:Pk) (nm e:aE) (ex:aU),pa.cs[j]? =ah k->k.src= .own nm e ex->xs[j]? =ah (.own nm)
theorem HV{pa:Pa}{j:aE}{k:Pk}(h:pa.cs[j]? =ah k):∀n∈k.rd,n∈pa.nP:=λn hn=>bQ.2 ⟨k,aR h,hn⟩
theorem Ql{mt:aU}{x:AV}{k:Pk}(h:(AF E mt x).val σ=ah k){nm e:aE}{ex:aU}(hs:k.src= .own nm e ex):x= .own nm:=by
 cases x with
 |own n=>
  obtain⟨ob,hg,h⟩:=Rd.bind_some h;cases ob with
  |row el uG xs=>
   cases mt with
   |true=>obtain rfl:=aJ h;cases hs;rfl
   |false=>obtain rfl:=aJ h;cases hs
  |fW el xs=>obtain rfl:=aJ h;cases hs
  |_=>simp at h
 |vw n lo hi=>
  cases mt with
  |true=>simp[AF]at h
  |false=>
  obtain⟨ob,hg,h⟩:=Rd.bind_some h;cases ob with
  |row=>obtain rfl:=aJ h;cases hs
  |fW=>obtain rfl:=aJ h;cases hs
  |_=>simp at h
 |inn n i j=>
  obtain⟨ob,hg,h⟩:=Rd.bind_some h;cases ob with
  |row el ex xs=>
   cases ex with
   |false=>simp at h
   |true=>
   obtain⟨te,ht,h⟩:=Rd.bind_some h;split at h
   ·obtain⟨t2,HK,h⟩:=Rd.bind_some h;obtain⟨_,h⟩:=cR h;obtain rfl:=aJ h;cases hs
   ·simp at h
  |_=>simp at h
 |i=>obtain rfl:=aJ h;cases hs
 |b=>obtain rfl:=aJ h;cases hs
 |s=>obtain rfl:=aJ h;cases hs
 |nl=>obtain rfl:=aJ h;cases hs
 |sh=>obtain rfl:=aJ h;cases hs
 |fn=>obtain rfl:=aJ h;cases hs
 |_=>simp[AF]at h
theorem XL(cg:Ok E σ w c){mt:aU}{x:SV}{pa:Pa}{v:bn}(h:(afe E mt x).val σ=ah pa)(hl:pa.cs.length<=100)(hx:jm E w c x v):AY E σ w c pa.nP pa v:=by
 have gen:∀agg xs,x= .v agg xs->((Df E mt xs).bind λl=>Rd.ret (⟨.v agg (l.map (·.a)),aj,l⟩:Pa)).val σ=ah pa->AY E σ w c pa.nP pa v:=by
  rintro agg xs rfl h;obtain⟨l,h1,h⟩:=Rd.bind_some h;obtain rfl:=aJ h;obtain⟨i1,i2⟩:=FW cg h1;refine⟨hl,λ_=>⟨agg,rfl, ?_⟩,λn ys hb=>by cases hb⟩
  replace hx:qo E w c agg xs v:=hx;unfold qo at hx;split at hx
  ·rename_i y;left;obtain⟨k,rfl⟩:=g6.1 (i1.trans rfl);obtain⟨y',hy,hk⟩:=i2 0 k rfl;cases hy;exact⟨rfl,k,rfl,(De cg hk hx).mono (HV (j:=0) (pa:=⟨.v ak ([k].map (·.a)),aj,[k]⟩) rfl)⟩
  ·obtain⟨vals,rfl,hs,hv⟩:=hx;right;refine⟨rfl,vals,rfl,by rw[hs];exact i1.symm,λj k hj=> ?_⟩
   obtain⟨y,hy,hk⟩:=i2 j k hj;obtain⟨u,hu,ha⟩:=hv j y hy;exact⟨u,hu,(De cg hk ha).mono (HV (j:=j) (pa:=⟨.v ai (l.map (·.a)),aj,l⟩) hj)⟩
  ·exact hx.elim
 unfold afe at h;split at h
 ·rename_i n;obtain⟨_,h⟩:=cR h;obtain⟨ob,hg,h⟩:=Rd.bind_some h;have hg:=dz hg;cases ob with
  |box xs=>
   obtain⟨l,h1,h⟩:=Rd.bind_some h;obtain rfl:=aJ h;obtain⟨i1,i2⟩:=FW cg h1;obtain⟨vals,hb,hs,hv⟩:=cg.obj n _ hg;refine⟨hl,λhb=>(by cases hb),λm ys Q9=> ?_⟩
   cases Q9;refine⟨rfl,hx,hg,i1,⟨vals,hb,hs,λj k hj=> ?_⟩,λj k nm e ex hj Es=> ?_⟩
   ·obtain⟨y,hy,hk⟩:=i2 j k hj;obtain⟨u,hu,ha⟩:=hv j y hy;exact⟨u,hu,(De cg hk ha).mono (HV (j:=j) (pa:=⟨.pt (l.map (·.a)),ah (n,xs),l⟩) hj)⟩
   ·obtain⟨y,hy,hk⟩:=i2 j k hj;rw[hy,Ql hk Es]
  |_=>simp at h
 ·rename_i agg xs _;exact gen _ _ rfl h
 ·simp at h
theorem Od{T:Tab}{k:Ck}{y:AV}{u:bn}(h:eF T w c y u):eF T w c (ZM k y) u:=by
 unfold ZM;split
 ·rename_i e;have:u= .slice aj 0 0:=h;subst this;exact .nl _ _ _
 ·exact h
theorem J5:∀(ks:az Ck) (xs:az AV),(C3 ks xs).length=xs.length
 |[],[]=>rfl
 |[],_::_=>rfl
 |_::_,[]=>rfl
 |k::ks,y::r=>by simp[C3,J5 ks r]
theorem Oe{T:Tab}:∀(ks:az Ck) (xs:az AV) (j:aE) (y:AV),(C3 ks xs)[j]? =ah y->∃z,xs[j]? =ah z/\∀u,eF T w c z u->eF T w c y u
 |[],xs,j,y,h=>⟨y,by simpa [C3]using h,λ_ h=>h⟩
 |_::_,[],j,y,h=>by simp[C3]at h
 |k::ks,x::r,0,y,h=>by
  simp only[C3,sL,jC]at h;subst h;exact⟨x,rfl,λu hu=>Od hu⟩
 |k::ks,x::r,j+1,y,h=>by simp only[C3,dM]at h;exact Oe ks r j y h
theorem ag1{T:Tab}{t:aA aE}{s:SV}{v:bn}(h:jm T w c s v):jm T w c (nlz T t s) v:=by
 unfold nlz;split
 ·exact h
 ·split
  ·rename_i ti g xs _;have h:qo T w c g xs v:=h;show qo T w c g (C3 ti.ks xs) v;unfold qo at h;split at h
   ·rename_i y;cases hk:ti.ks with
    |nil=>exact h
    |cons k ks=>
     have e:∀z,C3 (k::ks) [z]=[ZM k z]:=λz=>by cases ks<;>rfl
     rw[e];exact Od h
   ·obtain⟨vals,h1,h2,h3⟩:=h;refine⟨vals,h1,by rw[J5];exact h2,λj y hj=> ?_⟩
    obtain⟨z,hz,hy⟩:=Oe (T:=T) (w:=w) (c:=c) ti.ks _ j y hj;obtain⟨u,hu,ha⟩:=h3 j z hz;exact⟨u,hu,hy u ha⟩
   ·cases h
  ·exact h
theorem SX(cg:Ok E σ w c)(dI:fy E σ a w c){f:aE}{Rg:aA (az aE)}:∀{xs:az dy} {p:aE} {ps:az Pa},(SW E f Rg p xs).val σ=ah ps->ps.length=xs.length/\∀(q:aE) (pa:Pa),ps[q]? =ah pa->∃x,xs[q]? =ah x/\AY E σ w c pa.nP pa (a.eval x):=by
 intro xs;induction xs with
 |nil=>intro p ps h;obtain rfl:=aJ h;exact⟨rfl,λq pa h=>by simp at h⟩
 |cons x xs ih=>
  intro p ps h;obtain⟨v,h1,h⟩:=Rd.bind_some h;obtain⟨pa,h2,h⟩:=Rd.bind_some h;obtain⟨hl,h⟩:=cR h;obtain⟨l,h3,h⟩:=Rd.bind_some h;obtain rfl:=aJ h;obtain⟨i1,i2⟩:=ih h3;refine⟨by simp[i1],λq pa' hq=> ?_⟩
  cases q with
  |zero=>
   cases hq;refine⟨x,rfl,XL cg h2 (cM hl) ?_⟩
   cases E.mode f p with
   |true=>exact(mD dI h1).1
   |false=>exact ag1 (mD dI h1).1
  |succ q=>exact i2 q pa' hq
theorem AY.mono{T:Tab}{nP Vs:az aE}{pa:Pa}{v:bn}(h:AY T σ w c nP pa v)(hs:∀n∈nP,n∈Vs):AY T σ w c Vs pa v:=by
 refine⟨h.len,λhb=> ?_,λn xs hb=> ?_⟩
 ·obtain⟨agg,h1,h2⟩:=h.val hb;refine⟨agg,h1, ?_⟩
  rcases h2 with ⟨h3,k,h4,h5⟩|⟨h3,vals,h4,h5,h6⟩
  ·exact .inl ⟨h3,k,h4,h5.mono hs⟩
  ·exact .inr ⟨h3,vals,h4,h5,λj k hj=>by obtain⟨u,hu,hk⟩:=h6 j k hj;exact⟨u,hu,hk.mono hs⟩⟩
 ·obtain⟨h1,h2,h3,h4,⟨vals,h5,h6,h7⟩,h8⟩:=h.box n xs hb;exact⟨h1,h2,h3,h4,⟨vals,h5,h6,λj k hj=>by obtain⟨u,hu,hk⟩:=h7 j k hj;exact⟨u,hu,hk.mono hs⟩⟩,h8⟩
end
end Go.FG

namespace Go.FG
theorem mc{α:Type}{f:α->az aE}:∀{l:az α},(l.flatMap f).Nodup->(∀(i j:aE) (x y:α) (z:aE),l[i]? =ah x->l[j]? =ah y->z∈f x->z∈f y->i=j)/\∀x∈l,(f x).Nodup:=by
 intro l;induction l with
 |nil=>intro _;exact⟨λi j x y z h=>by simp at h,λx h=>by cases h⟩
 |cons a l ih=>
  intro h;rw[yX]at h;obtain⟨h1,h2,h3⟩:=eM.1 h;obtain⟨i1,i2⟩:=ih h2;refine⟨λi j x y z hi hj hx hy=> ?_,λx hx=> ?_⟩
  ·cases i with
   |zero=>
    cases hi;cases j with
    |zero=>rfl
    |succ j=>exact cL rfl (h3 z hx z (bQ.2 ⟨y,aR hj,hy⟩))
   |succ i=>
    cases j with
    |zero=>cases hj;exact cL rfl (h3 z hy z (bQ.2 ⟨x,aR hi,hx⟩))
    |succ j=>rw[i1 i j x y z hi hj hx hy]
  ·rcases cB.1 hx with rfl|hx
   ·exact h1
   ·exact i2 x hx
def loc(ps:az Pa)(m:aE):aA aE:=
 match ps[(m-900000000)/1000]? with
 |none=>aj
 |some pa=>if(m-900000000)%1000=900 then pa.box.map (·.1)else(pa.cs[(m-900000000)%1000]?).bind λk=>match k.src with| .own nm _ _=>ah nm| .no=>aj
theorem HS{ps:az Pa}{p j:aE}{pa:Pa}{k:Pk}{nm e:aE}{ex:aU}(hp:ps[p]? =ah pa)(hj:pa.cs[j]? =ah k)(hs:k.src= .own nm e ex)(hl:j<900):loc ps (dU p j)=ah nm:=by obtain⟨h1,h2⟩:=uL (p:=p) (j:=j) (by omega);unfold loc;rw[h1,h2,hp];simp only;rw[bJ (by omega),hj];simp only[Option.bind_some,hs]
theorem BN{ps:az Pa}{p n:aE}{pa:Pa}{xs:az AV}(hp:ps[p]? =ah pa)(hb:pa.box=ah (n,xs)):loc ps (dU p 900)=ah n:=by obtain⟨h1,h2⟩:=uL (p:=p) (j:=900) (by omega);unfold loc;rw[h1,h2,hp];simp[hb]
def qM(σ:St)(c:eZ)(ps:az Pa):eZ:=
 ⟨λm=>match loc ps m with|some n=>c.P n|none=>⟨ai,0,0,0,0,0⟩,λm=>match loc ps m with|some n=>c.G n|none=>λ_ _=>⟨ai,0,0,0,0,0⟩,K1r σ c (ps.flatMap (·.nP))⟩
theorem uE{σ:St}{c:eZ}{ps:az Pa}{m n:aE}(h:loc ps m=ah n):(qM σ c ps).P m=c.P n/\(qM σ c ps).G m=c.G n:=by unfold qM;simp only[h];exact⟨trivial,trivial⟩
section
variable {P:cZ} {E:fT} {σ:St} {a:Act} {w:bM} {c:eZ} {o:fu} {nm:aE} {e:tc}
structure Handed (T:Tab) (σ:St) (w:bM) (c:eZ) (ps:az Pa) (BG:az (az CV)) (vs:dt bn):Prop where
 size:vs.size=ps.length+BG.length
 at_:∀(q:aE) (pa:Pa),ps[q]? =ah pa->∃v,vs[q]? =ah v/\AY T σ w c (ps.flatMap (·.nP)) pa v
 fb:∀(q:aE) (cs:az CV),BG[q]? =ah cs->∃b,vs[ps.length+q]? =ah (.pointer (ah (ad b 0)))/\FB T w c.K b cs
 nd:(ps.flatMap (·.uK)).Nodup
 ap:∀n∈ps.flatMap (·.uK),n∉ps.flatMap (·.nP)
def jM(ps:az Pa)(BG:az (az CV)):az fa:=ps.map (·.arg)++BG.map fa.fb
theorem wc{ps:az Pa}{BG:az (az CV)}{p:aE}{x:fa}(h:(jM ps BG)[p]? =ah x):(∃pa,ps[p]? =ah pa/\x=pa.arg)\/(ps.length<=p/\∃cs,BG[p-ps.length]? =ah cs/\x= .fb cs):=by
 unfold jM at h;by_cases hp:p<ps.length
 ·rw[dF (by simpa using hp),bL]at h;cases hq:ps[p]? with
  |none=>rw[hq]at h;cases h
  |some pa=>rw[hq]at h;cases h;exact .inl ⟨pa,rfl,rfl⟩
 ·rw[db (by simp;omega),bL,bV]at h;cases hq:BG[p-ps.length]? with
  |none=>rw[hq]at h;cases h
  |some cs=>rw[hq]at h;cases h;exact .inr ⟨by omega,cs,rfl,rfl⟩
theorem Vh{T:Tab}{ps:az Pa}{p j:aE}{pa:Pa}{k:Pk}{u:bn}(hp:ps[p]? =ah pa)(hj:pa.cs[j]? =ah k)(hl:j<900)(h:vU T σ w c (ps.flatMap (·.nP)) k u):eF T w (qM σ c ps) (lJ (dU p j) k.a) u:=by
 unfold vU at h;split at h
 ·rename_i n e ex hs;obtain⟨xs,h1,h2,h3⟩:=h;rw[h2];show u=l_ ((qM σ c ps).P (dU p j));rw[(uE (HS hp hj hs hl)).1];exact h3
 ·exact h.1 _ (λb hb=>hb) _
theorem Vf{T:Tab}{nP:az aE}{pa:Pa}{v:bn}(h:AY T σ w c nP pa v){xs:az AA}(hx:(∃g,pa.arg= .v g xs)\/pa.arg= .pt xs):xs=pa.cs.map (·.a)/\∀(j:aE) (k:Pk),pa.cs[j]? =ah k->∃u,vU T σ w c nP k u:=by
 cases hb:pa.box with
 |none=>
  obtain⟨agg,h1,h2⟩:=h.val hb;rw[h1]at hx;have:xs=pa.cs.map (·.a):=by rcases hx with ⟨g,hx⟩|hx<;>cases hx;rfl
  refine⟨this,λj k hj=> ?_⟩
  rcases h2 with ⟨_,k',hk,hp⟩|⟨_,vals,_,_,hp⟩
  ·rw[hk]at hj;cases j with
   |zero=>cases hj;exact⟨_,hp⟩
   |succ j=>simp at hj
  ·obtain⟨u,_,hu⟩:=hp j k hj;exact⟨u,hu⟩
 |some nx=>
  obtain⟨n,ys⟩:=nx;obtain⟨h1,_,_,_,⟨vals,_,_,hp⟩,_⟩:=h.box n ys hb;rw[h1]at hx;have:xs=pa.cs.map (·.a):=by rcases hx with ⟨g,hx⟩|hx<;>cases hx;rfl
  exact⟨this,λj k hj=>by obtain⟨u,_,hu⟩:=hp j k hj;exact⟨u,hu⟩⟩
theorem xU(cg:Ok E σ w c){ps:az Pa}{BG:az (az CV)}{vs:dt bn}(hh:Handed E σ w c ps BG vs){m:aE}{ob:Obj}(h:inj (jM ps BG) (c9 m)= .o ob):
  ∃n o p pa,loc ps m=ah n/\ps[p]? =ah pa/\n∈pa.uK/\σ (c9 n)= .o o/\pU E w (qM σ c ps) m ob/\(∀b,fL (qM σ c ps) m ob b->fL c n o b)/\
   ((m=dU p 900/\∃xs,pa.box=ah (n,xs))\/∃j k e ex,m=dU p j/\j<900/\pa.cs[j]? =ah k/\k.src= .own n e ex):=by
 obtain⟨p,x,h0,h⟩:=BL h;have awx:∀cs xs,x= .fb cs->¬((∃g,x= .v g xs)\/x= .pt xs):=by rintro cs xs rfl (⟨g,h⟩|h)<;>cases h
 rcases wc h0 with ⟨pa,hp,rfl⟩|⟨_,cs,_,hx⟩
 ·obtain⟨v,hv,LL⟩:=hh.at_ p pa hp;rcases h with ⟨xs,hx,rfl,rfl⟩|⟨xs,j,e,ex,ys,hx,hj,rfl,rfl⟩
  ·cases hb:pa.box with
   |none=>obtain⟨agg,h1,_⟩:=LL.val hb;rw[h1]at hx;cases hx
   |some nx=>
    obtain⟨n,zs⟩:=nx;obtain⟨h1,h2,h3,h4,⟨vals,h5,h6,h7⟩,_⟩:=LL.box n zs hb;rw[h1]at hx;cases hx;have TA:=BN hp hb;obtain⟨e1,e2⟩:=uE (σ:=σ) (c:=c) TA;refine⟨n,_,p,pa,TA,hp,by simp[Pa.uK,hb],h3, ?_,λb hf=>by rw[show b=_ from hf,e1];rfl, .inl ⟨rfl,zs,hb⟩⟩
    refine⟨vals,by rw[e1];exact h5,by rw[iT,bV,h6];exact h4.symm,λj y hj=> ?_⟩
    rw[iD,bL]at hj;cases hk:pa.cs[j]? with
    |none=>rw[hk]at hj;cases hj
    |some k=>
     rw[hk]at hj;cases hj;obtain⟨u,hu,Yj⟩:=h7 j k hk;have j8:j<900:=by have:=(aT.1 hk).1;have:=LL.len;omega
     refine⟨u,hu, ?_⟩
     have hn:dU p 0+j=dU p j:=by unfold dU;omega
     rw[hn];exact Vh hp hk j8 Yj
  ·obtain⟨hxs,Yj⟩:=Vf LL hx;rw[hxs,bL]at hj;cases hk:pa.cs[j]? with
   |none=>rw[hk]at hj;cases hj
   |some k=>
    rw[hk]at hj;have hka:k.a= .ow e ex ys:=by simpa using hj
    obtain⟨u,hu⟩:=Yj j k hk;have j8:j<900:=by have:=(aT.1 hk).1;have:=LL.len;omega
    unfold vU at hu;split at hu
    ·rename_i n e' uG hs;obtain⟨zs,q1,q2,q3⟩:=hu;rw[hka]at q2;cases q2;have TA:=HS hp hk hs j8;obtain⟨e1,e2⟩:=uE (σ:=σ) (c:=c) TA;refine⟨n,_,p,pa,TA,hp, ?_,q1, ?_,λb hf=>by rw[mA (c:=⟨λ_=>c.P n,λ_=>c.G n,c.K⟩) (c':=qM σ c ps) ⟨e1,e2⟩]at hf;exact hf, .inr ⟨j,k,e,ex,rfl,j8,hk,hs⟩⟩
     ·refine bO _ (bQ.2 ⟨k,aR hk, ?_⟩);simp[Pk.uK,hs]
     ·have na:=cg.obj n _ q1;obtain⟨⟨t2,r1,r2,r3⟩,r4,r5⟩:=na;refine⟨⟨t2,r1,by rw[e1];exact r2,r3⟩, ?_,λhx=>by rw[e1,e2];exact r5 hx⟩
      rw[e1,e2];refine r4.frame (λ_=>rfl) (λi j y x u hy hx hr=> ?_);split at hr
      ·rename_i pL;rw[bA pL];exact hr
      ·rename_i pL;rw[bJ pL];exact hr.frame (λ_ _=>rfl) (λb hb=> .inl hb)
    ·exact cL hka (hu.2 _ _ _)
 ·rcases h with ⟨xs,h,_⟩|⟨xs,j,e,ex,ys,h,_⟩
  ·rw[hx]at h;cases h
  ·exact cL h (awx cs xs hx)
theorem enter(cg:Ok E σ w c){ps:az Pa}{BG:az (az CV)}{vs:dt bn}(hh:Handed E σ w c ps BG vs):
  Ok E (inj (jM ps BG)) w (qM σ c ps)/\(∀(p:aE) (x:fa),(jM ps BG)[p]? =ah x->∃v,vs[p]? =ah v/\jm E w (qM σ c ps) (tM p x) v)/\
  ∀b,wS (inj (jM ps BG)) (qM σ c ps) b->∃n∈ps.flatMap (·.uK),∃o,σ (c9 n)= .o o/\fL c n o b:=by
 have J4:∀{p:aE} {pa:Pa} {n:aE},ps[p]? =ah pa->n∈pa.uK->n∈ps.flatMap (·.uK):=λhp hn=>bQ.2 ⟨_,aR hp,hn⟩;obtain⟨nd1,nd2⟩:=mc hh.nd;refine⟨⟨λm ob h=> ?_,λm ob m' ob' b h h' hf vt=> ?_,λm ob b h hf hk=> ?_,λb hb=> ?_,λm xs h=>HM h⟩,λp x hx=> ?_, ?_⟩
 ·obtain⟨n,o,p,pa,_,_,_,_,h,_⟩:=xU cg hh h;exact h
 ·obtain⟨n,o,p,pa,_,hp,hn,ho,_,pZ,ly⟩:=xU cg hh h;obtain⟨n',o',p',pa',_,mR,kP,vx,_,Ty,abN⟩:=xU cg hh h';have:=cg.sep n o n' o' b ho vx (pZ b hf) (Ty b vt);subst this;have:=nd1 p p' pa pa' n hp mR hn kP;subst this;rw[hp]at mR;cases mR;have ndm:=nd2 pa (aR hp);unfold Pa.uK at ndm;obtain⟨_,m2,m3⟩:=eM.1 ndm;have aks:∀(j:aE) (k:Pk) (e:aE) (ex:aU),pa.cs[j]? =ah k->k.src= .own n e ex->n∈pa.cs.flatMap (·.uK):=λj k e ex hk hs=>bQ.2 ⟨k,aR hk,by simp[Pk.uK,hs]⟩;rcases ly with ⟨rfl,xs,hb⟩|⟨j,k,e,ex,rfl,hj,hk,hs⟩
  ·rcases abN with ⟨rfl,_⟩|⟨j',k',e',uG,rfl,KG,vv,hs'⟩
   ·rfl
   ·exact cL rfl (m3 n (by simp[hb]) n (aks _ _ _ _ vv hs'))
  ·rcases abN with ⟨rfl,xs,hb⟩|⟨j',k',e',uG,rfl,KG,vv,hs'⟩
   ·exact cL rfl (m3 n (by simp[hb]) n (aks _ _ _ _ hk hs))
   ·have:=(mc m2).1 j j' k k' n hk vv (by simp[Pk.uK,hs]) (by simp[Pk.uK,hs']);rw[this]
 ·obtain⟨n,o,p,pa,_,hp,hn,ho,_,pZ,_⟩:=xU cg hh h;rcases hk with hk|⟨n',kP,o',vx,vt⟩
  ·exact cg.kk n o b ho (pZ b hf) hk
  ·have:=cg.sep n o n' o' b ho vx (pZ b hf) vt;subst this;exact hh.ap n (J4 hp hn) kP
 ·rcases hb with hb|⟨n',kP,o',vx,vt⟩
  ·exact cg.lt b hb
  ·exact wS.lt cg ⟨n',o',vx,vt⟩
 ·rcases wc hx with ⟨pa,hp,rfl⟩|⟨hle,cs,IG,rfl⟩
  ·obtain⟨v,hv,LL⟩:=hh.at_ p pa hp;refine⟨v,hv, ?_⟩
   have small:∀{j:aE} {k:Pk},pa.cs[j]? =ah k->j<900:=λhj=>by have:=(aT.1 hj).1;have:=LL.len;omega
   cases hb:pa.box with
   |none=>
    obtain⟨agg,h1,h2⟩:=LL.val hb;rw[h1];rcases h2 with ⟨rfl,k,hk,Yj⟩|⟨rfl,vals,rfl,hs,hc⟩
    ·rw[hk];have:=Vh (j:=0) hp (by rw[hk];rfl) (by omega) Yj;exact this
    ·refine⟨vals,rfl,by rw[iT,bV];exact hs,λj y hj=> ?_⟩
     rw[iD,bL]at hj;cases hk:pa.cs[j]? with
     |none=>rw[hk]at hj;cases hj
     |some k=>
      rw[hk]at hj;cases hj;obtain⟨u,hu,Yj⟩:=hc j k hk;refine⟨u,hu, ?_⟩
      have hn:dU p 0+j=dU p j:=by unfold dU;omega
      rw[hn];exact Vh hp hk (small hk) Yj
   |some nx=>obtain⟨n,zs⟩:=nx;obtain⟨h1,h2,_⟩:=LL.box n zs hb;rw[h1];show v= .pointer (ah (ad ((qM σ c ps).P (dU p 900)).blk 0));rw[(uE (BN hp hb)).1];exact h2
  ·obtain⟨b,hv,hf⟩:=hh.fb (p-ps.length) cs IG;rw[show ps.length+(p-ps.length)=p by omega]at hv;exact⟨_,hv,b,rfl,hf.frame (λ_ _=>rfl) (λb hb=> .inl hb)⟩
 ·rintro b ⟨m,ob,h,hf⟩;obtain⟨n,o,p,pa,_,hp,hn,ho,_,pZ,_⟩:=xU cg hh h;exact⟨n,J4 hp hn,o,ho,pZ b hf⟩
end
end Go.FG

namespace Go.FG
def tX(p j:aE)(a:AA):AV:=match a with| .kp _=> .own (dU p j)|a=>lJ (dU p (100+j)) a
def oi(p:aE):aE->az AA->az AV
 |_,[]=>[]|j,a::r=>tX p j a::oi p (j+1) r
def Kd(p j:aE)(a b:AA):az (aE×eP):=
 match b with
 | .kp ys=>(match a with| .ow e ex _=>[(c9 (dU p j), .o (.row e ex ys))]|_=>[])
 | .ow e ex ys=>[(c9 (dU p (100+j)), .o (.row e ex ys))]
 |_=>[]
def tY(p:aE):aE->az AA->az AA->az (aE×eP)
 |_,_,[]=>[]|j,as,b::r=>Kd p j (as.headD .nl) b++tY p (j+1) as.tail r
def Db(p:aE)(a:fa)(l:az AA):az (aE×eP):=
 match a with
 | .v _ xs=>tY p 0 xs l
 | .pt xs=>(c9 (dU p 900), .o (.box (oi p 0 l)))::tY p 0 xs l
 | .fb _=>[]
def Md:aE->az fa->az (az AA)->az (aE×eP)
 |_,[],_=>[]|p,a::r,l=>Db p a (l.headD [])++Md (p+1) r l.tail
def Mj:aE->az fa->az (aE×eP)
 |_,[]=>[]|q,a::r=>vA q a++Mj (q+1) r
def oA(args:az fa)(r:dq):St:=fM (Mj 500 r.rs++Md 0 args r.outs)
def Hf(q:aE)(a:fa):aU×az AV:=match a with| .v g xs=>(g,gD (dU q 0) xs)| .pt _=>(ak,[.bp (dU q 900) 0])| .fb xs=>(ak,[.fp xs 0])
def lK:aE->az fa->az (aU×az AV)
 |_,[]=>[]|q,a::r=>Hf q a::lK (q+1) r
def aab(rs:az fa):SV:=sH (lK 500 rs)
def SL(T:Tab)(args:az fa)(r:dq)(c1:eZ)(w:bM)(v:bn)(w':bM):Prop:=
 ∃c3,Ok T (oA args r) w' c3/\oG (inj args) c1 w (oA args r) c3 w'/\(∀m,inj args (c9 m)≠ .j9->c3.P m=c1.P m/\c3.G m=c1.G m)/\jm T w' c3 (aab r.rs) v
def lY(P:cZ)(T:Tab)(g:aE)(spec:az fa->aA (aU×dq)):Prop:=
 ∀args r,spec args=ah (ai,r)->∀(w:bM) (c1:eZ) (vs:dt bn),Ok T (inj args) w c1->vs.size=args.length->(∀(p:aE) (x:fa),args[p]? =ah x->∃v,vs[p]? =ah v/\jm T w c1 (tM p x) v)->
  (∃fn,P.funcs[g]? =ah fn/\fn.body.isSome=ai/\(fn.name== "runtime.NumGoroutine")=ak)/\Calls P g vs w (λ| .returned v,w'=>SL T args r c1 w v w'|_,_=>False)
abbrev DV:=aE×aA aE×Obj
def find(L:az DV)(m:aE):aA aE:=
 match L with
 |[]=>aj
 |(n,t,_)::r=>if m=n then t else find r m
theorem Jz{L:az DV}{m x:aE}(h:find L m=ah x):∃ob,(m,ah x,ob)∈L:=by
 induction L with
 |nil=>cases h
 |cons d L ih=>
  obtain⟨n,t,ob⟩:=d;unfold find at h;split at h
  ·rename_i hm;subst hm;rw[h];exact⟨ob,dv ..⟩
  ·obtain⟨ob,h⟩:=ih h;exact⟨ob,c7 _ h⟩
theorem X6{L:az DV}{m:aE}{t:aA aE}{ob:Obj}(h:(m,t,ob)∈L)(hn:(L.map (·.1)).Nodup):find L m=t:=by
 induction L with
 |nil=>cases h
 |cons d L ih=>
  obtain⟨n,t',ob'⟩:=d;rw[fw,kM]at hn;unfold find;rcases cB.1 h with h'|h'
  ·cases h';rw[bA rfl]
  ·have iz:m≠n:=λe=>hn.1 (cU.2 ⟨_,h',e⟩);rw[bJ iz];exact ih h' hn.2
def mh(ok:aU)(L:az DV)(v v3:AV):Prop:=
 (v=v3/\match v with| .i _ _=>True| .b _=>True| .s _=>True| .nl=>True| .sh _ _=>ok=ai|_=>False)\/∃n x ob,v= .own n/\v3= .own x/\(n,ah x,ob)∈L
def aaE(L:az DV)(v v3:AV):Prop:=∃n x ob,v= .bp n 0/\v3= .bp x 0/\(n,ah x,ob)∈L
def nT(ok:aU)(L:az DV)(vs vs3:az AV):Prop:=vs.length=vs3.length/\∀(j:aE) (v v3:AV),vs[j]? =ah v->vs3[j]? =ah v3->mh ok L v v3
def ArgRel(ok:aU)(L:az DV)(s s3:aU×az AV):Prop:=s.1=s3.1/\s.2.length=s3.2.length/\∀(j:aE) (v v3:AV),s.2[j]? =ah v->s3.2[j]? =ah v3->mh ok L v v3\/aaE L v v3
def Gf(ok:aU)(L:az DV)(s s3:az (aU×az AV)):Prop:=s.length=s3.length/\∀(j:aE) (x x3:aU×az AV),s[j]? =ah x->s3[j]? =ah x3->ArgRel ok L x x3
structure aaM (σ σ3:St) (c c3:eZ) (ok:aU) (uK:az aE) (L:az DV) (n:aE) (t:aA aE) (ob:Obj):Prop where
 old:σ (c9 n)≠ .j9->n∈uK
 new:σ (c9 n)= .j9->n<900000000
 dead:t=aj->ob= .dead
 some_:∀x,t=ah x->(σ (c9 n)≠ .j9->c3.P x=c.P n/\c3.G x=c.G n)/\
  ((∃e ex ys,ob= .row e ex ys/\σ3 (c9 x)= .o (.row e ex ys)/\(ex=ai\/ok=ai))\/∃vs vs3,ob= .box vs/\σ3 (c9 x)= .o (.box vs3)/\nT ok L vs vs3)
section
variable {P:cZ} {E:fT} {σ:St} {a:Act} {w:bM} {c:eZ} {o:fu} {nm:aE} {e:tc}
theorem leave(cg:Ok E σ w c)(dI:fy E σ a w c)(hd:∀d,o.dst=ah d->d<a.tmps.size){ps:az Pa}{BG:az (az CV)}{vs:dt bn}(hh:Handed E σ w c ps BG vs)
  {r:dq} {v:bn} {w':bM} {c3:eZ} (HI:Ok E (oA (jM ps BG) r) w' c3) (yO:oG (inj (jM ps BG)) (qM σ c ps) w (oA (jM ps BG) r) c3 w') (yP:jm E w' c3 (aab r.rs) v)
  {ok:aU} {L:az DV} {Fz:az (aE×Obj)} (hL:∀n t ob,(n,t,ob)∈L->aaM σ (oA (jM ps BG) r) c c3 ok (ps.flatMap (·.uK)) L n t ob) (JL:(L.map (·.1)).Nodup)
  (aty:∀n n' x ob ob',(n,ah x,ob)∈L->(n',ah x,ob')∈L->n=n') (n5:∀n∈ps.flatMap (·.uK),∃t ob,(n,t,ob)∈L)
  (hFz:∀n x,(n,x)∈Fz->ok=ai/\n∈ps.flatMap (·.nP)/\∃el ex xs,σ (c9 n)= .o (.row el ex xs)/\x= .fW el xs) (hFa:ok=ai->∀n∈ps.flatMap (·.nP),∃x,(n,x)∈Fz)
  {ss:az (aU×az AV)} (hss:Gf ok L ss (lK 500 r.rs)):
  ∃c',Ok E (wr σ (kB (Fz++L.map λt=>(t.1,t.2.2))++dw o (sH ss))) w' c'/\fy E (wr σ (kB (Fz++L.map λt=>(t.1,t.2.2))++dw o (sH ss))) (a.put o.dst v) w' c'/\oG σ c w (wr σ (kB (Fz++L.map λt=>(t.1,t.2.2))++dw o (sH ss))) c' w'/\jE σ c c':=by
 obtain⟨TC,_,akj⟩:=enter cg hh;let D:az (aE×Obj):=Fz++L.map λt=>(t.1,t.2.2)
 have Uu:∀n x,(n,x)∈D->(n,x)∈Fz\/∃t,(n,t,x)∈L:=by
  intro n x hm;rcases bf.1 hm with h|h
  ·exact .inl h
  ·obtain⟨⟨n',t,ob⟩,h1,h2⟩:=cU.1 h;cases h2;exact .inr ⟨t,h1⟩
 have inD:∀n t ob,(n,t,ob)∈L->(n,ob)∈D:=λn t ob h=>bO _ (cU.2 ⟨_,h,rfl⟩);have awv:∀n,n∈ps.flatMap (·.uK)->uW D n:=λn hn=>by obtain⟨t,ob,h⟩:=n5 n hn;exact⟨ob,inD n t ob h⟩
 have Mg:∀b,wS (inj (jM ps BG)) (qM σ c ps) b->ka (uW D) σ c b:=λb hb=>by obtain⟨n,hn,ob,h1,h2⟩:=akj b hb;exact⟨n,ob,awv n hn,h1,h2⟩
 let K':aE->Prop:=λb=>if ok=ai then c3.K b else c.K b
 let c':eZ:=⟨λm=>match find L m with|some x=>c3.P x|none=>c.P m,λm=>match find L m with|some x=>c3.G x|none=>c.G m,K'⟩
 have at_:∀n x ob,(n,ah x,ob)∈L->c'.P n=c3.P x/\c'.G n=c3.G x:=λn x ob h=>by have:=X6 h JL;simp only[c',this];exact⟨trivial,trivial⟩
 have ak4:∀n,find L n=aj->c'.P n=c.P n/\c'.G n=c.G n:=λn h=>by simp only[c',h];exact⟨trivial,trivial⟩
 have hA:jE σ c c':=by
  intro m hm;cases hf:find L m with
  |none=>exact ak4 m hf
  |some x=>
   obtain⟨ob,hx⟩:=Jz hf;obtain⟨e1,e2⟩:=at_ m x ob hx;have he:=hL m _ ob hx;rw[e1,e2];by_cases hn:σ (c9 m)= .j9
   ·have:=he.new hn;rcases hm with h|h
    ·exact cL hn h
    ·omega
   ·exact(he.some_ x rfl).1 hn
 have Kok:ok=ai->∀b,K' b↔c3.K b:=λh b=>by simp only[K',h,if_true]
 have Kno:ok=ak->∀b,K' b↔c.K b:=λh b=>by simp only[K',h];simp
 have K13:∀b,(qM σ c ps).K b->c3.K b:=yO.K;have cK1:∀b,c.K b->(qM σ c ps).K b:=λb hb=> .inl hb;have hK:∀b,c.K b->K' b:=λb hb=>by
  cases h:ok with
  |true=>exact(Kok h b).2 (K13 b (cK1 b hb))
  |false=>exact(Kno h b).2 hb
 have W3:∀b,K' b->c.K b\/ka (uW D) σ c b\/w.heap.size<=b:=λb hb=>by
  cases h:ok with
  |true=>
   rcases yO.kn b ((Kok h b).1 hb)with h1|h1|h1
   ·rcases h1 with h1|⟨n,hn,ob,h2,h3⟩
    ·exact .inl h1
    ·obtain⟨x,hx⟩:=hFa h n hn;exact .inr (.inl ⟨n,ob,⟨x,bN _ hx⟩,h2,h3⟩)
   ·exact .inr (.inl (Mg b h1))
   ·exact .inr (.inr h1)
  |false=>exact .inl ((Kno h b).1 hb)
 have HE:∀b,K' b->b<w'.heap.size:=λb hb=>by
  cases h:ok with
  |true=>exact HI.lt b ((Kok h b).1 hb)
  |false=>exact jy (cg.lt b ((Kno h b).1 hb)) yO.size
 have Tq:∀n x ob b,(n,ah x,ob)∈L->fL c' n ob b->∃o3,oA (jM ps BG) r (c9 x)= .o o3/\fL c3 x o3 b:=by
  intro n x ob b hm hf;obtain⟨e1,e2⟩:=at_ n x ob hm;rcases((hL n _ ob hm).some_ x rfl).2 with ⟨e,ex,ys,rfl,h3,_⟩|⟨us,us3,rfl,h3,_⟩
  ·refine⟨_,h3, ?_⟩
   simp only[fL,e1,e2]at hf⊢;exact hf
  ·refine⟨_,h3, ?_⟩
   simp only[fL,e1]at hf⊢;exact hf
 have S7:∀{v v3:AV} {u:bn},mh ok L v v3->eF E w' c3 v3 u->eF E w' c' v u/\∀n∈bR v,uW D n:=by
  rintro v v3 u (⟨rfl,h⟩|⟨n,x,ob,rfl,rfl,hm⟩) hu
  ·cases v with
   |sh e xs=>exact⟨da.frame hu (λ_ _=>rfl) (λb hb=>(Kok h b).2 hb),λn hn=>by simp[bR]at hn⟩
   |i=>exact⟨hu,λn hn=>by simp[bR]at hn⟩
   |b=>exact⟨hu,λn hn=>by simp[bR]at hn⟩
   |s=>exact⟨hu,λn hn=>by simp[bR]at hn⟩
   |nl=>exact⟨hu,λn hn=>by simp[bR]at hn⟩
   |_=>exact h.elim
  ·refine⟨?_,λm xS=> ?_⟩
   ·show u=l_ (c'.P n);rw[(at_ n x ob hm).1];exact hu
   ·have:m=n:=by simpa [bR]using xS
    subst this;exact⟨ob,inD _ _ _ hm⟩
 have asZ:∀{v v3:AV} {u:bn},aaE L v v3->eF E w' c3 v3 u->eF E w' c' v u/\∀n∈bR v,uW D n:=by
  rintro v v3 u ⟨n,x,ob,rfl,rfl,hm⟩ hu;refine⟨?_,λm xS=> ?_⟩
  ·show u= .pointer (ah (ad (c'.P n).blk 0));rw[(at_ n x ob hm).1];exact hu
  ·have:m=n:=by simpa [bR]using xS
   subst this;exact⟨ob,inD _ _ _ hm⟩
 have abq:∀{s s3:aU×az AV} {u:bn},ArgRel ok L s s3->qo E w' c3 s3.1 s3.2 u->qo E w' c' s.1 s.2 u/\∀n∈s.2.flatMap bR,uW D n:=by
  rintro ⟨g,xs⟩ ⟨g3,xs3⟩ u ⟨h1,h2,h3⟩ hu;have h1:g=g3:=h1;subst h1;have one:∀(j:aE) (y:AV) (uu:bn),xs[j]? =ah y->(∀y3,xs3[j]? =ah y3->eF E w' c3 y3 uu)->eF E w' c' y uu/\∀n∈bR y,uW D n:=by
   intro j y uu hj hu3;have j8:j<xs3.length:=by rw[<-h2];exact(aT.1 hj).1
   have NW:=h3 j y xs3[j] hj (by simp[j8]);have sF:=hu3 xs3[j] (by simp[j8]);rcases NW with h|h
   ·exact S7 h sF
   ·exact asZ h sF
  replace hu:qo E w' c3 g xs3 u:=hu;unfold qo at hu;split at hu
  ·rename_i y3;obtain⟨y,rfl⟩:=g6.1 (show xs.length=1 from h2);obtain⟨k1,k2⟩:=one 0 y u rfl (λy3' h=>by cases h;exact hu);exact⟨k1,λn hn=>k2 n (by simpa using hn)⟩
  ·obtain⟨vals,rfl,hs,hv⟩:=hu;have cell:∀(j:aE) (y:AV),xs[j]? =ah y->∃uu:bn,vals[j]? =ah uu/\eF E w' c' y uu/\∀n∈bR y,uW D n:=by
    intro j y hj;have j8:j<xs3.length:=by rw[<-h2];exact(aT.1 hj).1
    obtain⟨uu,hu,ha⟩:=hv j xs3[j] (by simp[j8]);obtain⟨k1,k2⟩:=one j y uu hj (λy3' h=>by simp[j8]at h;rw[<-h];exact ha);exact⟨uu,hu,k1,k2⟩
   refine⟨⟨vals,rfl,by rw[hs];exact h2.symm,λj y hj=> ?_⟩,λn hn=> ?_⟩
   ·obtain⟨uu,k1,k2,_⟩:=cell j y hj;exact⟨uu,k1,k2⟩
   ·obtain⟨y,hy,hn⟩:=bQ.1 hn;obtain⟨j,hj⟩:=b7 hy;obtain⟨uu,_,_,k3⟩:=cell j y hj;exact k3 n hn
  ·exact hu.elim
 have anG:jm E w' c' (sH ss) v/\∀n∈cO (sH ss),uW D n:=by
  obtain⟨hl,hr⟩:=hss;have kq:∀(l l3:az (aU×az AV)),l=ss->l3=lK 500 r.rs->jm E w' c3 (.kq l3) v->jm E w' c' (.kq l) v/\∀n∈cO (.kq l),uW D n:=by
   rintro l l3 rfl rfl ⟨us,rfl,hs,hv⟩;have cell:∀(j:aE) (x:aU×az AV),l[j]? =ah x->∃u:bn,us[j]? =ah u/\qo E w' c' x.1 x.2 u/\∀n∈x.2.flatMap bR,uW D n:=by
    intro j x hj;have j8:j<(lK 500 r.rs).length:=by rw[<-hl];exact(aT.1 hj).1
    have h3:(lK 500 r.rs)[j]? =ah ((lK 500 r.rs)[j].1,(lK 500 r.rs)[j].2):=by simp[j8]
    obtain⟨u,hu,ha⟩:=hv j _ _ h3;obtain⟨k1,k2⟩:=abq (hr j x _ hj h3) ha;exact⟨u,hu,k1,k2⟩
   refine⟨⟨us,rfl,by rw[hs];exact hl.symm,λj g xs hj=> ?_⟩,λn hn=> ?_⟩
   ·obtain⟨u,k1,k2,_⟩:=cell j (g,xs) hj;exact⟨u,k1,k2⟩
   ·obtain⟨x,hx,hn⟩:=bQ.1 hn;obtain⟨j,hj⟩:=b7 hx;obtain⟨u,_,_,k3⟩:=cell j x hj;exact k3 n hn
  unfold aab at yP;cases h3:lK 500 r.rs with
  |nil=>rw[h3]at yP hl;have:ss=[]:=gh hl;subst this;exact kq [] [] rfl h3.symm yP
  |cons x l=>
   cases l with
   |nil=>obtain⟨g,xs⟩:=x;rw[h3]at yP hl;obtain⟨⟨g',MG⟩,rfl⟩:=g6.1 (show ss.length=1 from hl);exact abq (s3:=(g,xs)) (hr 0 _ _ rfl (by rw[h3];rfl)) yP
   |cons y l=>
    rw[h3]at yP hl;match ss,hl with
    |s1::s2::st,_=>exact kq _ (x::y::l) rfl h3.symm yP
    |[_],hl=>simp at hl
    |[],hl=>simp at hl
 refine⟨c', ?_⟩
 have:=Ji cg dI hd (D:=D) (s:=sH ss) (v:=v) (w':=w') (c':=c') hA ?_ ?_ ?_ ?_ hK W3 HE ?_ yO.size yO.os yO.tape yO.output anG.1 (λn hn=> .inr (anG.2 n hn))
 ·exact⟨this.1,this.2.1,this.2.2,hA⟩
 ·intro n x hm;rcases Uu n x hm with hm|⟨t,hm⟩
  ·obtain⟨TD,hn,el,ex,xs,hg,rfl⟩:=hFz n x hm;have akf:find L n=none:=by
    cases hf:find L n with
    |none=>rfl
    |some x=>obtain⟨ob,hx⟩:=Jz hf;have:=(hL n _ ob hx).old (by rw[hg];simp);exact cL hn (hh.ap n this)
   obtain⟨e1,_⟩:=ak4 n akf;obtain⟨h1,h2,ti,h3,h4⟩:=lC cg hg;show da E w' K' (l_ (c'.P n)) _/\(c'.P n).n=_/\_;rw[e1];refine⟨?_,h1,ti,h3,h4.1⟩
   have:=sd cg hg (K:=(qM σ c ps).K) cK1 (λb hb=> .inr ⟨n,hn,_,hg,hb⟩);exact this.frame (yO.aaP TC) (λb hb=>(Kok TD b).2 (K13 b hb))
  ·have he:=hL n t x hm;cases t with
   |none=>rw[he.dead rfl];trivial
   |some y=>
    obtain⟨e1,e2⟩:=at_ n y x hm;rcases(he.some_ y rfl).2 with ⟨el,ex,ys,rfl,h3,hor⟩|⟨us,us3,rfl,h3,hl,hc⟩
    ·obtain⟨⟨t2,r1,r2,r3⟩,r4,r5⟩:=HI.obj y _ h3;refine⟨⟨t2,r1,by rw[e1];exact r2,r3⟩, ?_,λhx=>by rw[e1,e2];exact r5 hx⟩
     rw[e1,e2];refine r4.frame (λ_=>rfl) (λi j yy xx u hy hx hr=> ?_);split at hr
     ·rename_i pL;rw[bA pL];exact hr
     ·rename_i pL;rw[bJ pL];have TD:=hor.resolve_left pL;exact hr.frame (λ_ _=>rfl) (λb hb=>(Kok TD b).2 hb)
    ·obtain⟨vals,hb,hs,hv⟩:=HI.obj y _ h3;refine⟨vals,by rw[e1];exact hb,by rw[hs];exact hl.symm,λj yy hj=> ?_⟩
     have j8:j<us3.length:=by rw[<-hl];exact(aT.1 hj).1
     obtain⟨u,hu,ha⟩:=hv j us3[j] (by simp[j8]);exact⟨u,hu,(S7 (hc j yy us3[j] hj (by simp[j8])) ha).1⟩
 ·intro n x b hm hf;rcases Uu n x hm with hm|⟨t,hm⟩
  ·obtain⟨_,_,el,ex,xs,_,rfl⟩:=hFz n x hm;exact hf.elim
  ·cases t with
   |none=>rw[(hL n _ x hm).dead rfl]at hf;exact hf.elim
   |some y=>
    obtain⟨o3,h3,hf3⟩:=Tq n y x b hm hf;have wk:ka (uW D) σ c b\/w.heap.size<=b:=(yO.own b ⟨y,o3,h3,hf3⟩).imp (Mg b) id;refine⟨wk,λhk=> ?_⟩
    cases h:ok with
    |true=>exact HI.kk y o3 b h3 hf3 ((Kok h b).1 hk)
    |false=>
     have hk:=(Kno h b).1 hk;rcases wk with wk|wk
     ·exact cg.J7 wk.own hk
     ·have:=cg.lt b hk;omega
 ·intro n x n' x' b hm xS hf vt;rcases Uu n x hm with hm|⟨t,hm⟩
  ·obtain⟨_,_,el,ex,xs,_,rfl⟩:=hFz n x hm;exact hf.elim
  ·rcases Uu n' x' xS with xS|⟨t',xS⟩
   ·obtain⟨_,_,el,ex,xs,_,rfl⟩:=hFz n' x' xS;exact vt.elim
   ·cases t with
    |none=>rw[(hL n _ x hm).dead rfl]at hf;exact hf.elim
    |some y=>
     cases t' with
     |none=>rw[(hL n' _ x' xS).dead rfl]at vt;exact vt.elim
     |some y'=>obtain⟨o3,h3,hf3⟩:=Tq n y x b hm hf;obtain⟨o3',NW,atm⟩:=Tq n' y' x' b xS vt;have:=HI.sep y o3 y' o3' b h3 NW hf3 atm;subst this;exact aty n n' y x x' hm xS
 ·intro n xs hm y hy m hmm;rcases Uu n _ hm with hm|⟨t,hm⟩
  ·obtain⟨_,_,el,ex,zs,_,h⟩:=hFz n _ hm;cases h
  ·have he:=hL n t _ hm;cases t with
   |none=>have:=he.dead rfl;cases this
   |some z=>
    rcases(he.some_ z rfl).2 with ⟨el,ex,ys,h,_⟩|⟨us,us3,h,h3,hl,hc⟩
    ·cases h
    ·cases h;obtain⟨j,hj⟩:=b7 hy;have j8:j<us3.length:=by rw[<-hl];exact(aT.1 hj).1
     rcases hc j y us3[j] hj (by simp[j8])with ⟨h1,h2⟩|⟨n',x',ob',h1,_,h2⟩
     ·exfalso;subst h1;cases h:us3[j]<;>rw[h]at hmm h2<;>first|(simp[bR]at hmm;done)|exact h2
     ·rw[h1]at hmm;have:m=n':=by simpa [bR]using hmm
      subst this;exact .inr ⟨ob',inD _ _ _ h2⟩
 ·intro b hb Yg;exact yO.same b hb (λho=>Yg (Mg b ho))
end
end Go.FG

namespace Go.FG
def MP(a:fa)(xs:az AA):Prop:=(∃g,a= .v g xs)\/a= .pt xs
inductive B1 (args:az fa) (r:dq):aE->eP->Prop
 |rb (q xs):r.rs[q]? =ah (.pt xs)->B1 args r (dU (500+q) 900) (.o (.box (gD (dU (500+q) 0) xs)))
 |rr (q a xs j e ex ys):r.rs[q]? =ah a->MP a xs->xs[j]? =ah (.ow e ex ys)->B1 args r (dU (500+q) j) (.o (.row e ex ys))
 |ob (p xs):args[p]? =ah (.pt xs)->B1 args r (dU p 900) (.o (.box (oi p 0 (r.outs.getD p []))))
 |kp (p a xs j e ex z ys):args[p]? =ah a->MP a xs->xs[j]? =ah (.ow e ex z)->(r.outs.getD p [])[j]? =ah (.kp ys)->B1 args r (dU p j) (.o (.row e ex ys))
 |nw (p a xs j e ex ys):args[p]? =ah a->MP a xs->(r.outs.getD p [])[j]? =ah (.ow e ex ys)->B1 args r (dU p (100+j)) (.o (.row e ex ys))
theorem J0:∀{l:az fa} {q:aE} {k:aE} {c:eP},(k,c)∈Mj q l↔∃i a,l[i]? =ah a/\(k,c)∈vA (q+i) a:=by
 intro l;induction l with
 |nil=>intro q k c;simp[Mj]
 |cons a l ih=>
  intro q k c;simp only[Mj,bf,ih];constructor
  ·rintro (h|⟨i,b,h0,h⟩)
   ·exact⟨0,a,rfl,h⟩
   ·exact⟨i+1,b,h0,by rw[show q+(i+1)=q+1+i by omega];exact h⟩
  ·rintro ⟨i,b,h0,h⟩;cases i with
   |zero=>cases h0;exact .inl h
   |succ i=>exact .inr ⟨i,b,h0,by rw[show q+1+i=q+(i+1)by omega];exact h⟩
theorem JZ:∀{l:az fa} {p:aE} {os:az (az AA)} {k:aE} {c:eP},(k,c)∈Md p l os↔∃i a,l[i]? =ah a/\(k,c)∈Db (p+i) a (os.getD i []):=by
 intro l;induction l with
 |nil=>intro p os k c;simp[Md]
 |cons a l ih=>
  intro p os k c;have h0:os.headD []=os.getD 0 []:=by cases os<;>rfl
  have h1:∀i,os.tail.getD i []=os.getD (i+1) []:=λi=>by cases os<;>simp
  simp only[Md,bf,ih,h0,h1];constructor
  ·rintro (h|⟨i,b,hb,h⟩)
   ·exact⟨0,a,rfl,h⟩
   ·exact⟨i+1,b,hb,by rw[show p+(i+1)=p+1+i by omega];exact h⟩
  ·rintro ⟨i,b,hb,h⟩;cases i with
   |zero=>cases hb;exact .inl h
   |succ i=>exact .inr ⟨i,b,hb,by rw[show p+1+i=p+(i+1)by omega];exact h⟩
theorem zV{p j:aE}{a b:AA}{k:aE}{c:eP}:(k,c)∈Kd p j a b↔(∃e ex z ys,a= .ow e ex z/\b= .kp ys/\k=c9 (dU p j)/\c= .o (.row e ex ys))\/∃e ex ys,b= .ow e ex ys/\k=c9 (dU p (100+j))/\c= .o (.row e ex ys):=by
 cases b with
 |kp ys=>
  cases a with
  |ow e ex z=>
   constructor
   ·intro h;have h:=a_.1 h;cases h;exact .inl ⟨e,ex,z,ys,rfl,rfl,rfl,rfl⟩
   ·rintro (⟨e',uG,z',DT,h1,h2,h3,h4⟩|⟨_,_,_,h,_⟩)
    ·cases h1;cases h2;rw[h3,h4];exact a_.2 rfl
    ·cases h
  |_=>simp[Kd]
 |ow e ex ys=>
  constructor
  ·intro h;have h:=a_.1 h;cases h;exact .inr ⟨e,ex,ys,rfl,rfl,rfl⟩
  ·rintro (⟨_,_,_,_,_,h,_⟩|⟨e',uG,DT,h2,h3,h4⟩)
   ·cases h
   ·cases h2;rw[h3,h4];exact a_.2 rfl
 |_=>simp[Kd]
theorem LY{p:aE}:∀{l:az AA} {j:aE} {as:az AA} {k:aE} {c:eP},(k,c)∈tY p j as l↔∃i b,l[i]? =ah b/\(k,c)∈Kd p (j+i) (as.getD i .nl) b:=by
 intro l;induction l with
 |nil=>intro j as k c;simp[tY]
 |cons b l ih=>
  intro j as k c;have h0:as.headD .nl=as.getD 0 .nl:=by cases as<;>rfl
  have h1:∀i,as.tail.getD i .nl=as.getD (i+1) .nl:=λi=>by cases as<;>simp
  simp only[tY,bf,ih,h0,h1];constructor
  ·rintro (h|⟨i,b',hb,h⟩)
   ·exact⟨0,b,rfl,h⟩
   ·exact⟨i+1,b',hb,by rw[show j+(i+1)=j+1+i by omega];exact h⟩
  ·rintro ⟨i,b',hb,h⟩;cases i with
   |zero=>cases hb;exact .inl h
   |succ i=>exact .inr ⟨i,b',hb,by rw[show j+1+i=j+(i+1)by omega];exact h⟩
theorem HB{xs:az AA}{i e:aE}{ex:aU}{z:aQ}:xs.getD i .nl= .ow e ex z↔xs[i]? =ah (.ow e ex z):=by
 rw[cY];cases h:xs[i]? with
 |none=>simp
 |some x=>simp
theorem qP{p:aE}{a:fa}{l:az AA}{k:aE}{c:eP}:(k,c)∈Db p a l↔(∃xs,a= .pt xs/\k=c9 (dU p 900)/\c= .o (.box (oi p 0 l)))\/∃xs,MP a xs/\((∃j e ex z ys,xs[j]? =ah (.ow e ex z)/\l[j]? =ah (.kp ys)/\k=c9 (dU p j)/\c= .o (.row e ex ys))\/∃j e ex ys,l[j]? =ah (.ow e ex ys)/\k=c9 (dU p (100+j))/\c= .o (.row e ex ys)):=by
 have cells:∀xs,(k,c)∈tY p 0 xs l↔((∃j e ex z ys,xs[j]? =ah (.ow e ex z)/\l[j]? =ah (.kp ys)/\k=c9 (dU p j)/\c= .o (.row e ex ys))\/∃j e ex ys,l[j]? =ah (.ow e ex ys)/\k=c9 (dU p (100+j))/\c= .o (.row e ex ys)):=by
  intro xs;rw[LY];constructor
  ·rintro ⟨i,b,hb,h⟩;rw[bX]at h;rcases zV.1 h with ⟨e,ex,z,ys,h1,rfl,h2,h3⟩|⟨e,ex,ys,rfl,h2,h3⟩
   ·exact .inl ⟨i,e,ex,z,ys,HB.1 h1,hb,h2,h3⟩
   ·exact .inr ⟨i,e,ex,ys,hb,h2,h3⟩
  ·rintro (⟨i,e,ex,z,ys,h1,hb,h2,h3⟩|⟨i,e,ex,ys,hb,h2,h3⟩)
   ·exact⟨i,_,hb,zV.2 (.inl ⟨e,ex,z,ys,HB.2 h1,rfl,by rw[bX];exact h2,h3⟩)⟩
   ·exact⟨i,_,hb,zV.2 (.inr ⟨e,ex,ys,rfl,by rw[bX];exact h2,h3⟩)⟩
 cases a with
 |v g xs=>
  simp only[Db,cells];constructor
  ·intro h;exact .inr ⟨xs, .inl ⟨g,rfl⟩,h⟩
  ·rintro (⟨ys,h,_⟩|⟨ys,h|h,h'⟩)
   ·cases h
   ·obtain⟨g',h⟩:=h;cases h;exact h'
   ·cases h
 |pt xs=>
  simp only[Db,cB,cells,jj];constructor
  ·rintro (⟨h1,h2⟩|h)
   ·exact .inl ⟨xs,rfl,h1,h2⟩
   ·exact .inr ⟨xs, .inr rfl,h⟩
  ·rintro (⟨ys,h,h1,h2⟩|⟨ys,h|h,h'⟩)
   ·exact .inl ⟨h1,h2⟩
   ·obtain⟨g',h⟩:=h;cases h
   ·cases h;exact .inr h'
 |fb xs=>
  simp only[Db,fQ,false_iff];rintro (⟨ys,h,_⟩|⟨ys,h|h,_⟩)
  ·cases h
  ·obtain⟨g',h⟩:=h;cases h
  ·cases h
theorem xK{args:az fa}{r:dq}{m:aE}{c:eP}:(c9 m,c)∈Mj 500 r.rs++Md 0 args r.outs↔B1 args r m c:=by
 rw[bf,J0,JZ];constructor
 ·rintro (⟨q,a,h0,h⟩|⟨p,a,h0,h⟩)
  ·rcases iA.1 h with ⟨xs,rfl,h1,rfl⟩|⟨xs,j,e,ex,ys,hx,hj,h1,rfl⟩
   ·rw[j4 h1];exact .rb q xs h0
   ·rw[j4 h1];exact .rr q a xs j e ex ys h0 hx hj
  ·rw[bX]at h;rcases qP.1 h with ⟨xs,rfl,h1,rfl⟩|⟨xs,hx,⟨j,e,ex,z,ys,h2,h3,h1,rfl⟩|⟨j,e,ex,ys,h3,h1,rfl⟩⟩
   ·rw[j4 h1];exact .ob p xs h0
   ·rw[j4 h1];exact .kp p a xs j e ex z ys h0 hx h2 h3
   ·rw[j4 h1];exact .nw p a xs j e ex ys h0 hx h3
 ·intro h;cases h with
  |rb q xs h0=>exact .inl ⟨q,_,h0,iA.2 (.inl ⟨xs,rfl,rfl,rfl⟩)⟩
  |rr q a xs j e ex ys h0 hx hj=>exact .inl ⟨q,a,h0,iA.2 (.inr ⟨xs,j,e,ex,ys,hx,hj,rfl,rfl⟩)⟩
  |ob p xs h0=>exact .inr ⟨p,_,h0,qP.2 (.inl ⟨xs,rfl,by rw[bX],by rw[bX]⟩)⟩
  |kp p a xs j e ex z ys h0 hx h2 h3=>exact .inr ⟨p,a,h0,qP.2 (.inr ⟨xs,hx, .inl ⟨j,e,ex,z,ys,h2,h3,by rw[bX],rfl⟩⟩)⟩
  |nw p a xs j e ex ys h0 hx h3=>exact .inr ⟨p,a,h0,qP.2 (.inr ⟨xs,hx, .inr ⟨j,e,ex,ys,h3,by rw[bX],rfl⟩⟩)⟩
def aad:aA AA->aA eP
 |some (.ow e ex ys)=>ah (.o (.row e ex ys))|_=>aj
def kpC(a b:aA AA):aA eP:=
 match a,b with|some (.ow e ex _),ah (.kp ys)=>ah (.o (.row e ex ys))|_,_=>aj
def SS:fa->az AA| .v _ xs=>xs| .pt xs=>xs| .fb _=>[]
theorem MP.eq{a:fa}{xs:az AA}(h:MP a xs):SS a=xs:=by rcases h with ⟨g,rfl⟩|rfl<;>rfl
def Fu(args:az fa)(r:dq)(P J:aE):aA eP:=
 if 500<=P then(match r.rs[P-500]? with
  |some a=>if J=900 then ah (.o (.box (gD (dU P 0) (SS a))))else aad (SS a)[J]?
  |none=>aj)
 else(match args[P]? with
  |some a=>if J=900 then ah (.o (.box (oi P 0 (r.outs.getD P []))))else if J<100 then kpC (SS a)[J]? (r.outs.getD P [])[J]? else aad (r.outs.getD P [])[J-100]?
  |none=>aj)
structure Small (args:az fa) (r:dq):Prop where
 a:∀(p:aE) (a:fa) (xs:az AA),args[p]? =ah a->MP a xs->p<500
 rl:∀(q:aE) (a:fa) (xs:az AA),r.rs[q]? =ah a->MP a xs->xs.length<=100
 o:∀p:aE,(r.outs.getD p []).length<=100
theorem Jt{args:az fa}{r:dq}(hs:Small args r){m:aE}{c:eP}(h:B1 args r m c):∃P J,m=dU P J/\J<1000/\Fu args r P J=ah c:=by
 cases h with
 |rb q xs h0=>exact⟨500+q,900,rfl,by omega,by simp[Fu,h0,SS]⟩
 |rr q a xs j e ex ys h0 hx hj=>
  have:=hs.rl q a xs h0 hx;have j8:=(aT.1 hj).1;refine⟨500+q,j,rfl,by omega, ?_⟩
  have:j≠900:=by omega
  simp[Fu,h0,hx.eq,hj,this,aad]
 |ob p xs h0=>
  have:=hs.a p _ xs h0 (.inr rfl);have:¬500<=p:=by omega
  exact⟨p,900,rfl,by omega,by simp[Fu,h0,this]⟩
 |kp p a xs j e ex z ys h0 hx h2 h3=>
  have:=hs.a p _ xs h0 hx;have h5:¬500<=p:=by omega
  have j8:=(aT.1 h3).1;have:=hs.o p;have PU:j≠900:=by omega
  have Em:j<100:=by omega
  refine⟨p,j,rfl,by omega, ?_⟩
  simp only[Fu,h0,hx.eq,h2,h3,PU,Em,h5,if_false,if_true,kpC]
 |nw p a xs j e ex ys h0 hx h3=>
  have:=hs.a p _ xs h0 hx;have h5:¬500<=p:=by omega
  have j8:=(aT.1 h3).1;have:=hs.o p;have PU:¬100+j=900:=by omega
  have Em:¬100+j<100:=by omega
  refine⟨p,100+j,rfl,by omega, ?_⟩
  have hj3:100+j-100=j:=by omega
  simp only[Fu,h0,h3,PU,Em,hj3,h5,if_false,aad]
theorem Ab:∀{l:az (aE×eP)} {k:aE} {c:eP},(k,c)∈l->(∀c',(k,c')∈l->c'=c)->fM l k=c:=by
 intro l;induction l with
 |nil=>intro k c h;cases h
 |cons d l ih=>
  obtain⟨k',c'⟩:=d;intro k c h hu;unfold fM;cases hb:bF k k' with
  |true=>have:=aW hb;subst this;exact hu c' (dv ..)
  |false=>
   rcases cB.1 h with h|h
   ·cases h;simp at hb
   ·exact ih h (λc'' h''=>hu c'' (c7 _ h''))
theorem xJ{args:az fa}{r:dq}(hs:Small args r){m:aE}{c:eP}(h:B1 args r m c):oA args r (c9 m)=c:=by refine Ab (xK.2 h) (λc' h'=> ?_);obtain⟨P,J,h1,h2,h3⟩:=Jt hs h;obtain⟨P',J',LA,PJ,NW⟩:=Jt hs (xK.1 h');obtain⟨rfl,rfl⟩:=uM h2 PJ (h1.symm.trans LA);rw[h3]at NW;cases NW;rfl
theorem qN{args:az fa}{r:dq}{m:aE}{o:Obj}(h:oA args r (c9 m)= .o o):B1 args r m (.o o):=xK.1 (n6 h (by simp))
theorem wv{p:aE}:∀{xs:az AA} {j i:aE},(oi p j xs)[i]? =(xs[i]?).map (tX p (j+i)):=by
 intro xs;induction xs with
 |nil=>intro j i;simp[oi]
 |cons a xs ih=>
  intro j i;cases i with
  |zero=>rfl
  |succ i=>simp only[oi,dM,ih];congr 2;omega
theorem vB{p:aE}:∀{xs:az AA} {j:aE},(oi p j xs).length=xs.length:=by
 intro xs;induction xs with
 |nil=>intro j;rfl
 |cons a xs ih=>intro j;simp[oi,ih]
theorem FY:∀{l:az fa} {q i:aE},(lK q l)[i]? =(l[i]?).map (Hf (q+i)):=by
 intro l;induction l with
 |nil=>intro q i;simp[lK]
 |cons a l ih=>
  intro q i;cases i with
  |zero=>rfl
  |succ i=>simp only[lK,dM,ih];congr 2;omega
theorem xX:∀{l:az fa} {q:aE},(lK q l).length=l.length:=by
 intro l;induction l with
 |nil=>intro q;rfl
 |cons a l ih=>intro q;simp[lK,ih]
end Go.FG

namespace Go.FG
def mI(L:az DV):az (aE×eP):=kB (L.map λt=>(t.1,t.2.2))
theorem iO(L R:az DV):mI (L++R)=mI L++mI R:=by simp[mI,kB]
def Rr(ok:aU)(σ:St)(n:aE)(a:AA):Prop:=
 match a with
 | .ow _ ex _=>(ex=ai\/ok=ai)/\σ (c9 n)= .j9/\n<900000000
 | .sh _ _=>ok=ai| .kp _=>False| .fn _ _=>False|_=>True
def Qe(n x:aE)(a:AA):az DV:=match a with| .ow e ex ys=>[(n,ah x, .row e ex ys)]|_=>[]
theorem JY{n x:aE}{a:AA}{m:aE}{t:aA aE}{ob:Obj}:(m,t,ob)∈Qe n x a↔∃e ex ys,a= .ow e ex ys/\m=n/\t=ah x/\ob= .row e ex ys:=by
 cases a with
 |ow e ex ys=>
  constructor
  ·intro h;have h:=a_.1 h;cases h;exact⟨e,ex,ys,rfl,rfl,rfl,rfl⟩
  ·rintro ⟨e',uG,DT,h,rfl,rfl,rfl⟩;cases h;exact a_.2 rfl
 |_=>simp[Qe]
theorem mh.mono{ok:aU}{L L':az DV}{v v3:AV}(h:mh ok L v v3)(hs:∀e∈L,e∈L'):mh ok L' v v3:=h.imp id (λ⟨n,x,ob,h1,h2,h3⟩=>⟨n,x,ob,h1,h2,hs _ h3⟩)
theorem nT.mono{ok:aU}{L L':az DV}{v v3:az AV}(h:nT ok L v v3)(hs:∀e∈L,e∈L'):nT ok L' v v3:=⟨h.1,λj x y hx hy=>(h.2 j x y hx hy).mono hs⟩
section
variable {P:cZ} {E:fT} {σ:St} {a:Act} {w:bM} {c:eZ} {o:fu} {nm:aE} {e:tc}
theorem Fl{ok:aU}{n:aE}{a:AA}{v:AV}{ws:az (aE×eP)}(h:(rQ ok n a).val σ=ah (v,ws)):Rr ok σ n a/\v=lJ n a/\∀x,ws=mI (Qe n x a)/\mh ok (Qe n x a) v (lJ x a):=by
 cases a with
 |i=>obtain⟨rfl,rfl⟩:=bY (aJ h);exact⟨trivial,rfl,λx=>⟨rfl, .inl ⟨rfl,trivial⟩⟩⟩
 |b=>obtain⟨rfl,rfl⟩:=bY (aJ h);exact⟨trivial,rfl,λx=>⟨rfl, .inl ⟨rfl,trivial⟩⟩⟩
 |s=>obtain⟨rfl,rfl⟩:=bY (aJ h);exact⟨trivial,rfl,λx=>⟨rfl, .inl ⟨rfl,trivial⟩⟩⟩
 |nl=>obtain⟨rfl,rfl⟩:=bY (aJ h);exact⟨trivial,rfl,λx=>⟨rfl, .inl ⟨rfl,trivial⟩⟩⟩
 |sh e xs=>obtain⟨h1,h⟩:=cR h;obtain⟨rfl,rfl⟩:=bY (aJ h);exact⟨h1,rfl,λx=>⟨rfl, .inl ⟨rfl,h1⟩⟩⟩
 |ow e ex xs=>obtain⟨h1,h⟩:=cR h;obtain⟨u,h2,h⟩:=Rd.bind_some h;obtain⟨rfl,rfl⟩:=bY (aJ h);obtain⟨f1,f2⟩:=kO h2;exact⟨⟨by simpa using h1,f1,f2⟩,rfl,λx=>⟨rfl, .inr ⟨n,x,_,rfl,rfl,a_.2 rfl⟩⟩⟩
 |kp=>simp[rQ]at h
 |fn=>simp[rQ]at h
theorem Cq{ok:aU}{P:aE}:∀{xs:az AA} {n j:aE} {vs:az AV} {ws:az (aE×eP)},(Bz ok n xs).val σ=ah (vs,ws)->vs=gD n xs/\(∀(i:aE) (a:AA),xs[i]? =ah a->Rr ok σ (n+i) a)/\
  ∃L,ws=mI L/\(∀m t ob,(m,t,ob)∈L↔∃i e ex ys,xs[i]? =ah (.ow e ex ys)/\m=n+i/\t=ah (dU P (j+i))/\ob= .row e ex ys)/\∀(i:aE) (v:AV) (a:AA),vs[i]? =ah v->xs[i]? =ah a->mh ok L v (lJ (dU P (j+i)) a):=by
 intro xs;induction xs with
 |nil=>intro n j vs ws h;obtain⟨rfl,rfl⟩:=bY (aJ h);exact⟨rfl,λi a h=>by simp at h,[],rfl,λm t ob=>by simp,λi v a h=>by simp at h⟩
 |cons a xs ih=>
  intro n j vs ws h;obtain⟨⟨v,w1⟩,h1,h⟩:=Rd.bind_some h;obtain⟨⟨vr,w2⟩,h2,h⟩:=Rd.bind_some h;obtain⟨rfl,rfl⟩:=bY (aJ h);obtain⟨b1,rfl,b2⟩:=Fl h1;obtain⟨rfl,b3⟩:=b2 (dU P j);obtain⟨i1,i2,L,rfl,i3,i4⟩:=ih (j:=j+1) h2;refine⟨by rw[i1];rfl,λi a' hi=> ?_,Qe n (dU P j) a++L,by rw[iO],λm t ob=> ?_,λi v' a' hv ha=> ?_⟩
  ·cases i with
   |zero=>cases hi;exact b1
   |succ i=>have:=i2 i a' hi;rwa[show n+1+i=n+(i+1)by omega]at this
  ·rw[bf,JY,i3];constructor
   ·rintro (⟨e,ex,ys,rfl,rfl,rfl,rfl⟩|⟨i,e,ex,ys,h1,rfl,rfl,rfl⟩)
    ·exact⟨0,e,ex,ys,rfl,rfl,rfl,rfl⟩
    ·exact⟨i+1,e,ex,ys,h1,by omega,by rw[show j+1+i=j+(i+1)by omega],rfl⟩
   ·rintro ⟨i,e,ex,ys,h1,rfl,rfl,rfl⟩;cases i with
    |zero=>cases h1;exact .inl ⟨e,ex,ys,rfl,rfl,rfl,rfl⟩
    |succ i=>exact .inr ⟨i,e,ex,ys,h1,by omega,by rw[show j+1+i=j+(i+1)by omega],rfl⟩
  ·cases i with
   |zero=>cases hv;cases ha;exact b3.mono (λe he=>bN _ he)
   |succ i=>have:=(i4 i v' a' hv ha).mono (L':=Qe n (dU P j) a++L) (λe he=>bO _ he);rwa[show j+1+i=j+(i+1)by omega]at this
def IW(σ:St)(ok:aU)(b P:aE)(x:fa)(L:az DV)(n:aE)(t:aA aE)(ob:Obj):Prop:=
 (∃xs j e ex ys,MP x xs/\xs[j]? =ah (.ow e ex ys)/\n=b+j/\t=ah (dU P j)/\ob= .row e ex ys/\(ex=ai\/ok=ai)/\σ (c9 n)= .j9/\n<900000000)\/
 ∃xs,x= .pt xs/\n=b+30/\t=ah (dU P 900)/\ob= .box (gD b xs)/\σ (c9 n)= .j9/\n<900000000/\nT ok L (gD b xs) (gD (dU P 0) xs)
theorem K9{ok:aU}{b P:aE}{x:fa}{s:aU×az AV}{ws:az (aE×eP)}(h:(Hh ok b x).val σ=ah (s,ws)):∃L,ws=mI L/\(∀n t ob,(n,t,ob)∈L->IW σ ok b P x L n t ob)/\ArgRel ok L s (Hf P x):=by
 have tT:∀j,dU P (0+j)=dU P 0+j:=λj=>by unfold dU;omega
 cases x with
 |v g xs=>
  obtain⟨⟨vs,w1⟩,h1,h⟩:=Rd.bind_some h;obtain⟨rfl,rfl⟩:=bY (aJ h);obtain⟨rfl,i2,L,rfl,i3,i4⟩:=Cq (P:=P) (j:=0) h1;refine⟨L,rfl,λn t ob hm=> ?_,rfl,by simp[Hf,iT],λj v v3 hv Et=> .inl ?_⟩
  ·obtain⟨i,e,ex,ys,h1,rfl,rfl,rfl⟩:=(i3 n t ob).1 hm;have:=i2 i _ h1;exact .inl ⟨xs,i,e,ex,ys, .inl ⟨g,rfl⟩,h1,rfl,by rw[bX],rfl,this⟩
  ·have Et:(gD (dU P 0) xs)[j]? =ah v3:=Et;rw[iD]at Et;cases hx:xs[j]? with
   |none=>rw[hx]at Et;cases Et
   |some a=>rw[hx]at Et;cases Et;have:=i4 j v a hv hx;rwa[tT]at this
 |pt xs=>
  obtain⟨⟨vs,w1⟩,h1,h⟩:=Rd.bind_some h;obtain⟨u,h2,h⟩:=Rd.bind_some h;obtain⟨rfl,rfl⟩:=bY (aJ h);obtain⟨f1,f2⟩:=kO h2;obtain⟨rfl,i2,L,rfl,i3,i4⟩:=Cq (P:=P) (j:=0) h1;have cr:nT ok L (gD b xs) (gD (dU P 0) xs):=by
   refine⟨by rw[iT,iT],λj v v3 hv Et=> ?_⟩
   rw[iD]at Et;cases hx:xs[j]? with
   |none=>rw[hx]at Et;cases Et
   |some a=>rw[hx]at Et;cases Et;have:=i4 j v a hv hx;rwa[tT]at this
  refine⟨L++[(b+30,ah (dU P 900), .box (gD b xs))],by rw[iO];rfl,λn t ob hm=> ?_,rfl,rfl,λj v v3 hv Et=> .inr ?_⟩
  ·rcases bf.1 hm with hm|hm
   ·obtain⟨i,e,ex,ys,h1,rfl,rfl,rfl⟩:=(i3 n t ob).1 hm;have:=i2 i _ h1;exact .inl ⟨xs,i,e,ex,ys, .inr rfl,h1,rfl,by rw[bX],rfl,this⟩
   ·rw[a_]at hm;cases hm;exact .inr ⟨xs,rfl,rfl,rfl,rfl,f1,f2,cr.mono (λe he=>bN _ he)⟩
  ·cases j with
   |zero=>cases hv;cases Et;exact⟨_,_,_,rfl,rfl,bO _ (a_.2 rfl)⟩
   |succ j=>simp at hv
 |fb xs=>simp[Hh]at h
theorem ArgRel.mono{ok:aU}{L L':az DV}{s s3:aU×az AV}(h:ArgRel ok L s s3)(hs:∀e∈L,e∈L'):ArgRel ok L' s s3:=⟨h.1,h.2.1,λj x y hx hy=>(h.2.2 j x y hx hy).imp (λh=>h.mono hs) (λ⟨n,x,ob,h1,h2,h3⟩=>⟨n,x,ob,h1,h2,hs _ h3⟩)⟩
theorem IW.mono{ok:aU}{b P:aE}{x:fa}{L L':az DV}{n:aE}{t:aA aE}{ob:Obj}(h:IW σ ok b P x L n t ob)(hs:∀e∈L,e∈L'):IW σ ok b P x L' n t ob:=h.imp id (λ⟨xs,h1,h2,h3,h4,h5,h6,h7⟩=>⟨xs,h1,h2,h3,h4,h5,h6,h7.mono hs⟩)
theorem Jc{ok:aU}:∀{l:az fa} {b P:aE} {ss:az (aU×az AV)} {ws:az (aE×eP)},(Cr ok b l).val σ=ah (ss,ws)->∃L,ws=mI L/\(∀n t ob,(n,t,ob)∈L->∃q x,l[q]? =ah x/\IW σ ok (b+40*q) (P+q) x L n t ob)/\Gf ok L ss (lK P l):=by
 intro l;induction l with
 |nil=>intro b P ss ws h;obtain⟨rfl,rfl⟩:=bY (aJ h);exact⟨[],rfl,λn t ob h=>(by cases h),rfl,λj x x3 h=>by simp at h⟩
 |cons x l ih=>
  intro b P ss ws h;obtain⟨⟨v,w1⟩,h1,h⟩:=Rd.bind_some h;obtain⟨⟨vr,w2⟩,h2,h⟩:=Rd.bind_some h;obtain⟨rfl,rfl⟩:=bY (aJ h);obtain⟨L1,rfl,a1,a2⟩:=K9 (P:=P) h1;obtain⟨L2,rfl,b1,b2,b3⟩:=ih (P:=P+1) h2;refine⟨L1++L2,by rw[iO],λn t ob hm=> ?_,by simp[lK,b2],λj s s3 hs hs3=> ?_⟩
  ·rcases bf.1 hm with hm|hm
   ·exact⟨0,x,rfl,(a1 n t ob hm).mono (λe he=>bN _ he)⟩
   ·obtain⟨q,y,hq,hr⟩:=b1 n t ob hm;refine⟨q+1,y,hq, ?_⟩
    rw[show b+40*(q+1)=b+40+40*q by omega,show P+(q+1)=P+1+q by omega];exact hr.mono (λe he=>bO _ he)
  ·cases j with
   |zero=>cases hs;cases hs3;exact a2.mono (λe he=>bN _ he)
   |succ j=>exact(b3 j s s3 hs hs3).mono (λe he=>bO _ he)
end
end Go.FG

namespace Go.FG
section
variable {P:cZ} {E:fT} {σ:St} {a:Act} {w:bM} {c:eZ} {o:fu} {nm:aE} {e:tc}
def rk(σ:St)(ok bx:aU)(b p j:aE)(k:Pk)(a:AA)(n:aE)(t:aA aE)(ob:Obj):Prop:=
 (∃e ex,k.src= .own n e ex/\t=aj/\ob= .dead)\/
 (∃e ex ys,k.src= .own n e ex/\a= .kp ys/\t=ah (dU p j)/\ob= .row e ex ys/\(ex=ai\/ok=ai))\/
 ∃e ex ys,bx=ai/\a= .ow e ex ys/\n=b+j/\t=ah (dU p (100+j))/\ob= .row e ex ys/\(ex=ai\/ok=ai)/\σ (c9 n)= .j9/\n<900000000
theorem Vd{ok:aU}{b p j:aE}{k:Pk}{a:AA}{ws:az (aE×eP)}(h:(FV ok k a).val σ=ah ws):∃L,ws=mI L/\(∀n t ob,(n,t,ob)∈L->rk σ ok ak b p j k a n t ob)/\∀n e ex,k.src= .own n e ex->∃t ob,(n,t,ob)∈L:=by
 cases hs:k.src with
 |no=>
  have h:(Rd.ret []:Rd (az (aE×eP))).val σ=ah ws:=by unfold FV at h;rw[hs]at h;exact h
  obtain rfl:=aJ h;exact⟨[],rfl,λn t ob h=>(by cases h),λn e ex h=>by cases h⟩
 |own n e ex=>
  cases a with
  |kp ys=>
   have h:(bif ex||ok then Rd.ret [(c9 n,eP.o (.row e ex ys))]else .fail).val σ=ah ws:=by unfold FV at h;rw[hs]at h;exact h
   obtain⟨h1,h⟩:=cR h;obtain rfl:=aJ h;refine⟨[(n,ah (dU p j), .row e ex ys)],rfl,λm t ob hm=> ?_,λm e' uG h=> ?_⟩
   ·rw[a_]at hm;cases hm;exact .inr (.inl ⟨e,ex,ys,hs,rfl,rfl,rfl,by simpa using h1⟩)
   ·cases h;exact⟨_,_,a_.2 rfl⟩
  |nl=>
   have h:(Rd.ret [(c9 n,eP.o .dead)]:Rd (az (aE×eP))).val σ=ah ws:=by unfold FV at h;rw[hs]at h;exact h
   obtain rfl:=aJ h;refine⟨[(n,aj, .dead)],rfl,λm t ob hm=> ?_,λm e' uG h=> ?_⟩
   ·rw[a_]at hm;cases hm;exact .inl ⟨e,ex,hs,rfl,rfl⟩
   ·cases h;exact⟨_,_,a_.2 rfl⟩
  |_=>unfold FV at h;rw[hs]at h;simp at h
theorem Qj{ok:aU}{b p:aE}:∀{r:az Pk} {l:az AA} {j:aE} {ws:az (aE×eP)},(Mf ok r l).val σ=ah ws->∃L,ws=mI L/\(∀n t ob,(n,t,ob)∈L->∃i k,r[i]? =ah k/\rk σ ok ak b p (j+i) k (l.getD i .nl) n t ob)/\
  ∀(i:aE) (k:Pk) (n e:aE) (ex:aU),r[i]? =ah k->k.src= .own n e ex->∃t ob,(n,t,ob)∈L:=by
 intro r;induction r with
 |nil=>intro l j ws h;obtain rfl:=aJ h;exact⟨[],rfl,λn t ob h=>(by cases h),λi k n e ex h=>by simp at h⟩
 |cons k r ih=>
  intro l j ws h;obtain⟨w1,h1,h⟩:=Rd.bind_some h;obtain⟨w2,h2,h⟩:=Rd.bind_some h;obtain rfl:=aJ h;obtain⟨L1,rfl,a1,a2⟩:=Vd (b:=b) (p:=p) (j:=j) h1;obtain⟨L2,rfl,b1,b2⟩:=ih (j:=j+1) h2;have e0:l.headD .nl=l.getD 0 .nl:=by cases l<;>rfl
  have e1:∀i,l.tail.getD i .nl=l.getD (i+1) .nl:=λi=>by cases l<;>simp
  refine⟨L1++L2,by rw[iO],λn t ob hm=> ?_,λi k' n e ex hk hs=> ?_⟩
  ·rcases bf.1 hm with hm|hm
   ·exact⟨0,k,rfl,by rw[<-e0];exact a1 n t ob hm⟩
   ·obtain⟨i,k',hk,hc⟩:=b1 n t ob hm;rw[e1]at hc;exact⟨i+1,k',hk,by rw[show j+(i+1)=j+1+i by omega];exact hc⟩
  ·cases i with
   |zero=>cases hk;obtain⟨t,ob,h⟩:=a2 n e ex hs;exact⟨t,ob,bN _ h⟩
   |succ i=>obtain⟨t,ob,h⟩:=b2 i k' n e ex hk hs;exact⟨t,ob,bO _ h⟩
theorem Qh{ok:aU}{b p j:aE}{k:Pk}{v v':AV}{a:AA}{ws:az (aE×eP)}(hv:∀n e ex,k.src= .own n e ex->v= .own n)(h:(Da ok (b+j) k v a).val σ=ah (v',ws)):
  ∃L,ws=mI L/\(∀n t ob,(n,t,ob)∈L->rk σ ok ai b p j k a n t ob)/\(∀n e ex,k.src= .own n e ex->∃t ob,(n,t,ob)∈L)/\mh ok L v' (tX p j a):=by
 have new:∀{v':AV} {ws:az (aE×eP)},(rQ ok (b+j) a).val σ=ah (v',ws)->∃L,ws=mI L/\(∀n t ob,(n,t,ob)∈L->rk σ ok ai b p j k a n t ob)/\mh ok L v' (tX p j a):=by
  intro v' ws h;obtain⟨b1,rfl,b2⟩:=Fl h;obtain⟨rfl,b3⟩:=b2 (dU p (100+j));refine⟨_,rfl,λn t ob hm=> ?_, ?_⟩
  ·obtain⟨e,ex,ys,rfl,rfl,rfl,rfl⟩:=JY.1 hm;exact .inr (.inr ⟨e,ex,ys,rfl,rfl,rfl,rfl,rfl,b1⟩)
  ·have:tX p j a=lJ (dU p (100+j)) a:=by cases a<;>first|rfl|exact b1.elim
   rw[this];exact b3
 cases hs:k.src with
 |no=>
  have h:(rQ ok (b+j) a).val σ=ah (v',ws):=by unfold Da at h;rw[hs]at h;exact h
  obtain⟨L,rfl,a1,a2⟩:=new h;exact⟨L,rfl,a1,λm e' uG h=>(by cases h),a2⟩
 |own n e ex=>
  have other:((rQ ok (b+j) a).bind λ(x:AV×az (aE×eP))=>Rd.ret (x.1,(c9 n,eP.o .dead)::x.2)).val σ=ah (v',ws)->∃L,ws=mI L/\(∀n t ob,(n,t,ob)∈L->rk σ ok ai b p j k a n t ob)/\(∀n' e' uG,Src.own n e ex= .own n' e' uG->∃t ob,(n',t,ob)∈L)/\mh ok L v' (tX p j a):=by
   intro h;obtain⟨⟨v1,w1⟩,h1,h⟩:=Rd.bind_some h;obtain⟨rfl,rfl⟩:=bY (aJ h);obtain⟨L,rfl,a1,a2⟩:=new h1;refine⟨(n,aj, .dead)::L,rfl,λm t ob hm=> ?_,λm e' uG h=> ?_,a2.mono (λe he=>c7 _ he)⟩
   ·rcases cB.1 hm with hm|hm
    ·cases hm;exact .inl ⟨e,ex,hs,rfl,rfl⟩
    ·exact a1 m t ob hm
   ·cases h;exact⟨_,_,dv ..⟩
  cases a with
  |kp ys=>
   have h:(bif ex||ok then Rd.ret (v,[(c9 n,eP.o (.row e ex ys))])else .fail).val σ=ah (v',ws):=by unfold Da at h;rw[hs]at h;exact h
   obtain⟨h1,h⟩:=cR h;obtain⟨rfl,rfl⟩:=bY (aJ h);refine⟨[(n,ah (dU p j), .row e ex ys)],rfl,λm t ob hm=> ?_,λm e' uG h=> ?_, .inr ⟨n,dU p j,_,hv n e ex hs,rfl,a_.2 rfl⟩⟩
   ·rw[a_]at hm;cases hm;exact .inr (.inl ⟨e,ex,ys,hs,rfl,rfl,rfl,by simpa using h1⟩)
   ·cases h;exact⟨_,_,a_.2 rfl⟩
  |_=>exact other (by unfold Da at h;rw[hs]at h;exact h)
theorem Mc{ok:aU}{b p:aE}:∀{r:az Pk} {vs:az AV} {l:az AA} {j:aE} {KJ:az AV} {ws:az (aE×eP)},(∀(i:aE) (k:Pk) (n e:aE) (ex:aU),r[i]? =ah k->k.src= .own n e ex->vs[i]? =ah (.own n))->(r_ ok (b+j) r vs l).val σ=ah (KJ,ws)->
  l.length=r.length/\∃L,ws=mI L/\(∀n t ob,(n,t,ob)∈L->∃i k,r[i]? =ah k/\rk σ ok ai b p (j+i) k (l.getD i .nl) n t ob)/\
  (∀(i:aE) (k:Pk) (n e:aE) (ex:aU),r[i]? =ah k->k.src= .own n e ex->∃t ob,(n,t,ob)∈L)/\KJ.length=l.length/\∀(i:aE) (v:AV) (a:AA),KJ[i]? =ah v->l[i]? =ah a->mh ok L v (tX p (j+i) a):=by
 intro r;induction r with
 |nil=>
  intro vs l j KJ ws hv h;cases vs with
  |cons=>cases l<;>simp[r_]at h
  |nil=>
   cases l with
   |cons=>simp[r_]at h
   |nil=>obtain⟨rfl,rfl⟩:=bY (aJ h);exact⟨rfl,[],rfl,λn t ob h=>(by cases h),λi k n e ex h=>by simp at h,rfl,λi v a h=>by simp at h⟩
 |cons k r ih=>
  intro vs l j KJ ws hv h;cases vs with
  |nil=>cases l<;>simp[r_]at h
  |cons v vs=>
   cases l with
   |nil=>simp[r_]at h
   |cons a l=>
    obtain⟨⟨v1,w1⟩,h1,h⟩:=Rd.bind_some h;obtain⟨⟨vr,w2⟩,h2,h⟩:=Rd.bind_some h;obtain⟨rfl,rfl⟩:=bY (aJ h);obtain⟨L1,rfl,a1,a2,a3⟩:=Qh (p:=p) (λn e ex hs=>by have:=hv 0 k n e ex rfl hs;simpa using this) h1;obtain⟨i0,L2,rfl,b1,b2,b3,b4⟩:=ih (j:=j+1) (λi k' n e ex hk hs=>hv (i+1) k' n e ex hk hs) h2;refine⟨by simp[i0],L1++L2,by rw[iO],λn t ob hm=> ?_,λi k' n e ex hk hs=> ?_,by simp[b3],λi v' a' hv' ha'=> ?_⟩
    ·rcases bf.1 hm with hm|hm
     ·exact⟨0,k,rfl,a1 n t ob hm⟩
     ·obtain⟨i,k',hk,hc⟩:=b1 n t ob hm;exact⟨i+1,k',hk,by rw[show j+(i+1)=j+1+i by omega];exact hc⟩
    ·cases i with
     |zero=>cases hk;obtain⟨t,ob,h⟩:=a2 n e ex hs;exact⟨t,ob,bN _ h⟩
     |succ i=>obtain⟨t,ob,h⟩:=b2 i k' n e ex hk hs;exact⟨t,ob,bO _ h⟩
    ·cases i with
     |zero=>cases hv';cases ha';exact a3.mono (λe he=>bN _ he)
     |succ i=>have:=(b4 i v' a' hv' ha').mono (L':=L1++L2) (λe he=>bO _ he);rwa[show j+1+i=j+(i+1)by omega]at this
def IU(σ:St)(ok:aU)(b p:aE)(pa:Pa)(l:az AA)(L:az DV)(n:aE)(t:aA aE)(ob:Obj):Prop:=
 (∃i k,pa.cs[i]? =ah k/\rk σ ok pa.box.isSome b p i k (l.getD i .nl) n t ob)\/∃xs KJ,pa.box=ah (n,xs)/\t=ah (dU p 900)/\ob= .box KJ/\nT ok L KJ (oi p 0 l)
theorem Vc{T:Tab}{nP:az aE}{v:bn}{ok:aU}{b p:aE}{pa:Pa}(LL:AY T σ w c nP pa v){l:az AA}{ws:az (aE×eP)}(h:(Vb ok b pa l).val σ=ah ws):
  ∃L,ws=mI L/\(∀n t ob,(n,t,ob)∈L->IU σ ok b p pa l L n t ob)/\∀n∈pa.uK,∃t ob,(n,t,ob)∈L:=by
 have cs:∀n,n∈pa.cs.flatMap (·.uK)->∃(i:aE) (k:Pk) (e:aE) (ex:aU),pa.cs[i]? =ah k/\k.src= .own n e ex:=by
  intro n hn;obtain⟨k,hk,hn⟩:=bQ.1 hn;obtain⟨i,hi⟩:=b7 hk;unfold Pk.uK at hn;split at hn
  ·rename_i m e ex hs;have:=a_.1 hn;subst this;exact⟨i,k,e,ex,hi,hs⟩
  ·cases hn
 unfold Vb at h;split at h
 ·rename_i n xs hb;obtain⟨⟨KJ,w1⟩,h1,h⟩:=Rd.bind_some h;obtain rfl:=aJ h;obtain⟨_,_,_,hl,_,wk⟩:=LL.box n xs hb;obtain⟨i0,L,rfl,a1,a2,a3,a4⟩:=Mc (b:=b) (p:=p) (j:=0) wk (by rw[yZ];exact h1);have cr:nT ok L KJ (oi p 0 l):=by
   refine⟨by rw[vB,a3],λi v v3 hv Et=> ?_⟩
   rw[wv]at Et;cases hx:l[i]? with
   |none=>rw[hx]at Et;cases Et
   |some y=>rw[hx]at Et;cases Et;exact a4 i v y hv hx
  refine⟨L++[(n,ah (dU p 900), .box KJ)],by rw[iO];rfl,λm t ob hm=> ?_,λm hm=> ?_⟩
  ·rcases bf.1 hm with hm|hm
   ·obtain⟨i,k,hk,hc⟩:=a1 m t ob hm;rw[bX]at hc;exact .inl ⟨i,k,hk,by rw[hb];exact hc⟩
   ·rw[a_]at hm;cases hm;exact .inr ⟨xs,KJ,hb,rfl,rfl,cr.mono (λe he=>bN _ he)⟩
  ·unfold Pa.uK at hm;rw[hb]at hm;rcases bf.1 hm with hm|hm
   ·have:=a_.1 hm;subst this;exact⟨_,_,bO _ (a_.2 rfl)⟩
   ·obtain⟨i,k,e,ex,hk,hs⟩:=cs m hm;obtain⟨t,ob,h⟩:=a2 i k m e ex hk hs;exact⟨t,ob,bN _ h⟩
 ·rename_i hb;obtain⟨L,rfl,a1,a2⟩:=Qj (b:=b) (p:=p) (j:=0) h;refine⟨L,rfl,λm t ob hm=> ?_,λm hm=> ?_⟩
  ·obtain⟨i,k,hk,hc⟩:=a1 m t ob hm;rw[bX]at hc;exact .inl ⟨i,k,hk,by rw[hb];exact hc⟩
  ·unfold Pa.uK at hm;rw[hb,gF]at hm;obtain⟨i,k,e,ex,hk,hs⟩:=cs m hm;exact a2 i k m e ex hk hs
theorem IU.mono{ok:aU}{b p:aE}{pa:Pa}{l:az AA}{L L':az DV}{n:aE}{t:aA aE}{ob:Obj}(h:IU σ ok b p pa l L n t ob)(hs:∀e∈L,e∈L'):IU σ ok b p pa l L' n t ob:=
 h.imp id (λ⟨xs,KJ,h1,h2,h3,h4⟩=>⟨xs,KJ,h1,h2,h3,h4.mono hs⟩)
theorem Qi{T:Tab}{nP:az aE}{ok:aU}:∀{ps:az Pa} {b p:aE} {os:az (az AA)} {ws:az (aE×eP)},(∀(q:aE) (pa:Pa),ps[q]? =ah pa->∃v,AY T σ w c nP pa v)->(Me ok b ps os).val σ=ah ws->
  ∃L,ws=mI L/\(∀n t ob,(n,t,ob)∈L->∃q pa,ps[q]? =ah pa/\IU σ ok (b+40*q) (p+q) pa (os.getD q []) L n t ob)/\∀n∈ps.flatMap (·.uK),∃t ob,(n,t,ob)∈L:=by
 intro ps;induction ps with
 |nil=>intro b p os ws _ h;obtain rfl:=aJ h;exact⟨[],rfl,λn t ob h=>(by cases h),λn h=>(by cases h)⟩
 |cons pa ps ih=>
  intro b p os ws HJ h;obtain⟨w1,h1,h⟩:=Rd.bind_some h;obtain⟨w2,h2,h⟩:=Rd.bind_some h;obtain rfl:=aJ h;obtain⟨v,LL⟩:=HJ 0 pa rfl;obtain⟨L1,rfl,a1,a2⟩:=Vc (p:=p) LL h1;obtain⟨L2,rfl,b1,b2⟩:=ih (p:=p+1) (λq pa' hq=>HJ (q+1) pa' hq) h2;have e0:os.headD []=os.getD 0 []:=by cases os<;>rfl
  have e1:∀i,os.tail.getD i []=os.getD (i+1) []:=λi=>by cases os<;>simp
  refine⟨L1++L2,by rw[iO],λn t ob hm=> ?_,λn hn=> ?_⟩
  ·rcases bf.1 hm with hm|hm
   ·exact⟨0,pa,rfl,by rw[<-e0];exact(a1 n t ob hm).mono (λe he=>bN _ he)⟩
   ·obtain⟨q,pa',hq,hc⟩:=b1 n t ob hm;rw[e1]at hc;refine⟨q+1,pa',hq, ?_⟩
    rw[show b+40*(q+1)=b+40+40*q by omega,show p+(q+1)=p+1+q by omega];exact hc.mono (λe he=>bO _ he)
  ·rw[yX]at hn;rcases bf.1 hn with hn|hn
   ·obtain⟨t,ob,h⟩:=a2 n hn;exact⟨t,ob,bN _ h⟩
   ·obtain⟨t,ob,h⟩:=b2 n hn;exact⟨t,ob,bO _ h⟩
theorem Tt:∀{l:az aE} {ws:az (aE×eP)},(Ts l).val σ=ah ws->∃Fz:az (aE×Obj),ws=kB Fz/\(∀n x,(n,x)∈Fz->n∈l/\∃el ex xs,σ (c9 n)= .o (.row el ex xs)/\x= .fW el xs)/\∀n∈l,∃x,(n,x)∈Fz:=by
 intro l;induction l with
 |nil=>intro ws h;obtain rfl:=aJ h;exact⟨[],rfl,λn x h=>(by cases h),λn h=>(by cases h)⟩
 |cons m l ih=>
  intro ws h;obtain⟨ob,hg,h⟩:=Rd.bind_some h;have hg:=dz hg;cases ob with
  |row el ex xs=>
   obtain⟨w1,h1,h⟩:=Rd.bind_some h;obtain rfl:=aJ h;obtain⟨Fz,rfl,a1,a2⟩:=ih h1;refine⟨(m, .fW el xs)::Fz,rfl,λn x hm=> ?_,λn hn=> ?_⟩
   ·rcases cB.1 hm with hm|hm
    ·cases hm;exact⟨dv ..,el,ex,xs,hg,rfl⟩
    ·obtain⟨h1,h2⟩:=a1 n x hm;exact⟨c7 _ h1,h2⟩
   ·rcases cB.1 hn with rfl|hn
    ·exact⟨_,dv ..⟩
    ·obtain⟨x,h⟩:=a2 n hn;exact⟨x,c7 _ h⟩
  |_=>simp at h
end
end Go.FG

namespace Go.FG
section
variable {P:cZ} {E:fT} {σ:St} {a:Act} {w:bM} {c:eZ} {o:fu} {nm:aE} {e:tc}
theorem amO{T:Tab}{nP:az aE}{pa:Pa}{v:bn}(h:AY T σ w c nP pa v):∃xs,MP pa.arg xs/\xs=pa.cs.map (·.a)/\∀(j:aE) (k:Pk),pa.cs[j]? =ah k->∃u,vU T σ w c nP k u:=by
 have h1:MP pa.arg (pa.cs.map (·.a)):=by
  cases hb:pa.box with
  |none=>obtain⟨g,h1,_⟩:=h.val hb;exact .inl ⟨g,h1⟩
  |some nx=>obtain⟨n,xs⟩:=nx;exact .inr (h.box n xs hb).1
 exact⟨_,h1,rfl,(Vf h h1).2⟩
theorem X9{l:az AA}{i:aE}{ys:aQ}(h:l.getD i .nl= .kp ys):l[i]? =ah (.kp ys):=by
 rw[cY]at h;cases hx:l[i]? with
 |none=>rw[hx]at h;cases h
 |some x=>rw[hx]at h;rw[<-h];rfl
theorem F7{f:aE}{fn:Func}{vs psv:dt bn}{cl:Call}{fx:dy}(ho:o.op= .call cl)(hc:cl.callee= .value fx)(hf:P.funcs[f]? =ah fn)(hb:fn.body.isSome=ai)(hn:(fn.name== "runtime.NumGoroutine")=ak)(he:a.eval fx= .func (.func f) #[] psv):
  (execOp a.eval o).run P w= .ok (.enter f (cl.args.map a.eval++psv)) w:=by
 have Q9:fn.body.isNone=false:=by cases h:fn.body<;>simp_all
 unfold execOp;rw[ho];simp only[resolve,hc,he,Deferred.ofValue,cj,cT,bI,invoke,callFunc,program,nB,hf,hn,Q9,dx,if_false,Array.empty_append]
def nameOf(nm:aE)(ps:az Pa)(P J:aE):aA aE:=
 if 500<=P then ah (if J=900 then nm+1+40*(P-500)+30 else nm+1+40*(P-500)+J)
 else if J<100\/J=900 then loc ps (dU P J)else ah (nm+400+40*P+(J-100))
theorem oY:∀{l r:az aE},rO l r=ai->∀n∈l,n∉r
 |[],_,_,n,h=>by cases h
 |m::l,r,h,n,hn=>by
  simp only[rO,aM,dp]at h;rcases cB.1 hn with rfl|hn
  ·exact qt h.1
  ·exact oY h.2 n hn
theorem J8(hE:eA P E)(hF:∀g,lY P E g (E.call g))(cg:Ok E σ w c)(dI:fy E σ a w c)(hd:∀d,o.dst=ah d->d<a.tmps.size){cl:Call}{fx:dy}(ho:o.op= .call cl)(hb:cl.callee= .value fx){f:aE}{iW:az (az CV)}(ef:eF E w c (.fn f iW) (a.eval fx)){Rg:aA (az aE)}(h:(Hn E nm o f cl.args.toList Rg iW).val σ=ah e)(hc:e.cond=ai):gZ P E σ a w c o e.ws:=by
  obtain⟨psv,he,HJ,ajV⟩:=ef;unfold Hn at h;obtain⟨ps,h2,h⟩:=Rd.bind_some h;obtain⟨h3,h⟩:=cR h;simp only[aM]at h3;obtain⟨hlen,LL⟩:=SX cg dI h2;split at h
  ·rename_i cnd r JE;obtain⟨h4,h⟩:=cR h;simp only[aM]at h4;obtain⟨w0,h5,h⟩:=Rd.bind_some h;obtain⟨w1,h6,h⟩:=Rd.bind_some h;obtain⟨⟨ss,w2⟩,h7,h⟩:=Rd.bind_some h;obtain⟨h8,h⟩:=cR h;obtain rfl:=aJ h;have hc:cnd=true:=hc;subst hc;have aAJ:=cM h4.1.1;have atY:∀{q:aE} {pa:Pa},ps[q]? =ah pa->∀n∈pa.nP,n∈ps.flatMap (·.nP):=λhq n hn=>bQ.2 ⟨_,aR hq,hn⟩;have hh:Handed E σ w c ps iW (cl.args.map a.eval++psv):=by
    refine⟨by simp[HJ,hlen],λq pa hq=> ?_,λq cs hq=> ?_,qQ h3.1,oY h3.2⟩
    ·obtain⟨x,hx,hp⟩:=LL q pa hq;rw[cX]at hx;have Yl:=(dV.1 hx).1;exact⟨a.eval x,by rw[EK (by simpa using Yl),O9,hx];rfl,hp.mono (atY hq)⟩
    ·obtain⟨b,Q9,hf⟩:=ajV q cs hq;refine⟨b, ?_,hf⟩
     rw[Array.getElem?_append_right (by simp[hlen]),<-Q9];congr 1;simp[hlen]
   have af0:∀(q:aE) (pa:Pa),ps[q]? =ah pa->∃v,AY E σ w c (ps.flatMap (·.nP)) pa v:=λq pa hq=>by obtain⟨v,_,h⟩:=hh.at_ q pa hq;exact⟨v,h⟩
   obtain⟨TC,atZ,_⟩:=enter cg hh;have gj:(cl.args.map a.eval++psv).size=(jM ps iW).length:=by simp[jM,HJ,hlen]
   have afL:E.call f (jM ps iW)=ah (ai,r):=JE;obtain⟨⟨fn,g1,g2,g3⟩,LG⟩:=hF f _ r afL w (qM σ c ps) _ TC gj atZ;obtain⟨Fz,rfl,z1,z2⟩:=Tt h5;obtain⟨Lo,rfl,l1,l2⟩:=Qi (p:=0) af0 h6;obtain⟨Lr,rfl,m1,m2⟩:=Jc (P:=500) h7;generalize akh:(E.tk nm||(ps.flatMap (·.nP)).isEmpty)=ok at l1 m1 m2;have hsm:Small (jM ps iW) r:=by
    refine⟨λp x xs hp hx=> ?_,λq x xs hq hx=> ?_,λp=> ?_⟩
    ·rcases wc hp with ⟨pa,hq,_⟩|⟨_,cs,_,rfl⟩
     ·have:=(aT.1 hq).1;omega
     ·rcases hx with ⟨g,hx⟩|hx<;>cases hx
    ·have:=bu.1 h4.1.2 x (aR hq);have:=cM this;rcases hx with ⟨g,rfl⟩|rfl<;>(simp only[nE]at this;omega)
    ·rw[cY];cases hx:r.outs[p]? with
     |none=>simp
     |some l=>have:=bu.1 h4.2 l (aR hx);exact cM this
   have Jb:∀{q:aE} {pa:Pa},ps[q]? =ah pa->(jM ps iW)[q]? =ah pa.arg:=λ{q} {pa} hq=>by have:=(aT.1 hq).1;unfold jM;rw[dF (by simpa using this),bL,hq];rfl
   have J4:∀{q:aE} {pa:Pa} {n:aE},ps[q]? =ah pa->n∈pa.uK->n∈ps.flatMap (·.uK):=λhp hn=>bQ.2 ⟨_,aR hp,hn⟩;have ajJ:∀{q i n e:aE} {ex:aU} {pa:Pa} {k:Pk},ps[q]? =ah pa->pa.cs[i]? =ah k->k.src= .own n e ex->n∈ps.flatMap (·.uK):=λhq hk hs=>J4 hq (bO _ (bQ.2 ⟨_,aR hk,by simp[Pk.uK,hs]⟩));have small:∀{q i:aE} {pa:Pa} {k:Pk},ps[q]? =ah pa->pa.cs[i]? =ah k->i<100:=λhq hk=>by obtain⟨v,hv⟩:=af0 _ _ hq;have:=(aT.1 hk).1;have:=hv.len;omega
   unfold gZ;intro K Q hK;unfold Pb;rw[F7 (vs:=cl.args.map a.eval++psv) ho hb g1 g2 g3 he,WK];refine Calls.mono LG (λen w'' hR=> ?_);cases en with
   |panicked=>exact hR.elim
   |outgrown=>exact hR.elim
   |returned v=>
    obtain⟨c3,HI,yO,uH,yP⟩:=hR;have gi:∀m,inj (jM ps iW) (c9 m)≠ .j9->c3.P m=(qM σ c ps).P m/\c3.G m=(qM σ c ps).G m:=uH;have hL:∀n t ob,(n,t,ob)∈Lo++Lr->aaM σ (oA (jM ps iW) r) c c3 ok (ps.flatMap (·.uK)) (Lo++Lr) n t ob/\∀x,t=ah x->∃PP J,x=dU PP J/\J<1000/\nameOf nm ps PP J=ah n:=by
     intro n t ob hm;rcases bf.1 hm with hm|hm
     ·obtain⟨q,pa,hq,vx⟩:=l1 n t ob hm;obtain⟨v0,Rb⟩:=af0 q pa hq;obtain⟨xs,hx1,Rc,hx3⟩:=amO Rb;have Yl:=(aT.1 hq).1;rw[bX]at vx;rcases vx with ⟨i,k,hk,hco⟩|⟨ys,KJ,hbx,rfl,rfl,hcr⟩
      ·have hi:=small hq hk;rcases hco with ⟨e',ex,hs,rfl,rfl⟩|⟨e',ex,ys,hs,ha,rfl,rfl,hex⟩|⟨e',ex,ys,hbx,ha,rfl,rfl,rfl,hex,hf,jt⟩
       ·refine⟨⟨λ_=>ajJ hq hk hs,λhn=> ?_,λ_=>rfl,λx hx=>(by cases hx)⟩,λx hx=>(by cases hx)⟩
        obtain⟨u,hu⟩:=hx3 i k hk;unfold vU at hu;rw[hs]at hu;obtain⟨zs,hg,_⟩:=hu;rw[hg]at hn;cases hn
       ·obtain⟨u,hu⟩:=hx3 i k hk;unfold vU at hu;rw[hs]at hu;obtain⟨zs,hg,hka,_⟩:=hu;refine⟨⟨λ_=>ajJ hq hk hs,λhn=>(by rw[hg]at hn;cases hn),λhx=>(by cases hx),λx hx=> ?_⟩,λx hx=> ?_⟩
        ·cases hx;refine⟨λ_=> ?_, .inl ⟨e',ex,ys,rfl, ?_,hex⟩⟩
         ·obtain⟨q1,q2⟩:=gi (dU q i) ((qO (Jb hq)).2 xs i e' ex zs hx1 (by rw[Rc,bL,hk];simp[hka]));obtain⟨q3,q4⟩:=uE (σ:=σ) (c:=c) (HS hq hk hs (by omega));exact⟨q1.trans q3,q2.trans q4⟩
         ·exact xJ hsm (.kp q pa.arg xs i e' ex zs ys (Jb hq) hx1 (by rw[Rc,bL,hk];simp[hka]) (X9 ha))
        ·cases hx;refine⟨q,i,rfl,by omega, ?_⟩
         unfold nameOf;rw[bJ (by omega),bA (.inl hi)];exact HS hq hk hs (by omega)
       ·have hla:=HB.1 ha;refine⟨⟨λhn=>cL hf hn,λ_=>jt,λhx=>(by cases hx),λx hx=> ?_⟩,λx hx=> ?_⟩
        ·cases hx;exact⟨λhn=>cL hf hn, .inl ⟨e',ex,ys,rfl,xJ hsm (.nw q pa.arg xs i e' ex ys (Jb hq) hx1 hla),hex⟩⟩
        ·cases hx;refine⟨q,100+i,rfl,by omega, ?_⟩
         unfold nameOf;rw[bJ (by omega),bJ (by omega)];congr 1;omega
      ·obtain⟨p1,p2,p3,_⟩:=Rb.box n ys hbx;refine⟨⟨λ_=>J4 hq (by simp[Pa.uK,hbx]),λhn=>(by rw[p3]at hn;cases hn),λhx=>(by cases hx),λx hx=> ?_⟩,λx hx=> ?_⟩
       ·cases hx;refine⟨λ_=> ?_, .inr ⟨KJ,_,rfl,xJ hsm (.ob q _ (by rw[Jb hq,p1])),hcr.mono (λe he=>bN _ he)⟩⟩
        obtain⟨q1,q2⟩:=gi (dU q 900) ((qO (Jb hq)).1 _ p1);obtain⟨q3,q4⟩:=uE (σ:=σ) (c:=c) (BN hq hbx);exact⟨q1.trans q3,q2.trans q4⟩
       ·cases hx;refine⟨q,900,rfl,by omega, ?_⟩
        unfold nameOf;rw[bJ (by omega),bA (.inr rfl)];exact BN hq hbx
     ·obtain⟨q,x0,hq,hra⟩:=m1 n t ob hm;rcases hra with ⟨xs,j,e',ex,ys,hx,hj,rfl,rfl,rfl,hex,hf,jt⟩|⟨xs,rfl,rfl,rfl,rfl,hf,jt,hcr⟩
      ·have j8:=(aT.1 hj).1;have:=hsm.rl q x0 xs hq hx;refine⟨⟨λhn=>cL hf hn,λ_=>jt,λhx=>(by cases hx),λx pL=> ?_⟩,λx pL=> ?_⟩
       ·cases pL;exact⟨λhn=>cL hf hn, .inl ⟨e',ex,ys,rfl,xJ hsm (.rr q x0 xs j e' ex ys hq hx hj),hex⟩⟩
       ·cases pL;refine⟨500+q,j,rfl,by omega, ?_⟩
        unfold nameOf;rw[bA (by omega),bJ (by omega),show 500+q-500=q by omega]
      ·refine⟨⟨λhn=>cL hf hn,λ_=>jt,λhx=>(by cases hx),λx pL=> ?_⟩,λx pL=> ?_⟩
       ·cases pL;exact⟨λhn=>cL hf hn, .inr ⟨_,_,rfl,xJ hsm (.rb q xs hq),hcr.mono (λe he=>bO _ he)⟩⟩
       ·cases pL;refine⟨500+q,900,rfl,by omega, ?_⟩
        unfold nameOf;rw[bA (by omega),bA rfl,show 500+q-500=q by omega]
    have JL:((Lo++Lr).map (·.1)).Nodup:=by
     have:=qQ h8;rw[<-iO]at this;unfold mI kB at this;rw[mz,mz]at this;have e1:(Lo++Lr).map (((λx:aE×eP=>x.1)∘λd:aE×Obj=>(c9 d.1,eP.o d.2))∘λt:DV=>(t.1,t.2.2))=((Lo++Lr).map (·.1)).map c9:=by rw[mz];rfl
     rw[e1]at this;exact rX this
    have TD:ok=ai->∀n∈ps.flatMap (·.nP),∃x,(n,x)∈Fz:=by
     intro hk n hn;rw[<-akh]at hk;cases HL:E.tk nm with
     |true=>rw[HL]at z2;exact z2 n hn
     |false=>
      rw[HL]at hk;have:ps.flatMap (·.nP)=[]:=by simpa using hk
      rw[this]at hn;cases hn
    have hFz:∀n x,(n,x)∈Fz->ok=ai/\n∈ps.flatMap (·.nP)/\∃el ex xs,σ (c9 n)= .o (.row el ex xs)/\x= .fW el xs:=by
     intro n x hn;obtain⟨y1,y2⟩:=z1 n x hn;cases HL:E.tk nm with
     |true=>rw[HL]at y1;exact⟨by rw[<-akh,HL];rfl,y1,y2⟩
     |false=>rw[HL]at y1;cases y1
    have hws:kB Fz++(mI Lo++mI Lr)++dw o (sH ss)=kB (Fz++(Lo++Lr).map λt=>(t.1,t.2.2))++dw o (sH ss):=by rw[<-iO];simp only[mI,kB,dh]
    obtain⟨c',k1,k2,k3,k4⟩:=leave cg dI hd hh HI yO yP (L:=Lo++Lr) (Fz:=Fz) (λn t ob hm=>(hL n t ob hm).1) JL
     (λn n' x ob ob' h1 h2=>by obtain⟨P1,J1,e1,e2,e3⟩:=(hL n _ ob h1).2 x rfl;obtain⟨P2,J2,f1,f2,f3⟩:=(hL n' _ ob' h2).2 x rfl;obtain⟨rfl,rfl⟩:=uM e2 f2 (e1.symm.trans f1);rw[e3]at f3;exact aJ f3)
     (λn hn=>by obtain⟨t,ob,h⟩:=l2 n hn;exact⟨t,ob,bN _ h⟩) hFz TD
     (show Gf ok (Lo++Lr) ss (lK 500 r.rs)from⟨m2.1,λj x x3 hx hx3=>(m2.2 j x x3 hx hx3).mono (λe he=>bO _ he)⟩)
    show K (a.put o.dst v) w'';rw[<-hws]at k1 k2 k3;exact hK v w'' c' k1 k2 k3 k4.w
  ·simp at h
theorem H6(cg:Ok E σ w c)(dI:fy E σ a w c){o:fu}(hd:∀d,o.dst=ah d->d<a.tmps.size){nm:aE}{ob ob':Obj}{s:SV}{v:bn}{w':bM}
  (hn:σ (c9 nm)= .o ob) (na:pU E w' c nm ob') (pZ:∀b,fL c nm ob' b->fL c nm ob b)
  (JJ:∀xs,ob'= .box xs->∀a∈xs,jk σ a)
  (yP:jm E w' c s v) (Bj:mX σ s)
  (hW:∀b,b<w.heap.size->¬fL c nm ob b->w'.heap[b]? =w.heap[b]?) (gj:w.heap.size<=w'.heap.size) (PZ:w'.os=w.os) (Yo:w'.tape=w.tape) (Yi:w'.output=w.output):
  Ok E (wr σ ([(c9 nm, .o ob')]++dw o s)) w' c/\fy E (wr σ ([(c9 nm, .o ob')]++dw o s)) (a.put o.dst v) w' c/\oG σ c w (wr σ ([(c9 nm, .o ob')]++dw o s)) c w':=by
 let σ1:=pS σ (c9 nm) (.o ob');obtain⟨s1,s2,s3⟩:=sg σ1 o s;have key:∀m,wr σ1 (dw o s) (c9 m)=if m=nm then .o ob' else σ (c9 m):=λm=>by rw[s3];exact qd _ _ _ _
 have iz:∀m,σ (c9 m)≠ .j9->wr σ1 (dw o s) (c9 m)≠ .j9:=λm hm=>by rw[key];split<;>simp_all
 have gC:∀b,fL c nm ob b->ka (λm=>m=nm) σ c b:=λb hb=>⟨nm,ob,rfl,hn,hb⟩
 have hh:=cg.change (σ':=wr σ1 (dw o s)) (w':=w') (c':=c) (λm=>m=nm) (λm hm=>by rw[key,bJ hm]) iz (jE.refl _ _)
  (λb hb Yg=>hW b hb (λhf=>Yg (gC b hf))) gj (λ_ h=>h) (λ_ h=> .inl h) (λb hb=>jy (cg.lt b hb) gj)
  (λm x hm ho=>by subst hm;rw[key,bA rfl]at ho;cases ho;exact na)
  (λm x b hm ho hf=>by subst hm;rw[key,bA rfl]at ho;cases ho;exact⟨.inl (gC b (pZ b hf)),cg.kk _ _ b hn (pZ b hf)⟩)
  (λm x m' x' b hm xS _ _ _ _=>by rw[hm,xS])
  (λm xs hm ho y hy n kP=>by subst hm;rw[key,bA rfl]at ho;cases ho;exact iz n (JJ xs rfl y hy n kP)) PZ Yo Yi
 refine⟨hh.1, ?_,hh.2⟩
 refine dI.change cg hh.2 (jE.refl _ _) iz o v (λn kP=>by rw[s1 n kP];exact js _ _ _ _) (λd ho=>⟨hd d ho, ?_, ?_⟩)
 ·rw[s2 d ho];exact yP
 ·rw[s2 d ho];intro n kP;rw[key];split
  ·simp
  ·exact Bj n kP
theorem L_(hE:eA P E)(hF:∀g,lY P E g (E.call g))(cg:Ok E σ w c)(dI:fy E σ a w c)(hd:∀d,o.dst=ah d->d<a.tmps.size){cl:Call}{fx x y:dy}(ho:o.op= .call cl)(hb:cl.callee= .value fx)(sD:cl.args.toList=[x,y])
  {f n i j:aE} (ef:eF E w c (.fn f []) (a.eval fx)) (hx:eF E w c (.inn n i j) (a.eval x)) (h:(CU E o f n i j y).val σ=ah e) (hc:e.cond=ai):gZ P E σ a w c o e.ws:=by
 unfold CU at h;obtain⟨⟨k,m⟩,h1,h⟩:=Rd.bind_some h;have ey:=qa dI h1;obtain⟨ob,h2,h⟩:=Rd.bind_some h;have hg:=dz h2;split at h
 ·rename_i el xs;obtain⟨te,h3,h⟩:=Rd.bind_some h;have h6:=dX h3;split at h
  ·rename_i e2 Az;split at h
   ·rename_i cnd r JE;split at h
    ·rename_i k2 m2 DT hrs JO;obtain rfl:=aJ h;have hc:cnd=true:=hc;subst hc;obtain⟨⟨hi,hxv⟩,_⟩:=hx;obtain⟨zs,yy,t2,r1,r2,r3,r4,r5,r6,r7,r8⟩:=BM cg hg h6 Az hi;rw[fC r1 r2]at JE;simp only[iX]at JE;obtain⟨⟨t1,q1,gj,mT⟩,gi,gC⟩:=cg.obj n _ hg;obtain rfl:te=t1:=aJ (h6.symm.trans q1);have mm:i<xs.length:=(aT.1 r1).1;obtain⟨jA,pv,hpb⟩:=gi.pos hi;have El:gm xs i j:=⟨yy,_,r1,r2,rfl⟩
     generalize hq:c.G n i j=p at r5 r7 r8 hxv;let c1:eZ:=⟨λ_=>p,λ_ _ _=>⟨ai,0,0,0,0,0⟩,c.K⟩
     let args:az fa:=[.v ak [.ow e2 ai zs], .v ak [.i k m]]
     have hO:∀q o',inj args (c9 q)= .o o'->q=dU 0 0/\o'= .row e2 ai zs:=by
      intro q o' hq';have hm:=n6 hq' (by simp);simp only[args,LQ,tM,vA,tL,FJ,cB,dj,gF,Cd,fQ,or_false,jj]at hm;rcases hm with ⟨hm,_⟩|⟨hm,h⟩|⟨hm,_⟩
      ·exact cL hm (mC _ _)
      ·exact⟨j4 hm,eP.o.inj h⟩
      ·exact cL hm (mC _ _)
     have hX:inj args (c9 (dU 0 0))= .o (.row e2 ai zs):=rfl;have C5:∀i j,¬gm zs i j:=by rintro i j ⟨y,x,h1,h2,h3⟩;rw[iv r4 (r6 y (aR h1)) h2]at h3;cases h3
     have JF:∀b,fL c1 (dU 0 0) (.row e2 ai zs) b->p.nil=ak/\b=p.blk:=by
      rintro b (⟨h1,h2⟩|⟨_,i,j,h,_⟩)
      ·exact⟨h1,h2⟩
      ·exact cL h (C5 i j)
     have hpf:p.nil=ak->fL c n (.row el ai xs) p.blk:=λhn=> .inr ⟨rfl,i,j,El,by rw[hq];exact hn,by rw[hq]⟩;have TC:Ok E (inj args) w c1:=by
      refine⟨?_, ?_, ?_, ?_, ?_⟩
      ·intro q o' h;obtain⟨rfl,rfl⟩:=hO q o' h;exact⟨⟨t2,r3,r5,r6⟩,r7.frame (λ_=>rfl) (λi j y x u h1 h2 hr=>by rw[bA rfl];exact uQ (iv r4 (r6 y (aR h1)) h2) hr),λ_=>⟨λi j h=>cL h (C5 i j),λi j i' j' h=>cL h (C5 i j)⟩⟩
      ·intro q o' q' o'' b h h' _ _;rw[(hO q o' h).1,(hO q' o'' h').1]
      ·intro q o' b h hf hk;obtain⟨rfl,rfl⟩:=hO q o' h;obtain⟨hn,rfl⟩:=JF b hf;exact cg.kk _ _ _ hg (hpf hn) hk
      ·exact cg.lt
      ·intro q bs h;obtain⟨_,h⟩:=hO q _ h;cases h
     have TK:(cl.args.map a.eval).size=args.length:=by
      have:cl.args.size=2:=by rw[<-dS,sD];rfl
      simp[args,this]
     have W4:cl.args.map a.eval= #[a.eval x,a.eval y]:=by apply sJ;rw[AM,sD];rfl
     obtain⟨psv,he,HJ,_⟩:=ef;have atP:psv= #[]:=AL (by simpa using HJ);subst atP;obtain⟨⟨fn,g1,g2,g3⟩,LG⟩:=hF f args r JE w c1 #[a.eval x,a.eval y] TC rfl (by
      intro q arg hqa;match q with
      |0=>cases hqa;exact⟨_,rfl,hxv⟩
      |1=>cases hqa;exact⟨_,rfl,ey⟩
      |q+2=>cases hqa)
     unfold gZ;intro K Q hK;unfold Pb;rw[F7 (vs:= #[a.eval x,a.eval y]) ho hb g1 g2 g3 he,W4,Array.append_empty,WK];refine Calls.mono LG (λen w' hR=> ?_);cases en with
     |panicked=>exact hR.elim
     |outgrown=>exact hR.elim
     |returned v=>
      obtain⟨c3,HI,yO,uH,yP⟩:=hR;obtain⟨rs,outs⟩:=r;simp only at hrs JO;subst hrs;subst JO;have hv:v= .int k2 m2:=yP;have hp3:c3.P (dU 0 0)=p:=(uH (dU 0 0) (by rw[hX];simp)).1;have hX3:oA args ⟨[.v ak [.i k2 m2]],[[.kp DT]]⟩ (c9 (dU 0 0))= .o (.row e2 ai DT):=rfl;obtain⟨⟨t3,u1,u2,u3⟩,u4,_⟩:=HI.obj _ _ hX3;obtain rfl:t2=t3:=aJ (r3.symm.trans u1);rw[hp3]at u2 u4;have atd:jl w' p DT (λ_ _ u x=>Sc u x):=u4.frame (λ_=>rfl) (λi j y x u h1 h2 hr=>by rw[bA rfl]at hr;exact uS hr (iv r4 (u3 y (aR h1)) h2));have rS:∀b,b<w.heap.size->¬(p.nil=ak/\b=p.blk)->w'.heap[b]? =w.heap[b]? :=λb hb LK=>yO.same b hb (by rintro ⟨q,o',h1,h2⟩;obtain⟨rfl,rfl⟩:=hO q o' h1;exact LK (JF b h2));have hjk:j<te.ks.length:=(aT.1 Az).1;have afR:[CV.l e2 DT].map CV.kd=(te.ks.drop j).take [CV.l e2 DT].length:=by rw[bC,List.take_one,List.head?_drop,Az];rfl
      have sQ:=yC (i:=i) (j:=j) (cs:=[CV.l e2 DT]) mT afR (by simp;omega) mm;have JI:=lz mT;have CQ:=lz sQ;have same:∀i' j',gm (eC xs i j [CV.l e2 DT]) i' j'->gm xs i' j':=λi' j' hx=>(JI i' j').2 (by have:=(CQ i' j').1 hx;rwa[jW]at this);have jt:∀b,fL c n (.row el ai xs) b->b<w.heap.size:=λb hb=>wS.lt cg ⟨n,_,hg,hb⟩;have afZ:p.nil=ak->(c.P n).blk≠p.blk:=λhn e=>(gC rfl).out i j El (by rw[hq];exact hn) jA (by rw[hq];exact e.symm);have oU:jl w' (c.P n) (eC xs i j [CV.l e2 DT]) (λi1 j1 u1 x1=>if ai=ai then XC E w' (c.G n) i1 j1 u1 x1 else da E w' c.K u1 x1):=by
       obtain⟨vs,k1,k2,k3,k4,k5⟩:=gi.mem jA;refine⟨by rw[jW];exact gi.n,λhn=>(by rw[jA]at hn;cases hn),λ_=>⟨vs,k1.frame (rS _ (jt _ (.inl ⟨jA,rfl⟩)) (λh=>afZ h.1 h.2)),k2,k3,k4,λi1 y1 j1 x1 g1 g2=> ?_⟩⟩
       rw[yA r1]at g1;simp only[if_true]at k5⊢;by_cases JH:i1=i
       ·subst JH;rw[bA rfl]at g1;cases g1;have JQ:yy.length=te.ks.length:=by rw[<-mT yy (aR r1)];simp
        rw[pG (by simp;omega)]at g2;by_cases hqq:j<=j1/\j1<j+[CV.l e2 DT].length
        ·rw[bA hqq]at g2;have:j1=j:=by simp at hqq;omega
         subst this;simp at g2;subst g2;obtain⟨u,hu,hr⟩:=k5 _ _ _ _ r1 r2;refine⟨u,hu,hr.1,t2,r3,r4,by rw[hq];exact r5,u3,by rw[hq];exact atd⟩
        ·rw[bJ hqq]at g2;obtain⟨u,hu,hr⟩:=k5 _ _ _ _ r1 g2;refine⟨u,hu,hr.frame (λhl hn=>rS _ (jt _ (.inr ⟨rfl,_,_,⟨yy,x1,r1,g2,hl⟩,hn,rfl⟩)) (λe=> ?_))⟩
         have:=((gC rfl).one _ _ _ _ ⟨yy,x1,r1,g2,hl⟩ El hn (by rw[hq];exact e.1) (by rw[hq];exact e.2)).2;simp at hqq;omega
       ·rw[bJ JH]at g1;obtain⟨u,hu,hr⟩:=k5 _ _ _ _ g1 g2;exact⟨u,hu,hr.frame (λhl hn=>rS _ (jt _ (.inr ⟨rfl,_,_,⟨y1,x1,g1,g2,hl⟩,hn,rfl⟩)) (λe=>JH ((gC rfl).one _ _ _ _ ⟨y1,x1,g1,g2,hl⟩ El hn (by rw[hq];exact e.1) (by rw[hq];exact e.2)).1))⟩
      obtain⟨z1,z2,z3⟩:=H6 cg dI hd hg (ob':= .row el ai (eC xs i j [CV.l e2 DT])) (w':=w') (s:= .v ak [.i k2 m2]) (v:=v)
       ⟨⟨te,q1,gj,sQ⟩,oU,λhx=>⟨λi1 j1 hh=>(gC hx).out i1 j1 (same i1 j1 hh),λi1 j1 i2 j2 h1 h2=>(gC hx).one i1 j1 i2 j2 (same i1 j1 h1) (same i2 j2 h2)⟩⟩
       (by
        rintro b (hb|⟨hx,i1,j1,hh,hn⟩)
        ·exact .inl hb
        ·exact .inr ⟨hx,i1,j1,same i1 j1 hh,hn⟩)
       (λzs hz=>by cases hz) hv (λn hn=>by simp[cO,bR]at hn)
       (λb hb Q_=>rS b hb (λe=>Q_ (by rw[e.2];exact hpf e.1))) yO.size yO.os yO.tape yO.output
      exact hK v w' c z1 z2 z3 (jE.refl _ _).w
    ·simp at h
   ·simp at h
  ·simp at h
 ·simp at h
theorem Is{α:Type}{x y:Rd α}{σ:St}{e:α}(h:(x.or y).val σ=ah e):x.val σ=ah e\/y.val σ=ah e:=by
 induction x with
 |ret a=>exact .inl h
 |fail=>exact .inr h
 |get k f ih=>
  have h':((f (σ k)).or y).val σ=ah e:=by rw[<-h];unfold Rd.val;simp only[Rd.or,Rd.run];rw[lD,lD]
  rcases ih (σ k) h' with h|h
  ·refine .inl ?_;rw[<-h];unfold Rd.val;simp only[Rd.run];rw[lD,lD]
  ·exact .inr h
theorem C7(hE:eA P E)(hF:∀g,lY P E g (E.call g))(cg:Ok E σ w c)(dI:fy E σ a w c)(hd:∀d,o.dst=ah d->d<a.tmps.size){cl:Call}{fx:dy}(ho:o.op= .call cl)(hb:cl.callee= .value fx){f:aE}{iW:az (az CV)}(ef:eF E w c (.fn f iW) (a.eval fx)){Rg:az aE}(h:(Nz E nm o f cl.args.toList Rg iW).val σ=ah e)(hc:e.cond=ai):gZ P E σ a w c o e.ws:=by
 rcases Is h with h|h
 ·exact J8 hE hF cg dI hd ho hb ef h hc
 ·exact J8 hE hF cg dI hd ho hb ef h hc
theorem ZX(hE:eA P E)(hF:∀g,lY P E g (E.call g))(cg:Ok E σ w c)(dI:fy E σ a w c)(hd:∀d,o.dst=ah d->d<a.tmps.size){cl:Call}{fx:dy}(ho:o.op= .call cl)(hb:cl.callee= .value fx)(h:(mo E nm o).val σ=ah e)(hc:e.cond=ai):gZ P E σ a w c o e.ws:=by
 simp only[mo,ho,hb]at h;obtain⟨fv,h1,h⟩:=Rd.bind_some h;have ef:=(jc dI h1).1;cases fv with
 |fn f iW=>
  simp only at h;split at h
  ·rename_i x y sD;obtain⟨sx,h2,h⟩:=Rd.bind_some h;split at h
   ·rename_i n i j;cases hm:E.mode f 0 with
    |true=>rw[hm,au]at h;exact L_ hE hF cg dI hd ho hb sD ef (mD dI h2).1 h hc
    |false=>rw[hm,aw]at h;exact C7 hE hF cg dI hd ho hb ef h hc
   ·exact C7 hE hF cg dI hd ho hb ef h hc
  ·exact C7 hE hF cg dI hd ho hb ef h hc
 |_=>simp at h
end
end Go.FG

namespace Go.FG
section
variable {P:cZ} {E:fT} {σ:St} {a:Act} {w:bM} {c:eZ} {o:fu} {nm:aE} {e:tc}
theorem amN(hE:eA P E)(hF:∀g,lY P E g (E.call g))(cg:Ok E σ w c)(dI:fy E σ a w c)(hd:∀d,o.dst=ah d->d<a.tmps.size)(h:(mo E nm o).val σ=ah e)(hc:e.cond=ai):gZ P E σ a w c o e.ws:=by
 cases ho:o.op with
 |move x=>exact Ol cg dI hd (.inl ho) h
 |assign x=>exact Ol cg dI hd (.inr ho) h
 |nilCheck x=>exact J_ cg dI hd ho h
 |pick x y z=>exact ZZ cg dI hd ho h hc
 |alloc t=>exact U0 hE cg dI hd ho h
 |box t x=>exact ag_ cg dI hd ho h
 |build t ps=>exact U2 hE cg dI hd ho h
 |buildSlice t n ps=>exact EA hE cg dI hd ho h hc
 |load t p=>exact ZY hE cg dI hd ho h
 |store t p x=>exact U_ hE cg dI hd ho h
 |fieldAddr t p f=>exact HZ hE cg dI hd ho h
 |field t x f=>exact U5 hE cg dI hd ho h
 |indexAddr t x i=>exact H0 hE cg dI hd ho h hc
 |index t x i=>exact U6 hE cg dI hd ho h hc
 |binOp op t x y ty=>exact U1 hE cg dI hd ho h hc
 |unOp op t x=>exact Z0 cg dI hd ho h
 |convert s d x=>exact Ma hE cg dI hd ho h hc
 |makeSlice t l m=>exact H2 hE cg dI hd ho h hc
 |slice t x lo hi mx=>exact U7 hE cg dI hd ho h hc
 |extract x i=>exact Mb cg dI hd ho h
 |makeFunc f first iW=>exact J9 cg dI hd ho h
 |call cl=>
  cases hb:cl.callee with
  |value f=>exact ZX hE hF cg dI hd ho hb h hc
  |builtin b=>
   cases b with
   |len=>exact ahb hE cg dI hd ho hb h
   |cap=>exact aha hE cg dI hd ho hb h
   |min=>exact FT ak cg dI hd ho hb h
   |max=>exact FT ai cg dI hd ho hb h
   |clear=>exact U3 hE cg dI hd ho hb h
   |append=>exact Qf hE cg dI hd ho hb h hc
   |_=>simp[mo,ho,hb]at h
  |_=>simp[mo,ho,hb]at h
 |_=>simp[mo,ho]at h
end
end Go.FG

namespace Go.FG
theorem DE{σ:St}{k:aE}{c:eP}(h:σ k=c):pS σ k c=σ:=by
 funext n;by_cases hn:n=k
 ·subst hn;rw[ui,h]
 ·rw[Ae σ c hn]
def WH(c c':eZ):Prop:=∀m,900000000<=m->c'.P m=c.P m/\c'.G m=c.G m
theorem WH.refl(c:eZ):WH c c:=λ_ _=>⟨rfl,rfl⟩
theorem WH.trans{c c1 c2:eZ}(h:WH c c1)(k:WH c1 c2):WH c c2:=λm hm=>⟨(k m hm).1.trans (h m hm).1,(k m hm).2.trans (h m hm).2⟩
theorem YA{m:aE}(h:900000000<=m):zP m=false:=by
 unfold zP;cases hb:qC m 900000000 with
 |true=>have:m<900000000:=by simpa [AX]using hb
        omega
 |false=>simp
theorem rj.aga{σ:St}{c c':eZ}(h:rj σ c c'):WH c c':=λm hm=>⟨(h m (.inr hm)).1,(h m (.inr hm)).2 (YA hm)⟩
def mG(all:dt fu)(o:fu)(σ:St):aA aU:=
 match o.guard with
 |none=>ah ai
 |some (g,want)=>match (all.getD g default).dst with
  |none=>aj
  |some d=>match σ (qv d)with| .v (.v ak [.b x])=>ah (x==want)| .v (.kq [])=>ah ak|_=>aj
def pY(all:dt fu)(o:fu):az aE:=
 match o.guard with
 |none=>[]
 |some (g,_)=>match (all.getD g default).dst with|none=>[]|some d=>[qv d]
def vq(E:fT)(all:dt fu)(nm:aE)(o:fu)(σ:St)(ws:az (aE×eP))(lg:Lg):Prop:=
 (mG all o σ=ah ai/\∃e l,(mo E nm o).run σ []=ah (e,l)/\e.cond=ai/\ws=e.ws/\lg=⟨pY all o++l,e.ws.map (·.1)⟩)\/
 (mG all o σ=ah ak/\ws=dw o (.kq [])/\lg=⟨pY all o,(dw o (.kq [])).map (·.1)⟩)
def L4(oj i:aE):aE:=(oj+1)*1000000+i*1000
abbrev Tr:=az (az (aE×eP)×Lg)
def wJ(E:fT)(all:dt fu)(oj:aE):aE->az fu->St->Tr->St->Prop
 |_,[],σ,tr,σ'=>tr=[]/\σ'=σ
 |i,o::os,σ,tr,σ'=>∃ws lg tr',tr=(ws,lg)::tr'/\vq E all (L4 oj i) o σ ws lg/\wJ E all oj (i+1) os (wr σ ws) tr' σ'
theorem Qg{R:Type}(E:fT)(all:dt fu)(oj:aE):∀(os:az fu) (i:aE) (σ:St) (lg:az Lg) (K:St->az Lg->aA R) (r:R),ops E all oj i os σ lg K=ah r->
  ∃tr σ',wJ E all oj i os σ tr σ'/\K σ' ((tr.map (·.2)).reverse++lg)=ah r:=by
 intro os;induction os with
 |nil=>intro i σ lg K r h;exact⟨[],σ,⟨rfl,rfl⟩,by simpa [ops]using h⟩
 |cons o os ih=>
  intro i σ lg K r h;have next:∀ws l,vq E all (L4 oj i) o σ ws l->ops E all oj (i+1) os (wr σ ws) (l::lg) K=ah r->∃tr σ',wJ E all oj i (o::os) σ tr σ'/\K σ' ((tr.map (·.2)).reverse++lg)=ah r:=by intro ws l hs h;obtain⟨tr,σ',h1,h2⟩:=ih _ _ _ _ _ h;exact⟨(ws,l)::tr,σ',⟨ws,l,tr,rfl,hs,h1⟩,by simpa using h2⟩
  have amP:∀rs,rs=pY all o->mG all o σ=ah ai->(match (mo E (L4 oj i) o).run σ []with
    |some (e,l)=>bif e.cond then ops E all oj (i+1) os (wr σ e.ws) (⟨rs++l,e.ws.map (·.1)⟩::lg) K else aj
    |none=>aj)=ah r->∃tr σ',wJ E all oj i (o::os) σ tr σ'/\K σ' ((tr.map (·.2)).reverse++lg)=ah r:=by
   intro rs hrs hw h
   cases hr:(mo E (L4 oj i) o).run σ []with
   |none=>rw[hr]at h;cases h
   |some el=>
    obtain⟨e,l⟩:=el;rw[hr]at h;cases hc:e.cond with
    |false=>simp[hc]at h
    |true=>simp only[hc,au]at h;exact next e.ws _ (.inl ⟨hw,e,l,hr,hc,rfl,by rw[hrs]⟩) h
  unfold ops at h;simp(config:={zeta:=false}) only[FA]at h;cases hg:o.guard with
  |none=>rw[hg]at h;exact amP [] (by simp[pY,hg]) (by simp[mG,hg]) h
  |some gw=>
   obtain⟨g,want⟩:=gw;rw[hg]at h;dsimp only at h;cases hd:(all.getD g default).dst with
   |none=>rw[hd]at h;cases h
   |some d=>
    rw[hd]at h;dsimp only at h;have yO:pY all o=[qv d]:=by unfold pY;rw[hg];dsimp only;rw[hd]
    cases hs:σ (qv d)with
    |v sv=>
     rw[hs]at h;cases sv with
     |v agg xs=>
      cases agg with
      |true=>cases h
      |false=>
       match xs with
       |[]=>cases h
       |_::_::_=>simp at h
       |[av]=>
        cases av with
        |b x=>
         have hwa:mG all o σ=ah (x==want):=by unfold mG;rw[hg];dsimp only;rw[hd];dsimp only;rw[hs]
         have hup:pS σ (qv d) (.v (.v ak [.b x]))=σ:=DE hs;have skip:mG all o σ=ah ak->ops E all oj (i+1) os (wr (pS σ (qv d) (.v (.v ak [.b x]))) (dw o (.kq []))) (⟨[qv d],(dw o (.kq [])).map (·.1)⟩::lg) K=ah r->∃tr σ',wJ E all oj i (o::os) σ tr σ'/\K σ' ((tr.map (·.2)).reverse++lg)=ah r:=by intro hw h;rw[hup]at h;exact next (dw o (.kq [])) _ (.inr ⟨hw,rfl,by rw[yO]⟩) h
         have adg:mG all o σ=ah ai->(match (mo E (L4 oj i) o).run (pS σ (qv d) (.v (.v ak [.b x]))) []with
           |some (e,l)=>bif e.cond then ops E all oj (i+1) os (wr (pS σ (qv d) (.v (.v ak [.b x]))) e.ws) (⟨qv d::l,e.ws.map (·.1)⟩::lg) K else aj
           |none=>aj)=ah r->∃tr σ',wJ E all oj i (o::os) σ tr σ'/\K σ' ((tr.map (·.2)).reverse++lg)=ah r:=by
          intro hw h
          rw[hup]at h
          exact amP [qv d] yO.symm hw h
         cases x with
         |true=>
          cases want with
          |true=>exact adg (by rw[hwa];rfl) h
          |false=>exact skip (by rw[hwa];rfl) h
         |false=>
          cases want with
          |true=>exact skip (by rw[hwa];rfl) h
          |false=>exact adg (by rw[hwa];rfl) h
        |_=>simp at h
     |kq l=>cases l with
      |nil=>
       have hwa:mG all o σ=ah false:=by unfold mG;rw[hg];dsimp only;rw[hd];dsimp only;rw[hs]
       exact next (dw o (.kq [])) _ (.inr ⟨hwa,rfl,by rw[yO]⟩) h
      |cons=>simp at h
     |un=>simp at h
    |o x=>rw[hs]at h;cases h
    |j9=>rw[hs]at h;cases h
section
variable {P:cZ} {E:fT} {σ:St} {a:Act} {w:bM} {c:eZ} {o:fu} {nm:aE} {e:tc}
theorem Gb(dI:fy E σ a w c){all:dt fu}{x:aU}(h:mG all o σ=ah x):vm o (yielded all a.tmps)=x:=by
 unfold mG at h;unfold vm;cases hg:o.guard with
 |none=>rw[hg]at h;simp at h;simp[<-h]
 |some gw=>
  obtain⟨g,want⟩:=gw;rw[hg]at h;simp only at h⊢;cases hd:(all.getD g default).dst with
  |none=>rw[hd]at h;cases h
  |some d=>
   rw[hd]at h;have hgo:(all[g]?).bind (·.dst)=ah d:=by
    rw[eK]at hd;cases hq:all[g]? with
    |none=>rw[hq]at hd;cases hd
    |some og=>rw[hq]at hd;exact hd
   simp only at h;split at h
   ·rename_i y hy;have h1:=dI.ok d;have:slot σ d= .v ak [.b y]:=by unfold slot;rw[hy]
    rw[this]at h1;have h1:a.eval (.tmp d)= .bool y:=h1;have ht:a.tmps[d]? =ah (.bool y):=by
     have h2:a.tmps.getD d undef= .bool y:=h1;rw[eK]at h2;cases hq:a.tmps[d]? with
     |none=>rw[hq]at h2;cases h2
     |some v=>rw[hq]at h2;rw[show v=_ from h2]
    have JQ:yielded all a.tmps g=ah y:=by unfold yielded;rw[hgo];simp[ht]
    rw[JQ];simp at h;rw[<-h];cases y<;>cases want<;>rfl
   ·rename_i hy;have h1:=dI.ok d;have:slot σ d= .kq []:=by unfold slot;rw[hy]
    rw[this]at h1;obtain⟨vs,h1,h3,_⟩:=h1;have h4:vs= #[]:=by simpa using h3
    subst h4;have ht:a.tmps.getD d undef= .tuple #[]:=h1;have JQ:yielded all a.tmps g=none:=by
     unfold yielded;rw[hgo];rw[eK]at ht;cases hq:a.tmps[d]? with
     |none=>simp[hq]
     |some v=>rw[hq]at ht;simp at ht;simp[hq,ht]
    rw[JQ];have h5:ak=x:=by simpa using h
    rw[<-h5];cases want<;>rfl
   ·cases h
theorem Act.VE(a:Act)(d:aA Tmp)(v:bn):(a.put d v).tmps.size=a.tmps.size:=by cases d<;>simp[WI]
theorem BS(hE:eA P E)(hF:∀g,lY P E g (E.call g))(cg:Ok E σ w c)(dI:fy E σ a w c)(hd:∀d,o.dst=ah d->d<a.tmps.size){all:dt fu}{i:aE}(hi:all[i]? =ah o){ws:az (aE×eP)}{lg:Lg}(h:vq E all nm o σ ws lg)
  {K:Act->bM->Prop} {Q:Exit->Act->bM->Prop} (hK:∀v w' c',Ok E (wr σ ws) w' c'->fy E (wr σ ws) (a.put o.dst v) w' c'->oG σ c w (wr σ ws) c' w'->rj σ c c'->K (a.put o.dst v) w'):wpOp P all Q i K a w:=by
 unfold wpOp;rw[hi];simp only;rcases h with ⟨hw,e,l,hr,hc,rfl,_⟩|⟨hw,rfl,_⟩
 ·rw[bA (Gb dI hw)];exact .inl (amN hE hF cg dI hd (Rd.MA hr) hc K Q hK)
 ·rw[bJ (by rw[Gb dI hw];simp)];obtain⟨s1,s2,s3⟩:=sg σ o (.kq []);obtain⟨h1,h2⟩:=cg.slot s3;refine hK undef w c h1 ?_ h2 (jE.refl _ _).w;refine dI.change cg h2 (jE.refl _ _) (λnm hn=>by rw[s3];exact hn) o undef s1 (λd ho=>⟨hd d ho, ?_, ?_⟩)
  ·rw[s2 d ho];exact⟨#[],rfl,rfl,λj agg xs hj=>by simp at hj⟩
  ·rw[s2 d ho];intro n hn;simp[cO]at hn
structure At (P:cZ) (E:fT) (N:aE) (σ0:St) (c0:eZ) (w0:bM) (σ:St) (a:Act) (w:bM) (c:eZ):Prop where
 ok:Ok E σ w c
 sl:fy E σ a w c
 sz:a.tmps.size=N
 gr:oG σ0 c0 w0 σ c w
 ag:WH c0 c
theorem At.step{N:aE}{σ0:St}{c0:eZ}{w0:bM}(h:At P E N σ0 c0 w0 σ a w c){d:aA Tmp}{v:bn}{w':bM}{c':eZ}{σ':St}(h1:Ok E σ' w' c')(h2:fy E σ' (a.put d v) w' c')(h3:oG σ c w σ' c' w')(h4:rj σ c c'):At P E N σ0 c0 w0 σ' (a.put d v) w' c':=
 ⟨h1,h2,by rw[Act.VE];exact h.sz,h.gr.trans h3,h.ag.trans h4.aga⟩
theorem Le(hE:eA P E)(hF:∀g,lY P E g (E.call g)){N:aE}{σ0:St}{c0:eZ}{w0:bM}{all:dt fu}{oj:aE}{Q:Exit->Act->bM->Prop}:∀(os:az fu) (i:aE) (σ:St) (tr:Tr) (σ':St),wJ E all oj i os σ tr σ'->(∀j o,os[j]? =ah o->all[i+j]? =ah o)->(∀o∈os,∀d,o.dst=ah d->d<N)->
  (∀a w c,At P E N σ0 c0 w0 σ' a w c->Q .normal a w)->∀a w c,At P E N σ0 c0 w0 σ a w c->wpOps P all Q (iV i os.length) a w:=by
 intro os;induction os with
 |nil=>intro i σ tr σ' h _ _ hQ a w c gi;obtain⟨_,rfl⟩:=h;exact hQ a w c gi
 |cons o os ih=>intro i σ tr σ' h n5 CP hQ a w c gi;obtain⟨ws,lg,tr',rfl,hs,W5⟩:=h;have hi:all[i]? =ah o:=n5 0 o rfl;rw[dc,List.range'_succ,wpOps_cons];refine BS hE hF gi.ok gi.sl (λd hd=>by rw[gi.sz];exact CP o (dv ..) d hd) hi hs (λv w' c' h1 h2 h3 h4=> ?_);exact ih (i+1) _ _ _ W5 (λj o' hj=>by have:=n5 (j+1) o' hj;rwa[show i+(j+1)=i+1+j by omega]at this) (λo' vx=>CP o' (c7 _ vx)) hQ _ _ _ (gi.step h1 h2 h3 h4)
end
end Go.FG

namespace Go.FG
theorem Rd.aae{α:Type}(m:Rd α):∀{σ:St} {l l':az aE} {a:α},m.run σ l=ah (a,l')->∀k∈l,k∈l':=by
 induction m with
 |ret a=>intro σ l l' b h k hk;cases h;exact hk
 |fail=>intro σ l l' b h;cases h
 |get k f ih=>intro σ l l' b h k' vv;exact ih _ h k' (c7 _ vv)
theorem Rd.Qz{α:Type}(m:Rd α):∀{σ σ':St} {l l':az aE} {a:α},m.run σ l=ah (a,l')->(∀k∈l',σ' k=σ k)->m.run σ' l=ah (a,l'):=by
 induction m with
 |ret a=>intro σ σ' l l' b h _;exact h
 |fail=>intro σ σ' l l' b h;cases h
 |get k f ih=>intro σ σ' l l' b h hk;have h:(f (σ k)).run σ (k::l)=ah (b,l'):=h;have vv:σ' k=σ k:=hk k (Rd.aae _ h k (dv ..));show(f (σ' k)).run σ' (k::l)=ah (b,l');rw[vv];exact ih _ h hk
theorem yI{all:dt fu}{o:fu}{σ σ':St}(h:∀k∈pY all o,σ' k=σ k):mG all o σ'=mG all o σ:=by
 unfold mG pY at*
 cases hg:o.guard with
 |none=>rfl
 |some gw=>
  obtain⟨g,want⟩:=gw;rw[hg]at h;dsimp only at h⊢;cases hd:(all.getD g default).dst with
  |none=>rfl
  |some d=>rw[hd]at h;dsimp only at h⊢;rw[h (qv d) (a_.2 rfl)]
theorem vq.congr{E:fT}{all:dt fu}{nm:aE}{o:fu}{σ σ':St}{ws:az (aE×eP)}{lg:Lg}(h:vq E all nm o σ ws lg)(hk:∀k∈lg.rs,σ' k=σ k):vq E all nm o σ' ws lg:=by
 rcases h with ⟨h1,e,l,h2,h3,rfl,rfl⟩|⟨h1,rfl,rfl⟩
 ·refine .inl ⟨by rw[yI (λk vv=>hk k (bN _ vv))];exact h1,e,l,Rd.Qz _ h2 (λk vv=>hk k (bO _ vv)),h3,rfl,rfl⟩
 ·exact .inr ⟨by rw[yI (λk vv=>hk k vv)];exact h1,rfl,rfl⟩
theorem vq.keys{E:fT}{all:dt fu}{nm:aE}{o:fu}{σ:St}{ws:az (aE×eP)}{lg:Lg}(h:vq E all nm o σ ws lg):lg.ws=ws.map (·.1):=by rcases h with ⟨h1,e,l,h2,h3,rfl,rfl⟩|⟨h1,rfl,rfl⟩<;>rfl
theorem pI:∀{ws:az (aE×eP)} {σ:St} {k:aE},k∉ws.map (·.1)->wr σ ws k=σ k:=by
 intro ws;induction ws with
 |nil=>intro σ k _;rfl
 |cons d ws ih=>obtain⟨k',c⟩:=d;intro σ k h;rw[fw,cB,not_or]at h;show wr (pS σ k' c) ws k=σ k;rw[ih h.2,Ae σ c h.1]
theorem Wx:∀{ws:az (aE×eP)} {σ σ':St} {k:aE},k∈ws.map (·.1)->wr σ ws k=wr σ' ws k:=by
 intro ws;induction ws with
 |nil=>intro σ σ' k h;cases h
 |cons d ws ih=>
  obtain⟨k',c⟩:=d;intro σ σ' k h;show wr (pS σ k' c) ws k=wr (pS σ' k' c) ws k;by_cases hk:k∈ws.map (·.1)
  ·exact ih hk
  ·have:k=k':=by
    rcases cB.1 h with h|h
    ·exact h
    ·exact cL h hk
   subst this;rw[pI hk,pI hk,ui,ui]
theorem Ww{ws:az (aE×eP)}{σ σ':St}{k:aE}(h:σ k=σ' k):wr σ ws k=wr σ' ws k:=by
 by_cases hk:k∈ws.map (·.1)
 ·exact Wx hk
 ·rw[pI hk,pI hk];exact h
def DQ:Tr->aE->(aE->aU)->St->St
 |[],_,_,σ=>σ
 |(ws,_)::tr,i,S,σ=>DQ tr (i+1) S (bif S i then wr σ ws else σ)
theorem uR:∀{tr:Tr} {i:aE} {S S':aE->aU} {σ σ':St} {k:aE},σ k=σ' k->(∀j ws lg,tr[j]? =ah (ws,lg)->S (i+j)≠S' (i+j)->k∉ws.map (·.1))->DQ tr i S σ k=DQ tr i S' σ' k:=by
 intro tr;induction tr with
 |nil=>intro i S S' σ σ' k h _;exact h
 |cons d tr ih=>
  obtain⟨ws,lg⟩:=d;intro i S S' σ σ' k h hd;refine ih ?_ (λj EH DP hj iz=>hd (j+1) EH DP hj (by rwa[show i+(j+1)=i+1+j by omega]));by_cases hS:S i=S' i
  ·rw[hS];cases S' i
   ·exact h
   ·exact Ww h
  ·have hk:=hd 0 ws lg rfl hS;cases hs:S i<;>cases hs':S' i
   ·exact cL (hs.trans hs'.symm) hS
   ·show σ k=wr σ' ws k;rw[pI hk];exact h
   ·show wr σ ws k=σ' k;rw[pI hk];exact h
   ·exact cL (hs.trans hs'.symm) hS
theorem DB:∀{tr:Tr} {i:aE} {S:aE->aU} {σ:St},(∀j,i<=j->S j=ak)->DQ tr i S σ=σ:=by
 intro tr;induction tr with
 |nil=>intro i S σ _;rfl
 |cons d tr ih=>obtain⟨ws,lg⟩:=d;intro i S σ h;show DQ tr (i+1) S (bif S i then wr σ ws else σ)=σ;rw[h i (cG _)];exact ih (λj hj=>h j (by omega))
theorem Wk:∀{tr:Tr} {i j:aE} {S:aE->aU} {σ:St} {ws:az (aE×eP)} {lg:Lg},tr[j]? =ah (ws,lg)->S (i+j)=ai->(∀q,i+j<q->S q=ak)->∃τ,DQ tr i S σ=wr τ ws:=by
 intro tr;induction tr with
 |nil=>intro i j S σ ws lg h;simp at h
 |cons d tr ih=>
  obtain⟨EH,DP⟩:=d;intro i j S σ ws lg h hS hn;cases j with
  |zero=>
   cases h;refine⟨σ, ?_⟩
   show DQ tr (i+1) S (bif S i then wr σ EH else σ)=wr σ EH;rw[show S i=ai from hS];exact DB (λq hq=>hn q (by omega))
  |succ j=>exact ih (i:=i+1) h (by rwa[show i+1+j=i+(j+1)by omega]) (λq hq=>hn q (by omega))
theorem S8{E:fT}{all:dt fu}{oj:aE}:∀{os:az fu} {i:aE} {σ σ':St} {tr:Tr},wJ E all oj i os σ tr σ'->tr.length=os.length/\DQ tr i (λ_=>ai) σ=σ'/\
  ∀(j:aE) (o:fu),os[j]? =ah o->∃ws lg,tr[j]? =ah (ws,lg)/\vq E all (L4 oj (i+j)) o (DQ tr i (λq=>decide (q<i+j)) σ) ws lg:=by
 intro os;induction os with
 |nil=>intro i σ σ' tr h;obtain⟨rfl,rfl⟩:=h;exact⟨rfl,rfl,λj o h=>by simp at h⟩
 |cons o os ih=>
  intro i σ σ' tr h;obtain⟨ws,lg,tr',rfl,hs,W5⟩:=h;obtain⟨h1,h2,h3⟩:=ih W5;refine⟨by simp[h1],h2,λj o' hj=> ?_⟩
  cases j with
  |zero=>
   cases hj;refine⟨ws,lg,rfl, ?_⟩
   rw[show DQ ((ws,lg)::tr') i (λq=>decide (q<i+0)) σ=σ from DB (λq hq=>by simp;omega)];exact hs
  |succ j=>
   obtain⟨EH,DP,q1,q2⟩:=h3 j o' hj;refine⟨EH,DP,q1, ?_⟩
   have e1:DQ ((ws,lg)::tr') i (λq=>decide (q<i+(j+1))) σ=DQ tr' (i+1) (λq=>decide (q<i+1+j)) (wr σ ws):=by show DQ tr' (i+1) (λq=>decide (q<i+(j+1))) (bif decide (i<i+(j+1))then wr σ ws else σ)=_;rw[aG (by omega:i<i+(j+1))];rw[show i+(j+1)=i+1+j by omega];rfl
   rw[e1,show i+(j+1)=i+1+j by omega];exact q2
theorem tC{a b:Lg}(h:CB a b=ak):(∀k∈a.ws,k∉b.ws)/\(∀k∈a.ws,k∉b.rs)/\∀k∈b.ws,k∉a.rs:=by simp only[CB,nk,aM]at h;exact⟨oY h.1.1,oY h.1.2,oY h.2⟩
theorem zU{l:az aE}{n:aE}(h:mS n l=ai):n∈l:=by
 induction l with
 |nil=>cases h
 |cons m r ih=>
  simp only[mS,dJ]at h;rcases h with h|h
  ·rw[aW h];exact dv ..
  ·exact c7 _ (ih h)
theorem La{an:az aE}{j:aE}{a:Lg}:∀{l:az Lg} {i:aE},BC an j a i l=ai->∀(q:aE) (b:Lg),l[q]? =ah b->i+q∈an\/CB a b=false:=by
 intro l;induction l with
 |nil=>intro i _ q b h;simp at h
 |cons d l ih=>
  intro i h q b hq;simp only[BC,aM,dJ,dp]at h;cases q with
  |zero=>cases hq;exact h.1.imp zU id
  |succ q=>have:=ih h.2 q b hq;rwa[show i+1+q=i+(q+1)by omega]at this
theorem NB{an:az (az aE)}:∀{rest:az Lg} {j:aE} {done:az Lg},done.length=j->calm j an done rest=ai->∀(i J:aE) (a b:Lg),i<J->j<=J->(done++rest)[i]? =ah b->(done++rest)[J]? =ah a->i∈an.getD J []\/CB a b=false:=by
 intro rest;induction rest with
 |nil=>intro j done hd _ i J a b _ hJ _ hb;rw[dj,lh (by omega)]at hb;cases hb
 |cons d rest ih=>
  intro j done hd h i J a b PS hJ hi hb;simp only[calm,aM]at h;by_cases hJj:J=j
  ·subst hJj;rw[db (by omega),hd,Nat.sub_self]at hb;cases hb;rw[dF (by omega)]at hi;have:=La h.1 i b hi;rwa[bX]at this
  ·refine ih (done:=done++[d]) (by simp[hd]) h.2 i J a b PS (by omega) ?_ ?_
   ·rw[cy];exact hi
   ·rw[cy];exact hb
theorem XI:∀{os:az fu} {acc:az (az aE)},∃rest,Hd acc os=acc++rest/\rest.length=os.length/\
  ∀(t:aE) (o:fu),os[t]? =ah o->rest[t]? =ah (ddA [] (o.after.toList.flatMap λe=>bif mW .any e then e.on::((acc++rest).take (acc.length+t)).getD e.on []else [])):=by
 intro os;induction os with
 |nil=>intro acc;exact⟨[],by simp[Hd],rfl,λt o h=>by simp at h⟩
 |cons o os ih=>
  intro acc;let x:=ddA [] (o.after.toList.flatMap λe=>bif mW .any e then e.on::acc.getD e.on []else []);obtain⟨rest,h1,h2,h3⟩:=ih (acc:=acc++[x]);refine⟨x::rest, ?_,by simp[h2],λt o' ht=> ?_⟩
  ·show m_ x (λx=>Hd (acc++[x]) os)=_;rw[o0,h1,cy];rfl
  ·cases t with
   |zero=>cases ht;rw[sL,yZ,pb (cG _),dR]
   |succ t=>rw[dM,h3 t o' ht];simp only[bU,bC,cy,u5,show acc.length+1+t=acc.length+(t+1)by omega]
theorem Oo:∀{os:az fu} {i:aE},Ka i os=ai->∀(t:aE) (o:fu),os[t]? =ah o->∀e∈o.after,mW .any e=ai->e.on<i+t:=by
 intro os;induction os with
 |nil=>intro i _ t o h;simp at h
 |cons o os ih=>
  intro i h t o' ht e he hb;simp only[Ka,aM]at h;cases t with
  |zero=>
   cases ht;have:=bu.1 h.1 e (by simpa using he);rw[hb]at this;have:qC e.on i=true:=by simpa using this
   simpa [AX]using this
  |succ t=>have:=ih h.2 t o' ht e he hb;omega
theorem Cm{os:az fu}{S:aE->aU}(hS:∀(j:aE) (o:fu),S j=ai->os[j]? =ah o->∀e∈o.after,mW .any e=ai->S e.on=ai)(TE:Ka 0 os=ai):
  ∀j,S j=ai->∀i∈(Hd [] os).getD j [],S i=true:=by
 obtain⟨rest,h1,h2,h3⟩:=XI (os:=os) (acc:=[]);rw[gF]at h1;intro j;induction j using Nat.strongRecOn with
 |_ j ih=>
  intro hj i hi;rw[h1,cY]at hi;cases ho:os[j]? with
  |none=>rw[lh (by rw[h2];exact List.getElem?_eq_none_iff.1 ho)]at hi;cases hi
  |some o=>
   rw[h3 j o ho]at hi;simp only[y_,jR,bX,gF]at hi;have hi:=(Hp _ _ _ hi).elim (λh=>by cases h) id;obtain⟨e,he,hi⟩:=bQ.1 hi;have he:e∈o.after:=by simpa using he
   cases hb:mW .any e with
   |false=>rw[hb]at hi;cases hi
   |true=>
    rw[hb]at hi;have jt:=Oo TE j o ho e he hb;rw[bX]at jt;have hSe:=hS j o hj ho e he hb;rcases cB.1 hi with rfl|hi
    ·exact hSe
    ·refine ih e.on jt hSe i ?_;rw[h1,cY];rw[cY,d_,bA jt]at hi;exact hi
end Go.FG

namespace Go.FG
theorem Jm{p p':aE->aU}{i:aE}(hp:p i=ai)(mR:p' i=ak)(iz:∀j,j≠i->p' j=p j):∀{l:az aE},l.Nodup->i∈l->l.countP p'+1=l.countP p:=by
 have same:∀{l:az aE},i∉l->l.countP p'=l.countP p:=by
  intro l;induction l with
  |nil=>intro _;rfl
  |cons m l ih=>intro h;rw[cB,not_or]at h;rw[lQ,lQ,ih h.2,iz m (λe=>h.1 e.symm)]
 intro l;induction l with
 |nil=>intro _ h;cases h
 |cons m l ih=>
  intro hn h;rw[kM]at hn;rcases cB.1 h with rfl|h
  ·rw[lQ,lQ,same hn.1,hp,mR];simp
  ·have hm:m≠i:=λe=>hn.1 (e▸h);rw[lQ,lQ,iz m hm,<-ih hn.2 h];omega
theorem qs{dO:dt aU}{i:aE}(h:i<dO.size)(d:aU):(dO.setIfInBounds i ai).getD i d=true:=by simp[h]
section
variable {P:cZ} {E:fT}
theorem Pt(hE:eA P E)(hF:∀g,lY P E g (E.call g)){N:aE}{σ0:St}{c0:eZ}{w0:bM}{all:dt fu}{oj:aE}{Q:Exit->Act->bM->Prop}{σ σ':St}{tr:Tr}(W5:wJ E all oj 0 all.toList σ tr σ')(abA:calm 0 (Hd [] all.toList) [] (tr.map (·.2))=ai)(TE:Ka 0 all.toList=ai)
  (CP:∀o∈all.toList,∀d,o.dst=ah d->d<N) (hQ:∀a w c,At P E N σ0 c0 w0 σ' a w c->Q .normal a w):
  ∀(fuel:aE) (dO:dt aU) (a:Act) (w:bM) (c:eZ),dO.size=all.size->(∀(j:aE) (o:fu),dO.getD j ak=ai->all.toList[j]? =ah o->∀e∈o.after,mW .any e=ai->dO.getD e.on ak=ai)->
   (b8 all.size).countP (λj=> !dO.getD j ak)<=fuel->At P E N σ0 c0 w0 (DQ tr 0 (λj=>dO.getD j ak) σ) a w c->wpAny P .any all Q fuel dO a w:=by
 obtain⟨t1,t2,t3⟩:=S8 W5;have hlen:all.toList.length=all.size:=dS;have done:∀(dO:dt aU) (a:Act) (w:bM) (c:eZ),(∀j,j<all.size->dO.getD j ak=ai)->At P E N σ0 c0 w0 (DQ tr 0 (λj=>dO.getD j ak) σ) a w c->Q .normal a w:=by
  intro dO a w c n5 gi;refine hQ a w c ?_;have:DQ tr 0 (λj=>dO.getD j ak) σ=σ':=by
   rw[<-t2];funext k;refine uR rfl (λj ws lg hj iz=> ?_);have j8:j<all.size:=by rw[<-hlen,<-t1];exact(aT.1 hj).1
   rw[bX]at iz;exact cL (n5 j j8) iz
  rw[<-this];exact gi
 have afr:∀(dO:dt aU) (j:aE),dO.size=all.size->j<all.size->dO.getD j ai=dO.getD j false:=by
  intro dO j hs hj;rw[eK,eK];have:j<dO.size:=by omega
  simp[this]
 have full:∀dO:dt aU,dO.size=all.size->wP .any all dO=[]->∀j,j<all.size->dO.getD j ak=true:=by
  intro dO hs hr j;induction j using Nat.strongRecOn with
  |_ j ih=>
   intro hj;cases h:dO.getD j ak with
   |true=>rfl
   |false=>
    have ho:all[j]? =ah all[j]:=by simp[hj]
    have:j∈wP .any all dO:=by
     rw[mem_ready];refine⟨by rw[afr dO j hs hj];exact h,all[j],ho,λe he hb=> ?_⟩
     have:=Oo TE j all[j] (by rw[cX];exact ho) e he hb;rw[bX]at this;exact ih e.on this (by omega)
    rw[hr]at this;cases this
 intro fuel;induction fuel with
 |zero=>
  intro dO a w c hs _ ajW gi;have n5:∀j,j<all.size->dO.getD j ak=true:=by intro j hj;have h0:=List.countP_eq_zero.1 (Nat.le_zero.1 ajW) j (by simpa using hj);simpa using h0
  refine⟨?_,done dO a w c n5 gi⟩
  cases hr:wP .any all dO with
  |nil=>rfl
  |cons i r=>
   have:i∈wP .any all dO:=by rw[hr];exact dv ..
   obtain⟨h0,o,ho,_⟩:=mem_ready.1 this;have hi:i<all.size:=(dV.1 ho).1;rw[afr dO i hs hi,n5 i hi]at h0;cases h0
 |succ fuel ih=>
  intro dO a w c hs n_ ajW gi;refine⟨λhr=>done dO a w c (full dO hs hr) gi,λi hi=> ?_⟩
  obtain⟨h0,o,ho,atO⟩:=mem_ready.1 hi;have hil:i<all.size:=(dV.1 ho).1;rw[afr dO i hs hil]at h0;have FH:all.toList[i]? =ah o:=by rw[cX];exact ho
  obtain⟨ws,lg,q1,q2⟩:=t3 i o FH;rw[bX]at q2;have Uf:∀{j:aE} {EH:az (aE×eP)} {DP:Lg},tr[j]? =ah (EH,DP)->(tr.map (·.2))[j]? =ah DP/\DP.ws=EH.map (·.1):=by
   intro j EH DP hj;have j8:j<all.toList.length:=by rw[<-t1];exact(aT.1 hj).1
   obtain⟨ws2,lg2,r1,r2⟩:=t3 j all.toList[j] (by simp[j8]);rw[hj]at r1;cases r1;exact⟨by rw[bL,hj];rfl,r2.keys⟩
  obtain⟨lgi,kwi⟩:=Uf q1;have afN:∀(j:aE) (o':fu),(dO.setIfInBounds i ai).getD j ak=ai->all.toList[j]? =ah o'->∀e∈o'.after,mW .any e=ai->(dO.setIfInBounds i ai).getD e.on ak=true:=by
   intro j o' hj vx e he hb;by_cases PV:i=j
   ·subst PV;rw[FH]at vx;cases vx;exact getD_set_true (atO e he hb)
   ·rw[getD_set_ne ak PV]at hj;exact getD_set_true (n_ j o' hj vx e he hb)
  have before:∀j,j<i->dO.getD j ak=ak->∀{EH:az (aE×eP)} {DP:Lg},tr[j]? =ah (EH,DP)->CB lg DP=false:=by
   intro j hj hn EH DP hjt;rcases NB (done:=[]) rfl abA j i lg DP hj (bD _) (Uf hjt).1 lgi with h|h
   ·have:=Cm afN TE i (qs (by omega) ak) j h;rw[getD_set_ne ak (by omega:i≠j)]at this;rw[hn]at this;cases this
   ·exact h
  have after:∀j,i<j->dO.getD j ak=ai->∀{EH:az (aE×eP)} {DP:Lg},tr[j]? =ah (EH,DP)->CB DP lg=false:=by
   intro j hj hn EH DP hjt;rcases NB (done:=[]) rfl abA i j DP lg hj (bD _) lgi (Uf hjt).1 with h|h
   ·have:=Cm n_ TE j hn i h;rw[h0]at this;cases this
   ·exact h
  have akq:vq E all (L4 oj i) o (DQ tr 0 (λj=>dO.getD j ak) σ) ws lg:=by
   refine q2.congr (λk hk=>uR rfl (λj EH DP hj iz hkw=> ?_));rw[bX]at iz;rw[<-(Uf hj).2]at hkw;by_cases PV:j<i
   ·rw[aG PV]at iz;have hn:dO.getD j ak=false:=by simpa using iz
    exact(tC (before j PV hn hj)).2.2 k hkw hk
   ·rw[aK PV]at iz;have hn:dO.getD j ak=true:=by simpa using iz
    have atB:i<j:=by
     rcases qY i j with h|h
     ·exact h
     ·have:j=i:=by omega
      subst this;rw[h0]at hn;cases hn
    exact(tC (after j atB hn hj)).2.1 k hkw hk
  have zM:wr (DQ tr 0 (λj=>dO.getD j ak) σ) ws=DQ tr 0 (λj=>(dO.setIfInBounds i ai).getD j ak) σ:=by
   funext k;by_cases hk:k∈ws.map (·.1)
   ·have e1:DQ tr 0 (λj=>(dO.setIfInBounds i ai).getD j ak) σ k=DQ tr 0 (λj=>(dO.setIfInBounds i ai).getD j ak&&decide (j<=i)) σ k:=by
     refine uR rfl (λj EH DP hj iz hkw=> ?_);rw[bX]at iz;rw[<-(Uf hj).2]at hkw;have PV:i<j:=by
      rcases qY i j with h|h
      ·exact h
      ·rw[aG h,iL]at iz;exact cL rfl iz
     rw[aK (by omega:¬j<=i),wH,getD_set_ne ak (by omega:i≠j)]at iz;have hn:dO.getD j ak=true:=by simpa using iz
     rw[<-kwi]at hk;exact(tC (after j PV hn hj)).1 k hkw hk
    obtain⟨τ,hτ⟩:=Wk (i:=0) (S:=λj=>(dO.setIfInBounds i ai).getD j ak&&decide (j<=i)) (σ:=σ) q1 (by rw[bX,qs (by omega) ak];simp) (λq hq=>by rw[aK (by omega:¬q<=i),wH]);rw[e1,hτ];exact Wx hk
   ·rw[pI hk];refine uR rfl (λj EH DP hj iz hkw=> ?_);rw[bX]at iz;by_cases PV:i=j
    ·subst PV;rw[q1]at hj;cases hj;exact hk hkw
    ·rw[getD_set_ne ak PV]at iz;exact cL rfl iz
  refine BS hE hF gi.ok gi.sl (λd hd'=>by rw[gi.sz];exact CP o (aR FH) d hd') ho akq (λv w' c' h1 h2 h3 h4=> ?_);have Bh:=gi.step h1 h2 h3 h4;rw[zM]at Bh;refine ih (dO.setIfInBounds i ai) _ _ c' (by simp[hs]) afN ?_ Bh;have:=Jm (p:=λj=> !dO.getD j ak) (p':=λj=> !(dO.setIfInBounds i ai).getD j ak) (i:=i) (by rw[h0];rfl) (by rw[qs (by omega) ak];rfl) (λj hj=>by rw[getD_set_ne ak (λe=>hj e.symm)]) (l:=b8 all.size) List.nodup_range (by simpa using hil);omega
theorem At.drawn{N:aE}{σ0 σ:St}{c0 c:eZ}{w0 w:bM}{a:Act}(h:At P E N σ0 c0 w0 σ a w c)(n:aE):At P E N σ0 c0 w0 σ a {w with drawn:=n} c:=by have hh:=h.ok.change (σ':=σ) (w':={w with drawn:=n}) (c':=c) (λ_=>False) (λ_ _=>rfl) (λ_ h=>h) (jE.refl _ _) (λ_ _ _=>rfl) (cG _) (λ_ h=>h) (λ_ h=> .inl h) h.ok.lt (λ_ _ h=>h.elim) (λ_ _ _ h=>h.elim) (λ_ _ _ _ _ h=>h.elim) (λ_ _ h=>h.elim) rfl rfl rfl;refine⟨hh.1,⟨λn'=>(h.sl.ok n').frame (λ_ _=>rfl) (λ_ h=>h) (λ_ _=>⟨rfl,rfl⟩),h.sl.kn,h.sl.df⟩,h.sz,h.gr.trans hh.2,h.ag⟩
theorem Qr(hE:eA P E)(hF:∀g,lY P E g (E.call g))(hm:P.follows .mixedOrders=ai){R:Type}{N:aE}{σ0:St}{c0:eZ}{w0:bM}{os:dt fu}{oj:aE}{draw:aU}{Q:Exit->Act->bM->Prop}{σ:St}{K:Ex->St->aA R}{r:R}
  (h:ops E os oj 0 os.toList σ [] (λσ lg=>bif !draw||(Ka 0 os.toList&&NA (Hd [] os.toList) lg.reverse)then K .normal σ else aj)=ah r) (CP:∀o∈os.toList,∀d,o.dst=ah d->d<N)
  (hQ:∀σ' a w c,K .normal σ'=ah r->At P E N σ0 c0 w0 σ' a w c->Q .normal a w) {a:Act} {w:bM} {c:eZ} (gi:At P E N σ0 c0 w0 σ a w c):(Code.region oj os draw).wp P Q a w:=by
 obtain⟨tr,σ',W5,hk⟩:=Qg E os oj _ _ _ _ _ _ h;simp only[dj,vT,S4]at hk;cases draw with
 |false=>simp only[bP,AO,au]at hk;refine wp_region ?_;rw[XD,<-dS];exact Le hE hF os.toList 0 σ tr σ' W5 (λj o hj=>by rw[bX,<-cX];exact hj) CP (λa w c h=>hQ σ' a w c hk h) a w c gi
 |true=>
  cases hc:(Ka 0 os.toList&&calm 0 (Hd [] os.toList) [] (tr.map (·.2)))with
  |false=>simp[hc]at hk
  |true=>
   simp only[hc,KO,au]at hk;simp only[aM]at hc;refine wp_region_any hm ?_;refine Pt hE hF W5 hc.2 hc.1 CP (λa w c h=>hQ σ' a w c hk h) os.size _ a _ c (by simp) (λj o hj=> ?_) ?_ ?_
   ·exfalso;rw[eK,EL]at hj;split at hj<;>cases hj
   ·exact dg (List.countP_le_length) (by simp)
   ·have:DQ tr 0 (λj=>(Bm os.size ak).getD j ak) σ=σ:=DB (λj _=>by rw[eK,EL];split<;>rfl);rw[this];exact gi.drawn _
end
end Go.FG

namespace Go.FG
theorem TN:∀{l:az aE} {n i:aE},n∈l->∃k,idx n i l=ah k/\i<=k/\k<i+l.length/\l[k-i]? =ah n:=by
 intro l;induction l with
 |nil=>intro n i h;cases h
 |cons m l ih=>
  intro n i h;unfold idx;cases hb:bF n m with
  |true=>have:=aW hb;subst this;exact⟨i,rfl,cG _,by simp,by simp⟩
  |false=>
   rcases cB.1 h with rfl|h
   ·simp at hb
   ·obtain⟨k,h1,h2,h3,h4⟩:=ih (i:=i+1) h;refine⟨k,h1,by omega,by simp;omega, ?_⟩
    rw[show k-i=(k-(i+1))+1 by omega,dM];exact h4
theorem Yv:∀{l:az aE} {n i k:aE},idx n i l=ah k->i<=k/\k<i+l.length/\l[k-i]? =ah n:=by
 intro l;induction l with
 |nil=>intro n i k h;cases h
 |cons m l ih=>
  intro n i k h;unfold idx at h;cases hb:bF n m with
  |true=>rw[hb]at h;have:=aW hb;subst this;cases h;exact⟨cG _,by simp,by simp⟩
  |false=>
   rw[hb]at h;obtain⟨h2,h3,h4⟩:=ih h;refine⟨by omega,by simp;omega, ?_⟩
   rw[show k-i=(k-(i+1))+1 by omega,dM];exact h4
theorem Ll{f:aU}{k:aE}(h:k<900):enc f k<900000000:=by unfold enc;cases f<;>simp<;>omega
theorem YB{f:aU}{k:aE}(h:k<900):zP (enc f k)=f:=by
 cases f with
 |false=>
  show(bF (k%1000) 999&&qC k 900000000)=ak;have:bF (k%1000) 999=false:=by
   cases hb:bF (k%1000) 999 with
   |false=>rfl
   |true=>have:=aW hb;omega
  rw[this];rfl
 |true=>show(bF ((k*1000+999)%1000) 999&&qC (k*1000+999) 900000000)=ai;rw[show(k*1000+999)%1000=999 by omega,show qC (k*1000+999) 900000000=ai from KX (by omega)];rfl
theorem XY{f f':aU}{k k':aE}(h:k<900)(h':k'<900)(he:enc f k=enc f' k'):k=k':=by unfold enc at he;cases f<;>cases f'<;>simp at he<;>omega
theorem Vu{l:az aE}{n:aE}(h:n∈l):∃k,wx l n=ah k:=by
 unfold wx;cases fJ 900000000 n with
 |true=>exact⟨n,by simp[JX h]⟩
 |false=>obtain⟨k,hk,_⟩:=TN (i:=0) h;exact⟨enc (zP n) k,by simp[hk]⟩
theorem yr{l:az aE}{n k:aE}(h:wx l n=ah k):n∈l/\((900000000<=n/\k=n)\/(n<900000000/\∃k0,k=enc (zP n) k0/\k0<l.length/\l[k0]? =ah n)):=by
 unfold wx at h;cases hb:fJ 900000000 n with
 |true=>
  rw[hb]at h;cases hm:mS n l with
  |true=>simp only[hm,au]at h;cases h;exact⟨zU hm, .inl ⟨cM hb,rfl⟩⟩
  |false=>simp[hm]at h
 |false=>
  rw[hb,aw]at h;cases hi:idx n 0 l with
  |none=>rw[hi]at h;cases h
  |some k0=>
   rw[hi]at h;cases h;obtain⟨_,h3,h4⟩:=Yv hi;rw[sA]at h4;refine⟨aR h4, .inr ⟨?_,k0,rfl,by simpa using h3,h4⟩⟩
   rcases qY n 900000000 with h|h
   ·exact h
   ·rw[KX h]at hb;cases hb
theorem Ou{l:az aE}(hl:l.length<=900){n k:aE}(h:wx l n=ah k):zP k=zP n:=by
 obtain⟨_,⟨_,rfl⟩|⟨_,k0,rfl,h3,_⟩⟩:=yr h
 ·rfl
 ·exact YB (by omega)
theorem aaa{l:az aE}(hl:l.length<=900){n n' k:aE}(h:wx l n=ah k)(h':wx l n'=ah k):n=n':=by
 obtain⟨_,h1⟩:=yr h;obtain⟨_,h2⟩:=yr h';rcases h1 with ⟨a,b⟩|⟨a,k0,b,d,e⟩<;>rcases h2 with ⟨a',b'⟩|⟨a',k0',b',d',e'⟩
 ·omega
 ·have:=Ll (f:=zP n') (k:=k0') (by omega);omega
 ·have:=Ll (f:=zP n) (k:=k0) (by omega);omega
 ·have:=XY (f:=zP n) (f':=zP n') (k:=k0) (k':=k0') (by omega) (by omega) (b.symm.trans b');subst this;rw[e]at e';cases e';rfl
def inv(l:az aE)(m:aE):aA aE:=l.find? λn=>decide (wx l n=ah m)
theorem agb{l:az aE}(hl:l.length<=900){n k:aE}(h:wx l n=ah k):inv l k=ah n:=by
 unfold inv;cases hf:l.find? (λn=>decide (wx l n=ah k))with
 |none=>have:=Xx.1 hf n (yr h).1;simp[h]at this
 |some n'=>have:=vn hf;rw[aaa hl h (cq this)]
theorem TS{l:az aE}{m n:aE}(h:inv l m=ah n):wx l n=ah m:=cq (vn (p:=λn=>decide (wx l n=ah m)) h)
theorem FL{l ns:az aE}(h:zR l ns=ai):∀n∈ns,n∈l:=λn hn=>zU (bu.1 h n hn)
theorem rV{σ:St}{l:az aE}:∀{r:az aE} {k:aE} {x:eP},(k,x)∈wu σ l r↔∃n∈r,∃m,wx l n=ah m/\k=c9 m/\x=Qs l (σ (c9 n)):=by
 intro r;induction r with
 |nil=>intro k x;simp[wu]
 |cons n r ih=>
  intro k x;unfold wu;cases hr:wx l n with
  |none=>
   simp only;rw[ih];constructor
   ·rintro ⟨n',h1,h2⟩;exact⟨n',c7 _ h1,h2⟩
   ·rintro ⟨n',h1,m,h2,h3⟩;rcases cB.1 h1 with rfl|h1
    ·rw[hr]at h2;cases h2
    ·exact⟨n',h1,m,h2,h3⟩
  |some m=>
   simp only[cB,ih];constructor
   ·rintro (h|⟨n',h1,h2⟩)
    ·cases h;exact⟨n, .inl rfl,m,hr,rfl,rfl⟩
    ·exact⟨n', .inr h1,h2⟩
   ·rintro ⟨n',h1|h1,m',h2,rfl,rfl⟩
    ·subst h1;rw[hr]at h2;cases h2;exact .inl rfl
    ·exact .inr ⟨n',h1,m',h2,rfl,rfl⟩
section
variable {P:cZ} {E:fT} {σ:St} {a:Act} {w:bM} {c:eZ} {o:fu} {nm:aE} {e:tc}
def yp(c:eZ)(l:az aE):eZ:=
 ⟨λm=>match inv l m with|some n=>c.P n|none=>c.P m,λm=>match inv l m with|some n=>c.G n|none=>c.G m,c.K⟩
theorem yq{l:az aE}(hl:l.length<=900){n m:aE}(h:wx l n=ah m):(yp c l).P m=c.P n/\(yp c l).G m=c.G n:=by have:=agb hl h;unfold yp;simp only[this];exact⟨trivial,trivial⟩
theorem ua{T:Tab}{l:az aE}(hl:l.length<=900){x:AV}{u:bn}(hx:eF T w c x u)(hk:∀n∈bR x,n∈l):eF T w (yp c l) (qb l x) u/\∀m∈bR (qb l x),∃n∈l,wx l n=ah m:=by
 have named:∀n,n∈bR x->∃k,wx l n=ah k/\(yp c l).P k=c.P n/\(yp c l).G k=c.G n:=λn hn=>by obtain⟨k,h⟩:=Vu (hk n hn);exact⟨k,h,yq hl h⟩
 have nn:∀m,m∈([]:az aE)->∃n∈l,wx l n=ah m:=λm h=>by cases h
 cases x with
 |i=>exact⟨hx,nn⟩
 |b=>exact⟨hx,nn⟩
 |s=>exact⟨hx,nn⟩
 |nl=>exact⟨hx,nn⟩
 |sh=>exact⟨hx,nn⟩
 |sp=>exact⟨hx,nn⟩
 |fn=>exact⟨hx,nn⟩
 |fp=>exact⟨hx,nn⟩
 |own n=>obtain⟨k,h,e1,e2⟩:=named n (by simp[bR]);simp only[qb,h];exact⟨by simp only[eF,e1]at hx⊢;exact hx,λm hm=>⟨n,hk n (by simp[bR]),by rw[show m=k by simpa [bR]using hm];exact h⟩⟩
 |vw n lo hi=>obtain⟨k,h,e1,e2⟩:=named n (by simp[bR]);simp only[qb,h];exact⟨by simp only[eF,e1]at hx⊢;exact hx,λm hm=>⟨n,hk n (by simp[bR]),by rw[show m=k by simpa [bR]using hm];exact h⟩⟩
 |bp n j=>obtain⟨k,h,e1,e2⟩:=named n (by simp[bR]);simp only[qb,h];exact⟨by simp only[eF,e1]at hx⊢;exact hx,λm hm=>⟨n,hk n (by simp[bR]),by rw[show m=k by simpa [bR]using hm];exact h⟩⟩
 |rp n i j=>obtain⟨k,h,e1,e2⟩:=named n (by simp[bR]);simp only[qb,h];exact⟨by simp only[eF,e1]at hx⊢;exact hx,λm hm=>⟨n,hk n (by simp[bR]),by rw[show m=k by simpa [bR]using hm];exact h⟩⟩
 |inn n i j=>obtain⟨k,h,e1,e2⟩:=named n (by simp[bR]);simp only[qb,h];exact⟨by simp only[eF,e1,e2,Ou hl h]at hx⊢;exact hx,λm hm=>⟨n,hk n (by simp[bR]),by rw[show m=k by simpa [bR]using hm];exact h⟩⟩
 |ip n i j i2 j2=>obtain⟨k,h,e1,e2⟩:=named n (by simp[bR]);simp only[qb,h];exact⟨by simp only[eF,e1,e2,Ou hl h]at hx⊢;exact hx,λm hm=>⟨n,hk n (by simp[bR]),by rw[show m=k by simpa [bR]using hm];exact h⟩⟩
theorem Mi{T:Tab}{l:az aE}(hl:l.length<=900){g:aU}{xs:az AV}{u:bn}(hx:qo T w c g xs u)(hk:∀n∈xs.flatMap bR,n∈l):qo T w (yp c l) g (xs.map (qb l)) u/\∀m∈(xs.map (qb l)).flatMap bR,∃n∈l,wx l n=ah m:=by
 have kx:∀x∈xs,∀n∈bR x,n∈l:=λx hx n hn=>hk n (bQ.2 ⟨x,hx,hn⟩);unfold qo at hx;split at hx
 ·rename_i y;obtain⟨h1,h2⟩:=ua hl hx (kx y (by simp));exact⟨h1,λm hm=>h2 m (by simpa using hm)⟩
 ·obtain⟨vals,rfl,hs,hv⟩:=hx;refine⟨⟨vals,rfl,by simp[hs],λj y hj=> ?_⟩,λm hm=> ?_⟩
  ·rw[bL]at hj;cases Ys:xs[j]? with
   |none=>rw[Ys]at hj;cases hj
   |some x=>rw[Ys]at hj;cases hj;obtain⟨u,hu,ha⟩:=hv j x Ys;exact⟨u,hu,(ua hl ha (kx x (aR Ys))).1⟩
  ·obtain⟨y,hy,hm⟩:=bQ.1 hm;obtain⟨x,hxm,rfl⟩:=cU.1 hy;obtain⟨j,hj⟩:=b7 hxm;obtain⟨u,hu,ha⟩:=hv j x hj;exact(ua hl ha (kx x hxm)).2 m hm
 ·exact hx.elim
theorem Kg{T:Tab}{l:az aE}(hl:l.length<=900){s:SV}{u:bn}(hx:jm T w c s u):jm T w (yp c l) (FX l s) u/\∀m∈cO (FX l s),∃n∈l,wx l n=ah m:=by
 unfold FX;cases hk:zR l (cO s)with
 |false=>exact⟨trivial,λm hm=>by simp[cO]at hm⟩
 |true=>
  have hk:=FL hk;simp only[au];cases s with
  |un=>exact⟨trivial,λm hm=>by simp[cO]at hm⟩
  |v g xs=>exact Mi hl hx hk
  |kq r=>
   obtain⟨vs,rfl,hs,hv⟩:=hx;have kr:∀x∈r,∀n∈x.2.flatMap bR,n∈l:=λx hx n hn=>hk n (bQ.2 ⟨x,hx,hn⟩);refine⟨⟨vs,rfl,by simp[hs],λj g xs hj=> ?_⟩,λm hm=> ?_⟩
   ·rw[bL]at hj;cases Ys:r[j]? with
    |none=>rw[Ys]at hj;cases hj
    |some x=>rw[Ys]at hj;cases hj;obtain⟨u,hu,ha⟩:=hv j x.1 x.2 Ys;exact⟨u,hu,(Mi hl ha (kr x (aR Ys))).1⟩
   ·obtain⟨y,hy,hm⟩:=bQ.1 hm;obtain⟨x,hxm,rfl⟩:=cU.1 hy;obtain⟨j,hj⟩:=b7 hxm;obtain⟨u,hu,ha⟩:=hv j x.1 x.2 hj;exact(Mi hl ha (kr x hxm)).2 m hm
theorem Vt{l:az aE}{x:eP}:Qs l x≠ .j9:=by
 unfold Qs;split
 ·intro h;revert h;cases zR l _<;>simp
 ·simp
 ·simp
theorem Ps{N:aE}{σ0:St}{c0:eZ}{w0:bM}{keep:az aE}(h:At P E N σ0 c0 w0 σ a w c):∃c',At P E N σ0 c0 w0 (fM (m_ (Lc keep σ) λl=>Lb keep σ l)) a w c':=by
 rw[o0];generalize Lc keep σ=l;unfold Lb;cases hle:fJ l.length 900 with
 |false=>
  simp only[aw];have hn:∀k,fM [] k= .j9:=λk=>rfl;have no:∀{k:aE} {x:Obj},fM [] k≠ .o x:=λh=>by rw[hn]at h;cases h
  refine⟨c,⟨λnm o ho=>cL ho no,λnm o xZ o' b ho=>cL ho no,λnm o b ho=>cL ho no,h.ok.lt,λnm xs ho=>cL ho no⟩,⟨λn=>trivial,λn m hm=>(by simp[slot,fM,cO]at hm),h.sl.df⟩,h.sz,h.gr.trans ⟨rfl,rfl,rfl,cG _,λ_ h=>h,λ_ _ _=>rfl,λb hb=> ?_,λ_ h=> .inl h⟩,h.ag⟩
  obtain⟨nm,o,ho,_⟩:=hb;exact cL ho no
 |true=>
  have hl:=cM hle;simp only[au];generalize hT:keep.map (λn=>(qv n,eP.v (FX l (slot σ n))))++wu σ l l=T;have awA:∀d∈T,d.2≠ .j9:=by
   rintro ⟨k,x⟩ hd;rw[<-hT]at hd;rcases bf.1 hd with hd|hd
   ·obtain⟨n,_,hd⟩:=cU.1 hd;cases hd;simp
   ·obtain⟨n,_,m,_,_,rfl⟩:=rV.1 hd;exact Vt
  have awB:∀{m:aE} {ob:Obj},fM T (c9 m)= .o ob->∃n∈l,wx l n=ah m/\Qs l (σ (c9 n))= .o ob:=by
   intro m ob ho;have:=n6 ho (by simp);rw[<-hT]at this;rcases bf.1 this with hd|hd
   ·obtain⟨n,_,hd⟩:=cU.1 hd;injection hd with h1 h2;exact cL h1 (se n m)
   ·obtain⟨n,hn,m',hr,h1,h2⟩:=rV.1 hd;have:=j4 h1;subst this;exact⟨n,hn,hr,h2.symm⟩
  have Uc:∀{m n:aE},n∈l->wx l n=ah m->fM T (c9 m)≠ .j9:=λhn hr=>si (l:=T) (by rw[<-hT];exact bO _ (rV.2 ⟨_,hn,_,hr,rfl,rfl⟩)) awA;have adl:∀n,slot (fM T) n=FX l (slot σ n)\/slot (fM T) n= .un:=by
   intro n;unfold slot;cases hs:fM T (qv n)with
   |v x=>
    have:=n6 hs (by simp);rw[<-hT]at this;rcases bf.1 this with hd|hd
    ·obtain⟨n',_,hd⟩:=cU.1 hd;injection hd with h1 h2;have:=Ig h1;subst this;cases h2;exact .inl rfl
    ·obtain⟨n',hn,m',hr,h1,h2⟩:=rV.1 hd;exact cL h1 (se _ _)
   |o=>exact .inr rfl
   |j9=>exact .inr rfl
  have was:∀{m:aE} {ob:Obj},fM T (c9 m)= .o ob->ob= .dead\/∃n∈l,wx l n=ah m/\((σ (c9 n)= .o ob/\∀xs,ob≠ .box xs)\/∃xs,σ (c9 n)= .o (.box xs)/\ob= .box (xs.map (qb l))/\∀k∈xs.flatMap bR,k∈l):=by
   intro m ob ho;obtain⟨n,hn,hr,he⟩:=awB ho;unfold Qs at he;split at he
   ·rename_i xs hx;cases hk:zR l (xs.flatMap bR)with
    |true=>rw[hk]at he;cases he;exact .inr ⟨n,hn,hr, .inr ⟨xs,hx,rfl,FL hk⟩⟩
    |false=>rw[hk]at he;cases he;exact .inl rfl
   ·rename_i x iz hx;cases he;exact .inr ⟨n,hn,hr, .inl ⟨hx,λxs e=>iz xs e⟩⟩
   ·cases he;exact .inl rfl
  have NT:∀{m:aE} {ob:Obj} {b:aE},fM T (c9 m)= .o ob->fL (yp c l) m ob b->∃n o,wx l n=ah m/\σ (c9 n)= .o o/\fL c n o b:=by
   intro m ob b ho hf;rcases was ho with rfl|⟨n,hn,hr,⟨h1,_⟩|⟨xs,h1,rfl,_⟩⟩
   ·exact hf.elim
   ·obtain⟨e1,e2⟩:=yq (c:=c) hl hr;refine⟨n,ob,hr,h1, ?_⟩
    cases ob<;>simp only[fL,e1,e2]at hf⊢ <;>exact hf
   ·obtain⟨e1,e2⟩:=yq (c:=c) hl hr;refine⟨n,_,hr,h1, ?_⟩
    simp only[fL,e1]at hf⊢;exact hf
  refine⟨yp c l,⟨?_, ?_, ?_,h.ok.lt, ?_⟩,⟨?_, ?_,h.sl.df⟩,h.sz,h.gr.trans ⟨rfl,rfl,rfl,cG _,λ_ h=>h,λ_ _ _=>rfl, ?_,λ_ h=> .inl h⟩,h.ag.trans ?_⟩
  ·intro m ob ho;rcases was ho with rfl|⟨n,hn,hr,⟨h1,h2⟩|⟨xs,h1,rfl,hk⟩⟩
   ·trivial
   ·obtain⟨e1,e2⟩:=yq (c:=c) hl hr;have na:=h.ok.obj n ob h1;cases ob with
    |box xs=>exact cL rfl (h2 xs)
    |dead=>trivial
    |oe cs=>show FB E w c.K ((yp c l).P m).blk cs;rw[e1];exact na
    |fW e' xs=>show da E w c.K (l_ ((yp c l).P m)) _/\((yp c l).P m).n=_/\_;rw[e1];exact na
    |row e' ex xs=>obtain⟨q1,q2,q3⟩:=na;exact⟨by rw[e1];exact q1,by rw[e1,e2];exact q2,by rw[e1,e2];exact q3⟩
   ·obtain⟨e1,e2⟩:=yq (c:=c) hl hr;obtain⟨vals,hb,hs,hv⟩:=h.ok.obj n _ h1;refine⟨vals,by rw[e1];exact hb,by simp[hs],λj y hj=> ?_⟩
    rw[bL]at hj;cases hx:xs[j]? with
    |none=>rw[hx]at hj;cases hj
    |some x=>rw[hx]at hj;cases hj;obtain⟨u,hu,ha⟩:=hv j x hx;exact⟨u,hu,(ua hl ha (λk vv=>hk k (bQ.2 ⟨x,aR hx,vv⟩))).1⟩
  ·intro m ob m' ob' b ho vx hf vt;obtain⟨n,o1,r1,s1,f1⟩:=NT ho hf;obtain⟨n',o2,r2,s2,f2⟩:=NT vx vt;have:=h.ok.sep n o1 n' o2 b s1 s2 f1 f2;subst this;rw[r1]at r2;cases r2;rfl
  ·intro m ob b ho hf;obtain⟨n,o1,r1,s1,f1⟩:=NT ho hf;exact h.ok.kk n o1 b s1 f1
  ·intro m xs ho y hy k hk;rcases was ho with h'|⟨n,hn,hr,⟨h1,h2⟩|⟨zs,h1,he,JJ⟩⟩
   ·cases h'
   ·exact cL rfl (h2 xs)
   ·cases he;obtain⟨x,hxm,rfl⟩:=cU.1 hy;obtain⟨vals,hb,hs,hv⟩:=h.ok.obj n _ h1;obtain⟨j,hj⟩:=b7 hxm;obtain⟨u,hu,ha⟩:=hv j x hj;obtain⟨n',kP,Ep⟩:=(ua hl ha (λk vv=>JJ k (bQ.2 ⟨x,hxm,vv⟩))).2 k hk;exact Uc kP Ep
  ·intro n;rcases adl n with hs|hs
   ·rw[hs];exact(Kg hl (h.sl.ok n)).1
   ·rw[hs];trivial
  ·intro n m hm;rcases adl n with hs|hs
   ·rw[hs]at hm;obtain⟨n',kP,Ep⟩:=(Kg hl (h.sl.ok n)).2 m hm;exact Uc kP Ep
   ·rw[hs]at hm;simp[cO]at hm
  ·rintro b ⟨m,ob,ho,hf⟩;obtain⟨n,o1,r1,s1,f1⟩:=NT ho hf;exact .inl ⟨n,o1,s1,f1⟩
  ·intro m hm;unfold yp;cases hi:inv l m with
   |none=>simp only[hi];exact⟨trivial,trivial⟩
   |some n=>
    have:=(yr (TS hi)).2;have:n=m:=by
     rcases this with ⟨_,h⟩|⟨_,k0,h,hk0,_⟩
     ·exact h.symm
     ·have:=Ll (f:=zP n) (k:=k0) (by omega);omega
    subst this;simp only[hi];exact⟨trivial,trivial⟩
theorem ak7{N:aE}{σ0:St}{c0:eZ}{w0:bM}{nm F j e:aE}{xs:az AV}{ti:TI}(hx:E.ty e=ah ti)(jt:F<900000000)(na:σ (c9 nm)= .o (.box xs))(hF:σ (c9 F)= .j9)(hc:xs[j]? =ah .nl)(h:At P E N σ0 c0 w0 σ a w c):
  ∃c',At P E N σ0 c0 w0 (pS (pS σ (c9 nm) (.o (.box (xs.set j (.own F))))) (c9 F) (.o (.row e ai []))) a w c':=by
 let c':eZ:=⟨λn=>if n=F then⟨ai,0,0,0,0,ti.ks.length⟩else c.P n,λn=>if n=F then(λ_ _=>⟨ai,0,0,0,0,0⟩)else c.G n,c.K⟩
 have hP:c'.P F=⟨ai,0,0,0,0,ti.ks.length⟩:=bA rfl;have hA:jE σ c c':=λm hm=>by
  have:m≠F:=by rintro rfl;rcases hm with h|h;exact h hF;omega
  exact⟨bJ this,bJ this⟩
 have hnF:nm≠F:=by rintro rfl;rw[na]at hF;cases hF
 have hPn:c'.P nm=c.P nm:=bJ hnF;let σ':=pS (pS σ (c9 nm) (.o (.box (xs.set j (.own F))))) (c9 F) (.o (.row e ai []));have key:∀m,σ' (c9 m)=if m=F then .o (.row e ai [])else if m=nm then .o (.box (xs.set j (.own F)))else σ (c9 m):=λm=>by show pS _ _ _ _=_;rw[qd,qd]
 have iz:∀m,σ (c9 m)≠ .j9->σ' (c9 m)≠ .j9:=λm hm=>by
  rw[key];by_cases h1:m=F
  ·rw[bA h1];simp
  ·rw[bJ h1];by_cases h2:m=nm
   ·rw[bA h2];simp
   ·rw[bJ h2];exact hm
 have noI:∀i j,¬gm [] i j:=λi j ⟨y,x,hy,_⟩=>by simp at hy
 have foF:∀b,¬fL c' F (.row e ai []) b:=by
  rintro b (⟨h1,_⟩|⟨_,i,j,h1,_⟩)
  ·rw[hP]at h1;cases h1
  ·exact noI i j h1
 obtain⟨vals,hb,gj,hv⟩:=h.ok.obj nm _ na
 have hh:=h.ok.change (σ':=σ') (w':=w) (c':=c') (λm=>m=F\/m=nm)
  (λm hm=>by rw[key,bJ (λe=>hm (.inl e)),bJ (λe=>hm (.inr e))]) iz hA (λ_ _ _=>rfl) (cG _) (λ_ h=>h) (λ_ h=> .inl h) h.ok.lt
  (λm o hm ho=>by
   rw[key]at ho;by_cases JK:m=F
   ·rw[bA JK]at ho;cases ho;subst JK;refine⟨⟨ti,hx,by rw[hP],λy hy=>by cases hy⟩,⟨by rw[hP];rfl,λ_=>⟨rfl,by rw[hP]⟩,λhn=>by rw[hP]at hn;cases hn⟩,λ_=>⟨λi j hi=>cL hi (noI i j),λi j _ _ hi=>cL hi (noI i j)⟩⟩
   ·have hmn:=hm.resolve_left JK;subst hmn;rw[bJ JK,bA rfl]at ho;cases ho;refine⟨vals,by rw[hPn];exact hb,by rw[cD];exact gj,λk y hk=> ?_⟩
    by_cases hkj:j=k
    ·subst hkj;have hl:j<xs.length:=(aT.1 hc).1;rw[List.getElem?_set_self hl]at hk;cases hk;obtain⟨u,hu,W4⟩:=hv j _ hc;exact⟨u,hu,by show u=l_ (c'.P F);rw[hP];exact W4⟩
    ·rw[List.getElem?_set_ne hkj]at hk;obtain⟨u,hu,W4⟩:=hv k y hk;exact⟨u,hu,W4.frame (λ_ _=>rfl) (λ_ h=>h) (λn hn=>hA n (.inl (h.ok.kn m xs na y (aR hk) n hn)))⟩)
  (λm o b hm ho hf=>by
   rw[key]at ho;by_cases JK:m=F
   ·rw[bA JK]at ho;cases ho;subst JK;exact cL hf (foF b)
   ·have hmn:=hm.resolve_left JK;subst hmn;rw[bJ JK,bA rfl]at ho;cases ho;have hf:b=(c'.P m).blk:=hf;rw[hPn]at hf;exact⟨.inl ⟨m,_, .inr rfl,na,hf⟩,λhk=>h.ok.kk m _ b na hf hk⟩)
  (λm o m' o' b hm xS ho vx hf vt=>by
   rw[key]at ho vx;by_cases JK:m=F
   ·rw[bA JK]at ho;cases ho;subst JK;exact cL hf (foF b)
   ·by_cases afT:m'=F
    ·rw[bA afT]at vx;cases vx;subst afT;exact cL vt (foF b)
    ·rw[hm.resolve_left JK,xS.resolve_left afT])
  (λm ys hm ho y hy n hn=>by
   rw[key]at ho;by_cases JK:m=F
   ·rw[bA JK]at ho;cases ho
   ·have hmn:=hm.resolve_left JK;subst hmn;rw[bJ JK,bA rfl]at ho;cases ho;rcases jI hy with hy|hy
    ·exact iz n (h.ok.kn m xs na y hy n hn)
    ·subst hy;rw[show n=F from by simpa [bR]using hn,key,bA rfl];simp) rfl rfl rfl
 have sl:=h.sl.change h.ok hh.2 hA iz ({(default:fu)with dst:=none}) undef (λn _=>by show slot (pS _ _ _) n=_;rw[js,js]) (λd hd=>by cases hd);exact⟨c',hh.1,sl,h.sz,h.gr.trans hh.2,h.ag.trans hA.w.aga⟩
theorem Uy{α:Type}{N:aE}{σ0:St}{c0:eZ}{w0:bM}{x:aE}(hx:∃ti,E.ty (kTy x)=ah ti)(h:At P E N σ0 c0 w0 σ a w c):∃σ' c',At P E N σ0 c0 w0 σ' a w c'/\∀f:St->α,AE x σ f=f σ':=by
 obtain⟨ti,hx⟩:=hx;have jt:kNm x<900000000:=by unfold kNm;have:=DM (x/1000) (show 1000000>0 by omega);omega
 have no:(∀f:St->α,AE x σ f=f σ)->∃σ' c',At P E N σ0 c0 w0 σ' a w c'/\∀f:St->α,AE x σ f=f σ':=λe=>⟨σ,c,h,e⟩
 cases hs:slot σ (acC x)with
 |v g l=>
  by_cases hm:∃nm xs,g=ak/\l=[.bp nm 0]/\σ (c9 nm)= .o (.box xs)/\σ (c9 (kNm x))= .j9/\xs[T9 x]? =ah .nl
  ·obtain⟨nm,xs,rfl,rfl,na,hF,hc⟩:=hm;obtain⟨c',h'⟩:=ak7 hx jt na hF hc h;exact⟨_,c',h',λf=>by unfold AE;rw[hs];simp only[na,hF,hc,nZ]⟩
  ·refine no λf=> ?_;unfold AE;rw[hs];split
   ·rename_i nm he;cases he;split
    ·rename_i xs h1 h2;split
     ·rename_i h3;exact cL ⟨nm,xs,rfl,rfl,h1,h2,h3⟩ hm
     ·rfl
    ·rfl
   ·rfl
 |kq l=>exact no λf=>by unfold AE;rw[hs]
 |un=>exact no λf=>by unfold AE;rw[hs]
theorem C2{α:Type}{N:aE}{σ0:St}{c0:eZ}{w0:bM}:∀(keep:az aE) (σ:St) (c:eZ) (hk:∀x∈keep,YC x=ai->∃ti,E.ty (kTy x)=ah ti) (h:At P E N σ0 c0 w0 σ a w c),∃σ' c',At P E N σ0 c0 w0 σ' a w c'/\∀f:St->α,Oc keep σ f=f σ'
 |[],σ,c,_,h=>⟨σ,c,h,λ_=>rfl⟩
 |x::r,σ,c,hk,h=>by
  cases hx:YC x with
  |false=>obtain⟨σ',c',h',e⟩:=C2 r σ c (λy hy=>hk y (c7 _ hy)) h;exact⟨σ',c',h',λf=>by show(bif YC x then _ else _)=_;rw[hx];exact e f⟩
  |true=>obtain⟨σ1,c1,h1,e1⟩:=Uy (α:=α) (hk x (dv ..) hx) h;obtain⟨σ',c',h',e⟩:=C2 r σ1 c1 (λy hy=>hk y (c7 _ hy)) h1;exact⟨σ',c',h',λf=>by show(bif YC x then _ else _)=_;rw[hx,au,e1,e]⟩
theorem Jg{N:aE}{σ0:St}{c0:eZ}{w0:bM}{keep:az aE}(hk:∀x∈keep,YC x=ai->∃ti,E.ty (kTy x)=ah ti)(h:At P E N σ0 c0 w0 σ a w c):∃c',At P E N σ0 c0 w0 (canon keep σ) a w c':=by obtain⟨σ',c1,h1,e⟩:=C2 (α:=az (aE×eP)) keep σ c hk h;unfold canon Ld;rw[e,o0];exact Ps h1
theorem Ub{n:aE}:∀x∈E.AB n,YC x=ai->∃ti,E.ty (kTy x)=ah ti:=by
 intro x hx hk;have:=(dm.1 hx).2;rw[hk,au]at this;cases h:E.ty (kTy x)with
 |some ti=>exact⟨ti,rfl⟩
 |none=>rw[h]at this;cases this
end
end Go.FG

namespace Go.FG
def afu:Ex->Exit| .normal=> .normal| .exit id=> .exit id| .ret=> .ret
def tD(N:aE):Code->aU
 | .region _ os _=>os.toList.all λo=>match o.dst with|some d=>qC d N|none=>ai
 | .seq a b=>tD N a&&tD N b
 | .cond _ a b=>tD N a&&tD N b
 | .block _ c=>tD N c
 | .loop c=>tD N c
 |_=>ai
theorem least{p:aE->Prop}(h:∃n,p n):∃n,p n/\∀k,p k->n<=k:=by
 obtain⟨n,hn⟩:=h;induction n using Nat.strongRecOn with
 |_ n ih=>
  by_cases hm:∃m,m<n/\p m
  ·obtain⟨m,h1,h2⟩:=hm;exact ih m h1 h2
  ·exact⟨n,hn,λk hk=>by
    rcases qY k n with h|h
    ·exact cL ⟨k,h,hk⟩ hm
    ·exact h⟩
section
variable {P:cZ} {E:fT}
def bZ(E:fT){R:Type}(it:It R)(c:Code):Prop:=∀L K r,it (gK c) (tF E it c) (canon (E.AB (gK c))) L K=ah r->∃n,iter (tF E it c) (canon (E.AB (gK c))) n (fM L) K=ah r
theorem aft(hE:eA P E)(hF:∀g,lY P E g (E.call g))(hm:P.follows .mixedOrders=ai){R:Type}{N:aE}{σ0:St}{c0:eZ}{w0:bM}{it:It R}{r:R}:∀(code:Code),(∀c∈jZ code,bZ E it c)->∀(σ:St) (K:Ex->St->aA R) (Q:Exit->Act->bM->Prop),tF E it code σ K=ah r->tD N code=ai->
  (∀e σ' a w c,K e σ'=ah r->At P E N σ0 c0 w0 σ' a w c->Q (afu e) a w)->∀a w c,At P E N σ0 c0 w0 σ a w c->code.wp P Q a w:=by
 intro code;induction code with
 |skip=>intro _ σ K Q h _ hQ a w c gi;exact wp_skip (hQ .normal σ a w c h gi)
 |region id os draw=>intro CR σ K Q h hb hQ a w c gi;refine Qr hE hF hm h (λo ho d hd=> ?_) (λσ' a w c hk gi=>hQ .normal σ' a w c hk gi) gi;have:=bu.1 hb o ho;rw[hd]at this;have this:qC d N=true:=this;simpa [AX]using this
 |seq x y ihx ihy=>
  intro CR σ K Q h hb hQ a w c gi;simp only[tD,aM]at hb;refine wp_seq (ihx (λc hc=>CR c (bN _ hc)) σ _ _ h hb.1 (λe σ' a w c hk gi=> ?_) a w c gi);cases e with
  |normal=>exact ihy (λc hc=>CR c (bO _ hc)) σ' K Q hk hb.2 hQ a w c gi
  |exit id=>exact hQ (.exit id) σ' a w c hk gi
  |ret=>exact hQ .ret σ' a w c hk gi
 |cond cnd x y ihx ihy=>
  intro CR σ K Q h hb hQ a w c gi;simp only[tD,aM]at hb;cases cnd with
  |tmp t=>
   unfold tF at h;dsimp only at h;split at h
   ·rename_i b hs;have h1:=gi.sl.ok t;have:slot σ t= .v ak [.b b]:=by unfold slot;rw[hs]
    rw[this]at h1;have h1:a.eval (.tmp t)= .bool b:=h1;cases b with
    |true=>have h:tF E it x (pS σ (qv t) (.v (.v ak [.b ai]))) K=ah r:=h;rw[DE hs]at h;exact wp_cond_true h1 (ihx (λc hc=>CR c (bN _ hc)) σ K Q h hb.1 hQ a w c gi)
    |false=>have h:tF E it y (pS σ (qv t) (.v (.v ak [.b ak]))) K=ah r:=h;rw[DE hs]at h;exact wp_cond_false h1 (ihy (λc hc=>CR c (bO _ hc)) σ K Q h hb.2 hQ a w c gi)
   ·cases h
  |_=>simp[tF]at h
 |block id x ih=>
  intro CR σ K Q h hb hQ a w c gi;refine wp_block (ih CR σ _ _ h hb (λe σ' a w c hk gi=> ?_) a w c gi);cases e with
  |normal=>exact hQ .normal σ' a w c hk gi
  |ret=>exact hQ .ret σ' a w c hk gi
  |exit j=>
   have hk:(bif bF j id then K .normal σ' else K (.exit j) σ')=ah r:=hk;show IP id Q (.exit j) a w;cases hj:bF j id with
   |true=>rw[hj]at hk;have PV:=aW hj;have h1:Q .normal a w:=hQ .normal σ' a w c hk gi;simp only[IP,PV,if_true];exact h1
   |false=>
    rw[hj]at hk;have iz:j≠id:=λe=>by subst e;simp at hj
    have h1:Q (.exit j) a w:=hQ (.exit j) σ' a w c hk gi;simp only[IP,iz,if_false];exact h1
 |loop x ih=>
  intro CR σ K Q h hb hQ a w c gi;obtain⟨n,h⟩:∃n,iter (tF E it x) (canon (E.AB (gK x))) n (canon (E.AB (gK x)) σ) K=ah r:=CR x (dv ..) _ K r h;let f:=tF (R:=R) E it x;let cn:=canon (E.AB (gK x));let p:Act->bM->aE->Prop:=λa w m=>∃σ c,iter f cn m σ K=ah r/\At P E N σ0 c0 w0 σ a w c;let mu:Act->bM->aE:=λa w=>open Classical in if h:∃m,p a w m then(least h).choose else 0
  have hmu:∀a w,(∃m,p a w m)->p a w (mu a w)/\∀k,p a w k->mu a w<=k:=by
   intro a w h;have:mu a w=(least h).choose:=by simp only[mu];rw[dif_pos h]
   rw[this];exact(least h).choose_spec
  obtain⟨c1,atc⟩:=Jg (keep:=E.AB (gK x)) Ub gi;refine wp_loop (λa w=>∃m,p a w m) mu ⟨n,_,c1,h,atc⟩ (λa w hI=> ?_);obtain⟨⟨σ1,c2,h1,oU⟩,hle⟩:=hmu a w hI;cases hm0:mu a w with
  |zero=>rw[hm0]at h1;cases h1
  |succ m=>
   rw[hm0]at h1;refine ih (λc hc=>CR c (c7 _ hc)) σ1 _ _ h1 hb (λe σ' a' w' c' hk Bh=> ?_) a w c2 oU;obtain⟨c3,afG⟩:=Jg (keep:=E.AB (gK x)) Ub Bh;cases e with
   |normal=>
    have hp:p a' w' m:=⟨_,c3,hk,afG⟩
    refine⟨⟨m,hp⟩, ?_⟩
    have:=(hmu a' w' ⟨m,hp⟩).2 m hp;omega
   |exit id=>exact hQ (.exit id) _ a' w' c3 hk afG
   |ret=>exact hQ .ret _ a' w' c3 hk afG
 |exit id=>intro _ σ K Q h _ hQ a w c gi;exact wp_exit (hQ (.exit id) σ a w c h gi)
 |ret=>intro _ σ K Q h _ hQ a w c gi;exact wp_ret (hQ .ret σ a w c h gi)
 |_=>intro _ σ K Q h;simp[tF]at h
end
end Go.FG

namespace Go.FG
structure jF where
 aa:AA
 tk:az aE
 fz:az aE
 p:Pl
 g:aE->aE->Pl
 u:bn
section
variable {P:cZ} {E:fT} {σ:St} {a:Act} {w:bM} {c:eZ}
def jX(T:Tab)(σ:St)(w:bM)(c:eZ)(r:jF):Prop:=
 (∃e ex ys te,r.aa= .ow e ex ys/\r.fz=[]/\T.ty e=ah te/\r.u=l_ r.p/\r.p.sz=te.ks.length/\(∀y∈ys,y.map CV.kd=te.ks)/\jl w r.p ys (λi j u x=>if ex=ai then XC T w r.g i j u x else da T w c.K u x)/\(ex=ai->Gt r.p r.g ys)/\
  (r.p.nil=ak->∃n ob,n∈r.tk/\σ (c9 n)= .o ob/\fL c n ob r.p.blk)/\(ex=ai->∀i j,gm ys i j->(r.g i j).nil=ak->∃n ob,n∈r.tk/\σ (c9 n)= .o ob/\fL c n ob (r.g i j).blk))\/
 (r.tk=[]/\(∀n∈r.fz,∃el ex xs,σ (c9 n)= .o (.row el ex xs))/\(∀e ex xs,r.aa≠ .ow e ex xs)/\(∀xs,r.aa≠ .kp xs)/\∀c3:eZ,(∀b,K1r σ c r.fz b->c3.K b)->∀nm,eF T w c3 (lJ nm r.aa) r.u)
theorem Jx(cg:Ok E σ w c){om:Om}{k:Ck}{x:AV}{u:bn}{aa:AA}{tk fz:az aE}(h:Ax E om σ k x=ah (aa,tk,fz))(hx:eF E w c x u):∃p g,jX E σ w c ⟨aa,tk,fz,p,g,u⟩:=by
 let nl:Pl:=⟨ai,0,0,0,0,0⟩
 have OW:∀e ex ys tk,(xD e x).val σ=ah (ex,ys,tk)->(∃te,E.ty e=ah te)->∃p g,jX E σ w c ⟨.ow e ex ys,tk,[],p,g,u⟩:=by rintro e ex ys tk hb ⟨te,ht⟩;obtain⟨p,g,hB⟩:=Cs cg ht hx hb;exact⟨p,g, .inl ⟨e,ex,ys,te,rfl,rfl,ht,hB.v,hB.sz,hB.sh,hB.at_,hB.inn,hB.own,hB.owni⟩⟩
 have SH:∀aa fz,(∀n∈fz,∃el ex xs,σ (c9 n)= .o (.row el ex xs))->(∀e ex xs,aa≠ .ow e ex xs)->(∀xs,aa≠ .kp xs)->(∀c3:eZ,(∀b,K1r σ c fz b->c3.K b)->∀nm,eF E w c3 (lJ nm aa) u)->∃p g,jX E σ w c ⟨aa,[],fz,p,g,u⟩:=
  λaa fz h1 h2 h3 h4=>⟨nl,λ_ _=>nl, .inr ⟨rfl,h1,h2,h3,h4⟩⟩
 have UA:∀n∈([]:az aE),∃el ex xs,σ (c9 n)= .o (.row el ex xs):=λn hn=>by cases hn
 have HT:∀e,Ay E e=ai->∃te,E.ty e=ah te:=λe he=>by
  unfold Ay at he;cases ht:E.ty e with
  |none=>rw[ht]at he;cases he
  |some te=>exact⟨te,rfl⟩
 have frz:∀{n el:aE} {ex:aU} {xs:aQ},σ (c9 n)= .o (.row el ex xs)->∀c3:eZ,(∀b,K1r σ c [n] b->c3.K b)->(∀b,c.K b->c3.K b)/\∀b,fL c n (.row el ex xs) b->c3.K b:=λhg c3 h=>⟨λb hb=>h b (.inl hb),λb hb=>h b (.inr ⟨_,a_.2 rfl,_,hg,hb⟩)⟩
 have fst:∀{n el:aE} {ex:aU} {xs:aQ},σ (c9 n)= .o (.row el ex xs)->∀m∈[n],∃el ex xs,σ (c9 m)= .o (.row el ex xs):=λhg m hm=>by rw[a_]at hm;subst hm;exact⟨_,_,_,hg⟩
 cases x with
 |i k n=>cases h;exact SH _ _ UA (λ_ _ _ h=>by cases h) (λ_ h=>by cases h) (λc3 _ _=>hx)
 |b y=>cases h;exact SH _ _ UA (λ_ _ _ h=>by cases h) (λ_ h=>by cases h) (λc3 _ _=>hx)
 |s y=>cases h;exact SH _ _ UA (λ_ _ _ h=>by cases h) (λ_ h=>by cases h) (λc3 _ _=>hx)
 |sh e xs=>
  cases om with
  |own=>cases h
  |nat=>cases h;exact SH _ _ UA (λ_ _ _ h=>by cases h) (λ_ h=>by cases h) (λc3 h3 _=>da.frame hx (λ_ _=>rfl) (λb hb=>h3 b (.inl hb)))
  |sh=>cases h;exact SH _ _ UA (λ_ _ _ h=>by cases h) (λ_ h=>by cases h) (λc3 h3 _=>da.frame hx (λ_ _=>rfl) (λb hb=>h3 b (.inl hb)))
 |nl=>
  have hx:u= .slice aj 0 0:=hx;cases om with
  |own e=>
   have h:(bif Ay E e then ah (AA.ow e ai [],([]:az aE),([]:az aE))else aj)=ah (aa,tk,fz):=h;cases ht:Ay E e with
   |false=>rw[ht]at h;cases h
   |true=>rw[ht]at h;cases h;exact OW e ai [] [] rfl (HT e ht)
  |sh e=>cases h;exact SH _ _ UA (λ_ _ _ h=>by cases h) (λ_ h=>by cases h) (λc3 _ _=>by rw[hx];exact da.nl _ _ _)
  |nat=>
   cases k with
   |l e=>
    have h:(bif Ay E e then ah (AA.ow e ai [],([]:az aE),([]:az aE))else aj)=ah (aa,tk,fz):=h;cases ht:Ay E e with
    |false=>rw[ht]at h;cases h
    |true=>rw[ht]at h;cases h;exact OW e ai [] [] rfl (HT e ht)
   |_=>cases h;exact SH _ _ UA (λ_ _ _ h=>by cases h) (λ_ h=>by cases h) (λc3 _ _=>hx)
 |own n=>
  unfold Ax at h;dsimp only at h;cases ho:σ (c9 n)with
  |v=>rw[ho]at h;cases h
  |j9=>rw[ho]at h;cases h
  |o ob=>
   rw[ho]at h;have hu:u=l_ (c.P n):=hx;cases ob with
   |row e ex xs=>
    obtain⟨_,_,ti,ht,_⟩:=lC cg ho;have hb:(xD e (.own n)).val σ=ah (ex,xs,[n]):=by simp[xD,jN,ho]
    cases om with
    |sh e'=>cases h;refine SH _ _ (fst ho) (λ_ _ _ h=>by cases h) (λ_ h=>by cases h) (λc3 h3 _=> ?_);obtain⟨r1,r2⟩:=frz ho c3 h3;rw[hu];exact sd cg ho r1 r2
    |nat=>cases h;exact OW e ex xs [n] hb ⟨ti,ht⟩
    |own=>cases h;exact OW e ex xs [n] hb ⟨ti,ht⟩
   |fW e xs=>
    have hh:da E w c.K u (.l e xs):=by rw[hu];exact(cg.obj n _ ho).1
    cases om with
    |own=>cases h
    |nat=>cases h;exact SH _ _ UA (λ_ _ _ h=>by cases h) (λ_ h=>by cases h) (λc3 h3 _=>da.frame hh (λ_ _=>rfl) (λb hb=>h3 b (.inl hb)))
    |sh=>cases h;exact SH _ _ UA (λ_ _ _ h=>by cases h) (λ_ h=>by cases h) (λc3 h3 _=>da.frame hh (λ_ _=>rfl) (λb hb=>h3 b (.inl hb)))
   |_=>cases h
 |vw n lo hi=>
  unfold Ax at h;dsimp only at h;cases ho:σ (c9 n)with
  |v=>rw[ho]at h;cases h
  |j9=>rw[ho]at h;cases h
  |o ob=>
   rw[ho]at h;cases ob with
   |row e ex xs=>
    obtain⟨_,_,ti,ht,_⟩:=lC cg ho;have hb:(xD e (.vw n lo hi)).val σ=ah (ex,eW xs lo hi,[n]):=by simp[xD,jN,ho]
    cases om with
    |sh e'=>cases h;refine SH _ _ (fst ho) (λ_ _ _ h=>by cases h) (λ_ h=>by cases h) (λc3 h3 _=> ?_);obtain⟨r1,r2⟩:=frz ho c3 h3;exact Ga cg ho r1 r2 hx
    |nat=>cases h;exact OW e ex _ [n] hb ⟨ti,ht⟩
    |own=>cases h;exact OW e ex _ [n] hb ⟨ti,ht⟩
   |fW e xs=>
    have hh:da E w c.K u (.l e (eW xs lo hi)):=pB cg ho hx;cases om with
    |own=>cases h
    |nat=>cases h;exact SH _ _ UA (λ_ _ _ h=>by cases h) (λ_ h=>by cases h) (λc3 h3 _=>da.frame hh (λ_ _=>rfl) (λb hb=>h3 b (.inl hb)))
    |sh=>cases h;exact SH _ _ UA (λ_ _ _ h=>by cases h) (λ_ h=>by cases h) (λc3 h3 _=>da.frame hh (λ_ _=>rfl) (λb hb=>h3 b (.inl hb)))
   |_=>cases h
 |_=>simp[Ax]at h
theorem Fv(cg:Ok E σ w c){q:aE}:∀{xs:az AV} {j0:aE} {ks:az Ck} {l:az AA} {tk fz:az aE} {vals:dt bn},tG E q σ j0 ks xs=ah (l,tk,fz)->f_ E w c vals xs->
  ∃cs:az jF,l=cs.map (·.aa)/\tk=cs.flatMap (·.tk)/\fz=cs.flatMap (·.fz)/\cs.length=xs.length/\∀(j:aE) (r:jF),cs[j]? =ah r->vals[j]? =ah r.u/\jX E σ w c r:=by
 intro xs;induction xs with
 |nil=>intro j0 ks l tk fz vals h _;cases h;exact⟨[],rfl,rfl,rfl,rfl,λj r h=>by simp at h⟩
 |cons x xs ih=>
  intro j0 ks l tk fz vals h hv;unfold tG at h;split at h
  ·rename_i aa t f as ts fs h1 h2;cases h;obtain⟨u,hu,ha⟩:=hv.2 0 x rfl;obtain⟨p,g,hc⟩:=Jx cg h1 ha;have N1:f_ E w c (vals.extract 1 vals.size) xs:=by
    refine⟨by simp;have:=hv.1;simp at this;omega,λj b hj=> ?_⟩
    obtain⟨u,hu,hb⟩:=hv.2 (j+1) b hj;refine⟨u, ?_,hb⟩
    have:=(dV.1 hu).1;rw[ea,bA (by omega),jd];exact hu
   obtain⟨cs,rfl,rfl,rfl,i4,i5⟩:=ih h2 N1;refine⟨⟨aa,t,f,p,g,u⟩::cs,rfl,rfl,rfl,by simp[i4],λj r hj=> ?_⟩
   cases j with
   |zero=>cases hj;exact⟨hu,hc⟩
   |succ j=>
    obtain⟨r1,r2⟩:=i5 j r hj;refine⟨?_,r2⟩
    rw[ea]at r1;split at r1
    ·rw[jd];exact r1
    ·cases r1
  ·cases h
end
end Go.FG

namespace Go.FG
structure ll where
 box:aA aE
 agg:aU
 cs:az jF
 v:bn
def ll.arg(R:ll):fa:=match R.box with|some _=> .pt (R.cs.map (·.aa))|none=> .v R.agg (R.cs.map (·.aa))
def ll.tk(R:ll):az aE:=R.box.toList++R.cs.flatMap (·.tk)
def ll.fz(R:ll):az aE:=R.cs.flatMap (·.fz)
def z5(rv:ResultVar)(tmps:dt bn):Sem bn:=match rv with| .tmp t=>pure (tmps.getD t undef)| .cell a t=>do loadVar t (<-asAddr (tmps.getD a undef))
section
variable {P:cZ} {E:fT} {σ:St} {a:Act} {w:bM} {c:eZ}
def Cf(T:Tab)(σ:St)(w:bM)(c:eZ)(R:ll):Prop:=
 (∃nm xs vals,R.box=ah nm/\σ (c9 nm)= .o (.box xs)/\R.v= .pointer (ah (ad (c.P nm).blk 0))/\n8 w (c.P nm).blk vals/\vals.size=R.cs.length/\∀(j:aE) (r:jF),R.cs[j]? =ah r->vals[j]? =ah r.u/\jX T σ w c r)\/
 (R.box=aj/\((R.agg=ak/\∃r,R.cs=[r]/\r.u=R.v/\jX T σ w c r)\/(R.agg=ai/\∃vals:dt bn,R.v= .agg vals/\vals.size=R.cs.length/\∀(j:aE) (r:jF),R.cs[j]? =ah r->vals[j]? =ah r.u/\jX T σ w c r)))
theorem Jy(cg:Ok E σ w c){q:aE}{ks:az Ck}{s:SV}{v:bn}{x:fa}{tk fz:az aE}(h:NR E q σ ks s=ah (x,tk,fz))(hs:jm E w c s v):∃R:ll,R.arg=x/\R.tk=tk/\R.fz=fz/\R.v=v/\Cf E σ w c R:=by
 have gen:∀g xs,s= .v g xs->(match tG E q σ 0 ks xs with|some (l,ns,ms)=>ah (fa.v g l,ns,ms)|none=>aj)=ah (x,tk,fz)->∃R:ll,R.arg=x/\R.tk=tk/\R.fz=fz/\R.v=v/\Cf E σ w c R:=by
  rintro g xs rfl h;cases hf:tG E q σ 0 ks xs with
  |none=>rw[hf]at h;cases h
  |some t=>
   obtain⟨l,ns,ms⟩:=t;rw[hf]at h;cases h;obtain⟨cs,rfl,rfl,rfl,h4,h5⟩:=Fv cg hf (qo.cells hs);refine⟨⟨aj,g,cs,v⟩,rfl,by simp[ll.tk],rfl,rfl, .inr ⟨rfl, ?_⟩⟩
   replace hs:qo E w c g xs v:=hs;have xT:∀y,qo E w c ak [y] v->v.cells= #[v]:=λy hy=>Fp (eF.one hy);unfold qo at hs;split at hs
   ·rename_i y;obtain⟨r,rfl⟩:=g6.1 (h4.trans rfl);obtain⟨h6,h7⟩:=h5 0 r rfl;rw[xT y hs]at h6;exact .inl ⟨rfl,r,rfl,by simpa using h6.symm,h7⟩
   ·obtain⟨vals,rfl,gj,_⟩:=hs;exact .inr ⟨rfl,vals,rfl,by rw[gj];exact h4.symm,h5⟩
   ·exact hs.elim
 unfold NR at h;split at h
 ·rename_i nm;cases ho:σ (c9 nm)with
  |v=>rw[ho]at h;cases h
  |j9=>rw[ho]at h;cases h
  |o ob=>
   rw[ho]at h;cases ob with
   |box xs=>
    dsimp only at h;cases hf:tG E q σ 0 [] xs with
    |none=>rw[hf]at h;cases h
    |some t=>obtain⟨l,ns,ms⟩:=t;rw[hf]at h;cases h;obtain⟨vals,hb,gj,hv⟩:=cg.obj nm _ ho;obtain⟨cs,rfl,rfl,rfl,h4,h5⟩:=Fv cg hf ⟨gj,hv⟩;exact⟨⟨ah nm,ak,cs,v⟩,rfl,rfl,rfl,rfl, .inl ⟨nm,xs,vals,rfl,ho,hs,hb,by rw[gj];exact h4.symm,h5⟩⟩
   |_=>cases h
 ·exact gen _ _ rfl h
 ·cases h
theorem Kl(hE:eA P E){t:aE}{ti:TI}(ht:E.ty t=ah ti){b:aE}{vals:dt bn}(hb:n8 w b vals)(hl:vals.size=ti.ks.length):(loadVar t (ad b 0)).run P w= .ok (if ti.agg=ai then .agg vals else vals.toList.headD .nilIface) w:=by
 have h:=Ds (P:=P) w hE ht (b:=b) (o:=0) (cs:=vals.toList) (by simpa using hl) (λj v hj=>by rw[bX,hb.cell];simpa using hj);have e:(yW t (.pointer (ah (ad b 0)))).run P w=(loadVar t (ad b 0)).run P w:=by simp only[yW,uX,cj,cT,bI]
 rw[<-e,h]
theorem Vw(hE:eA P E)(cg:Ok E σ w c)(dI:fy E σ a w c){q:aE}{rv:ResultVar}{t:aE}{x:fa}{tk fz:az aE}(h:Vv E q σ rv t=ah (x,tk,fz)):∃R:ll,R.arg=x/\R.tk=tk/\R.fz=fz/\Cf E σ w c R/\(z5 rv a.tmps).run P w= .ok R.v w:=by
 unfold Vv at h;cases ht:E.ty t with
 |none=>rw[ht]at h;cases h
 |some ti=>
  rw[ht]at h;cases rv with
  |tmp s=>obtain⟨R,h1,h2,h3,h4,h5⟩:=Jy cg h (dI.ok s);exact⟨R,h1,h2,h3,h5,by rw[h4];rfl⟩
  |cell b t'=>
   dsimp only at h;split at h
   ·rename_i Ws nm ht' hs;split at h
    ·rename_i xs ho;cases hb:bF xs.length Ws.ks.length with
     |false=>rw[hb]at h;cases h
     |true=>
      rw[hb]at h;have hlen:=aW hb;have hv:a.eval (.tmp b)= .pointer (ah (ad (c.P nm).blk 0)):=by have:=dI.ok b;rw[hs]at this;exact this
      obtain⟨vals,hbl,gj,hcv⟩:=cg.obj nm _ ho;have TF:=Kl (P:=P) (w:=w) hE ht' hbl (by rw[gj];exact hlen);have at2:jm E w c (.v Ws.agg xs) (if Ws.agg=ai then .agg vals else vals.toList.headD .nilIface):=by
       show qo E w c Ws.agg xs _;cases uH:Ws.agg with
       |true=>rw[bA rfl];exact⟨vals,rfl,gj,hcv⟩
       |false=>
        obtain⟨d,_,_,hn⟩:=hE.desc t' Ws ht';have h1:Ws.ks.length=1:=by rcases hn uH with ⟨k,h,_⟩|⟨h,_⟩|⟨h,_⟩|⟨e',h,_⟩|⟨h,_⟩<;>simp[h]
        obtain⟨y,rfl⟩:=g6.1 (hlen.trans h1);obtain⟨u,hu,ha⟩:=hcv 0 y rfl;have sF:vals.toList[0]? =ah u:=by simpa using hu
        have:vals.toList.headD .nilIface=u:=by
         cases hl:vals.toList with
         |nil=>rw[hl]at sF;cases sF
         |cons z l=>rw[hl]at sF;cases sF;rfl
        rw[bJ (by simp),this];exact ha
      obtain⟨R,h1,h2,h3,h4,h5⟩:=Jy cg h at2;refine⟨R,h1,h2,h3,h5, ?_⟩
      rw[h4,<-TF];have:a.tmps.getD b undef= .pointer (ah (ad (c.P nm).blk 0)):=hv;simp only[z5,this,asAddr,cj,cT,bI]
    ·cases h
   ·cases h
theorem Qt(hE:eA P E)(cg:Ok E σ w c)(dI:fy E σ a w c):∀{rs:az ResultVar} {q:aE} {ts:az aE} {as:az fa} {tk fz:az aE},Dj E σ q rs ts=ah (as,tk,fz)->∃RL:az ll,as=RL.map (·.arg)/\tk=RL.flatMap (·.tk)/\fz=RL.flatMap (·.fz)/\(∀R∈RL,Cf E σ w c R)/\RL.length=rs.length/\(rs.mapM (λrv=>z5 rv a.tmps)).run P w= .ok (RL.map (·.v)) w:=by
 intro rs;induction rs with
 |nil=>intro q ts as tk fz h;cases h;exact⟨[],rfl,rfl,rfl,λR h=>(by cases h),rfl,by simp⟩
 |cons rv rs ih=>
  intro q ts as tk fz h;unfold Dj at h;split at h
  ·rename_i x l m as' ls ms h1 h2;cases h;obtain⟨R,rfl,rfl,rfl,r4,r5⟩:=Vw hE cg dI h1;obtain⟨RL,rfl,rfl,rfl,i4,i5,i6⟩:=ih h2;refine⟨R::RL,rfl,rfl,rfl,λR' hR=> ?_,by simp[i5], ?_⟩
   ·rcases cB.1 hR with rfl|hR
    ·exact r4
    ·exact i4 R' hR
   ·simp only[XA,cj,r5,i6,bI,cT,fw]
  ·cases h
def Dk(vs:az bn):bn:=match vs with|[v]=>v|l=> .tuple l.toArray
theorem Km{fn:Func}{vs:az bn}(h:(fn.results.toList.mapM (λrv=>z5 rv a.tmps)).run P w= .ok vs w):(results fn a.tmps).run P w= .ok (Dk vs) w:=by
 have e:(fn.results.mapM (λrv=>z5 rv a.tmps)).run P w= .ok vs.toArray w:=by rw[Array.mapM_eq_mapM_toList];simp[h]
 have:results fn a.tmps=(do let vs<-fn.results.mapM (λrv=>z5 rv a.tmps);pure (if h:vs.size=1 then vs[0]else .tuple vs)):=rfl;rw[this];simp only[cj,e,bI,cT];match vs with
 |[]=>rfl
 |[v]=>rfl
 |_::_::_=>rfl
end
end Go.FG

namespace Go.FG
structure mY where
 box:aU
 cs:az jF
def mY.l(O:mY):az AA:=O.cs.map (·.aa)
def mY.ns(O:mY)(p:aE):az aE:=(if O.box=ai then [dU p 900]else [])++O.cs.flatMap (·.tk)
def mY.ms(O:mY):az aE:=O.cs.flatMap (·.fz)
section
variable {P:cZ} {E:fT} {σ:St} {a:Act} {w:bM} {c:eZ}
def Kept(σ:St)(p j:aE)(xs:az AA)(r:jF):Prop:=∃e ex z ys,xs[j]? =ah (.ow e ex z)/\r.aa= .kp ys/\r.tk=[dU p j]/\r.fz=[]/\σ (c9 (dU p j))= .o (.row e ex ys)
def IV(T:Tab)(σ:St)(w:bM)(c:eZ)(p:aE)(x:fa)(O:mY):Prop:=
 (O.box=ak/\(∀xs,x≠ .pt xs)/\(O.cs=[]\/∃g xs,x= .v g xs/\∀(j:aE) (r:jF),O.cs[j]? =ah r->Kept σ p j xs r\/(r.aa= .nl/\r.tk=[]/\r.fz=[])))\/
 (O.box=ai/\∃xs vs vals,x= .pt xs/\σ (c9 (dU p 900))= .o (.box vs)/\n8 w (c.P (dU p 900)).blk vals/\vals.size=O.cs.length/\
  ∀(j:aE) (r:jF),O.cs[j]? =ah r->vals[j]? =ah r.u/\((Kept σ p j xs r/\r.u=l_ (c.P (dU p j)))\/jX T σ w c r))
theorem Kq{a b:aU}(h:Kp a b=ai):a=b:=by cases a<;>cases b<;>first|rfl|cases h
theorem ZN(p j i:aE):dU p j+i=dU p (j+i):=by unfold dU;omega
theorem LU{tk:az aE}{p:aE}:∀{xs:az AA} {j:aE},∃cs:az jF,(p8 σ tk (dU p j) xs).1=cs.map (·.aa)/\(p8 σ tk (dU p j) xs).2=cs.flatMap (·.tk)/\cs.flatMap (·.fz)=[]/\
  ∀(i:aE) (r:jF),cs[i]? =ah r->((∃e ex z ys,xs[i]? =ah (.ow e ex z)/\r.aa= .kp ys/\r.tk=[dU p (j+i)]/\r.fz=[]/\σ (c9 (dU p (j+i)))= .o (.row e ex ys))\/(r.aa= .nl/\r.tk=[]/\r.fz=[])):=by
 intro xs;induction xs with
 |nil=>intro j;exact⟨[],rfl,rfl,rfl,λi r h=>by simp at h⟩
 |cons x xs ih=>
  intro j;obtain⟨cs,h1,h2,h3,h4⟩:=ih (j:=j+1);have e1:dU p j+1=dU p (j+1):=ZN p j 1;let pl:Pl:=⟨ai,0,0,0,0,0⟩
  have one:∃r:jF,nG σ tk (dU p j) x=(r.aa,r.tk)/\r.fz=[]/\((∃e ex z ys,x= .ow e ex z/\r.aa= .kp ys/\r.tk=[dU p j]/\r.fz=[]/\σ (c9 (dU p j))= .o (.row e ex ys))\/(r.aa= .nl/\r.tk=[]/\r.fz=[])):=by
   have no:nG σ tk (dU p j) x=(.nl,[])->∃r:jF,nG σ tk (dU p j) x=(r.aa,r.tk)/\r.fz=[]/\((∃e ex z ys,x= .ow e ex z/\r.aa= .kp ys/\r.tk=[dU p j]/\r.fz=[]/\σ (c9 (dU p j))= .o (.row e ex ys))\/(r.aa= .nl/\r.tk=[]/\r.fz=[])):=
    λh=>⟨⟨.nl,[],[],pl,λ_ _=>pl,undef⟩,h,rfl, .inr ⟨rfl,rfl,rfl⟩⟩
   cases x with
   |ow e ex z=>
    cases hm:mS (dU p j) tk with
    |true=>exact no (by simp[nG,hm])
    |false=>
     obtain⟨so,ho⟩:∃so,σ (c9 (dU p j))=so:=⟨_,rfl⟩
     cases so with
     |v=>exact no (by simp[nG,hm,ho])
     |j9=>exact no (by simp[nG,hm,ho])
     |o ob=>
      cases ob with
      |row e' uG ys=>
       cases hb:(bF e e'&&Kp ex uG)with
       |false=>exact no (by simp only[nG,hm,aw,ho,hb])
       |true=>simp only[aM]at hb;have he:=aW hb.1;have hx:=Kq hb.2;subst he;subst hx;exact⟨⟨.kp ys,[dU p j],[],pl,λ_ _=>pl,undef⟩,by simp[nG,hm,ho,hb.2],rfl, .inl ⟨e,ex,z,ys,rfl,rfl,rfl,rfl,ho⟩⟩
      |_=>exact no (by simp[nG,hm,ho])
   |_=>exact no rfl
  obtain⟨r,k1,k2,k3⟩:=one;refine⟨r::cs, ?_, ?_,by simp[k2,h3],λi r' hi=> ?_⟩
  ·show(nG σ tk (dU p j) x).1::(p8 σ tk (dU p j+1) xs).1=_;rw[k1,e1,h1];rfl
  ·show(nG σ tk (dU p j) x).2++(p8 σ tk (dU p j+1) xs).2=_;rw[k1,e1,h2];rfl
  ·cases i with
   |zero=>
    cases hi;rcases k3 with ⟨e,ex,z,ys,q1,q2⟩|q
    ·exact .inl ⟨e,ex,z,ys,by rw[q1];rfl,q2⟩
    ·exact .inr q
   |succ i=>have:=h4 i r' hi;rw[show j+1+i=j+(i+1)by omega]at this;exact this
theorem Pq(cg:Ok E σ w c){q:aE}:∀{xs:az AV} {j:aE} {bs l:az AA} {tk fz:az aE} {vals:dt bn},Hi E q σ j bs xs=ah (l,tk,fz)->f_ E w c vals xs->
  ∃cs:az jF,l=cs.map (·.aa)/\tk=cs.flatMap (·.tk)/\fz=cs.flatMap (·.fz)/\cs.length=xs.length/\∀(i:aE) (r:jF),cs[i]? =ah r->vals[i]? =ah r.u/\
   (((∃e ex z ys,bs[i]? =ah (.ow e ex z)/\r.aa= .kp ys/\r.tk=[dU q (j+i)]/\r.fz=[]/\σ (c9 (dU q (j+i)))= .o (.row e ex ys))/\r.u=l_ (c.P (dU q (j+i))))\/jX E σ w c r):=by
 intro xs;induction xs with
 |nil=>intro j bs l tk fz vals h _;cases h;exact⟨[],rfl,rfl,rfl,rfl,λi r h=>by simp at h⟩
 |cons x xs ih=>
  intro j bs l tk fz vals h hv;unfold Hi at h;split at h
  ·rename_i aa t f as ts fs h1 h2;cases h;obtain⟨u,hu,ha⟩:=hv.2 0 x rfl;have N1:f_ E w c (vals.extract 1 vals.size) xs:=by
    refine⟨by simp;have:=hv.1;simp at this;omega,λi b hj=> ?_⟩
    obtain⟨u,hu,hb⟩:=hv.2 (i+1) b hj;refine⟨u, ?_,hb⟩
    have:=(dV.1 hu).1;rw[ea,bA (by omega),jd];exact hu
   obtain⟨cs,rfl,rfl,rfl,i4,i5⟩:=ih h2 N1;have one:∃p g,((∃e ex z ys,bs[0]? =ah (.ow e ex z)/\aa= .kp ys/\t=[dU q j]/\f=[]/\σ (c9 (dU q j))= .o (.row e ex ys))/\u=l_ (c.P (dU q j)))\/jX E σ w c ⟨aa,t,f,p,g,u⟩:=by
    have other:∀{om k},Ax E om σ k x=ah (aa,t,f)->∃p g,((∃e ex z ys,bs[0]? =ah (.ow e ex z)/\aa= .kp ys/\t=[dU q j]/\f=[]/\σ (c9 (dU q j))= .o (.row e ex ys))/\u=l_ (c.P (dU q j)))\/jX E σ w c ⟨aa,t,f,p,g,u⟩:=λhh=>by obtain⟨p,g,hc⟩:=Jx cg hh ha;exact⟨p,g, .inr hc⟩
    unfold abt at h1;split at h1
    ·rename_i e ex z n _ hb;cases hn:bF n (dU q j)with
     |false=>rw[hn]at h1;exact other (k:= .o) h1
     |true=>
      rw[hn]at h1;have:=aW hn;subst this;obtain⟨so,ho⟩:∃so,σ (c9 (dU q j))=so:=⟨_,rfl⟩
      cases so with
      |v=>simp[ho]at h1
      |j9=>simp[ho]at h1
      |o ob=>
       cases ob with
       |row e' uG ys=>
        simp only[ho,au]at h1;cases FE:(bF e e'&&Kp ex uG)with
        |false=>rw[FE]at h1;cases h1
        |true=>
         rw[FE]at h1;cases h1;simp only[aM]at FE;have he:=aW FE.1;have hx:=Kq FE.2;subst he;subst hx;refine⟨⟨ai,0,0,0,0,0⟩,λ_ _=>⟨ai,0,0,0,0,0⟩, .inl ⟨⟨e,ex,z,ys, ?_,rfl,rfl,rfl,ho⟩,ha⟩⟩
         cases bs with
         |nil=>cases hb
         |cons b bs=>rw[show b=_ from hb];rfl
       |_=>simp[ho]at h1
    ·exact other (k:= .o) h1
   obtain⟨p,g,hc⟩:=one;refine⟨⟨aa,t,f,p,g,u⟩::cs,rfl,rfl,rfl,by simp[i4],λi r hi=> ?_⟩
   cases i with
   |zero=>cases hi;exact⟨hu,hc⟩
   |succ i=>
    obtain⟨r1,r2⟩:=i5 i r hi;refine⟨?_, ?_⟩
    ·rw[ea]at r1;split at r1
     ·rw[jd];exact r1
     ·cases r1
    ·rw[show j+1+i=j+(i+1)by omega]at r2;have e1:bs.tail[i]? =bs[i+1]? :=by cases bs<;>simp
     rw[e1]at r2;exact r2
  ·cases h
end
end Go.FG

namespace Go.FG
section
variable {P:cZ} {E:fT} {σ:St} {a:Act} {w:bM} {c:eZ}
theorem Qk(cg:Ok E σ w c){tk:az aE}:∀{args:az fa} {p:aE} {l:az (az AA)} {ns ms:az aE},Dc E σ tk p args=ah (l,ns,ms)->
  ∃OL:az mY,l=OL.map (·.l)/\OL.length=args.length/\ns=(OL.zipIdx p).flatMap (λt=>t.1.ns t.2)/\ms=OL.flatMap (·.ms)/\∀(i:aE) (O:mY) (x:fa),OL[i]? =ah O->args[i]? =ah x->IV E σ w c (p+i) x O:=by
 intro args;induction args with
 |nil=>intro p l ns ms h;cases h;exact⟨[],rfl,rfl,rfl,rfl,λi O x h=>by simp at h⟩
 |cons x args ih=>
  intro p l ns ms h;unfold Dc at h;split at h
  ·cases h
  ·rename_i l' ns' ms' h1;obtain⟨OL,rfl,i2,rfl,rfl,i5⟩:=ih h1;have put:∀O:mY,IV E σ w c p x O->l=O.l::OL.map (·.l)->ns=O.ns p++(OL.zipIdx (p+1)).flatMap (λt=>t.1.ns t.2)->ms=O.ms++OL.flatMap (·.ms)->∃OL:az mY,l=OL.map (·.l)/\OL.length=(x::args).length/\ns=(OL.zipIdx p).flatMap (λt=>t.1.ns t.2)/\ms=OL.flatMap (·.ms)/\∀(i:aE) (O:mY) (y:fa),OL[i]? =ah O->(x::args)[i]? =ah y->IV E σ w c (p+i) y O:=by
    intro O hO h1 h2 h3;refine⟨O::OL,h1,by simp[i2],by rw[h2,List.zipIdx_cons,yX],h3,λi O' y hi hy=> ?_⟩
    cases i with
    |zero=>cases hi;cases hy;exact hO
    |succ i=>have:=i5 i O' y hi hy;rwa[show p+1+i=p+(i+1)by omega]at this
   cases x with
   |v g xs=>
    dsimp only at h;cases hh:Tw xs with
    |false=>rw[hh]at h;cases h;exact put ⟨ak,[]⟩ (.inl ⟨rfl,(λ_ h=>by cases h), .inl rfl⟩) rfl rfl rfl
    |true=>rw[hh]at h;cases h;obtain⟨cs,k1,k2,k3,k4⟩:=LU (σ:=σ) (tk:=tk) (p:=p) (xs:=xs) (j:=0);refine put ⟨ak,cs⟩ (.inl ⟨rfl,(λ_ h=>by cases h), .inr ⟨g,xs,rfl,λj r hj=> ?_⟩⟩) (by rw[k1];rfl) (by rw[k2];rfl) (by simp[mY.ms,k3]);have:=k4 j r hj;rw[bX]at this;exact this
   |pt xs=>
    dsimp only at h;split at h
    ·rename_i vs ho;split at h
     ·rename_i as ns2 ms2 hb;cases h;obtain⟨vals,hbl,gj,hv⟩:=cg.obj _ _ ho;obtain⟨cs,rfl,rfl,rfl,k4,k5⟩:=Pq cg hb ⟨gj,hv⟩;refine put ⟨ai,cs⟩ (.inr ⟨rfl,xs,vs,vals,rfl,ho,hbl,by rw[gj];exact k4.symm,λj r hj=> ?_⟩) rfl (by simp[mY.ns]) rfl;obtain⟨r1,r2⟩:=k5 j r hj;rw[bX]at r2;exact⟨r1,r2⟩
     ·cases h
    ·cases h
   |fb xs=>cases h;exact put ⟨ak,[]⟩ (.inl ⟨rfl,(λ_ h=>by cases h), .inl rfl⟩) rfl rfl rfl
theorem Au:∀{l:az (az AA)} {p:aE},(uF l).getD p []=l.getD p []:=by
 intro l;induction l with
 |nil=>intro p;rfl
 |cons x l ih=>
  intro p;unfold uF;split
  ·rename_i h;cases p with
   |zero=>rfl
   |succ p=>rw[vQ,<-ih,h];rfl
  ·rename_i x' r' _;cases p with
   |zero=>rfl
   |succ p=>rw[vQ,vQ,ih]
end
end Go.FG

namespace Go.FG
structure Sp where
 res:aU
 i:aE
 j:aA aE
def pF(RL:az ll)(OL:az mY)(s:Sp):az aE:=
 match s.res,s.j with
 |true,aj=>match RL[s.i]? with|some R=>R.box.toList|none=>[]
 |true,ah j=>match RL[s.i]? with|some R=>(match R.cs[j]? with|some r=>r.tk|none=>[])|none=>[]
 |false,aj=>match OL[s.i]? with|some O=>(if O.box=ai then [dU s.i 900]else [])|none=>[]
 |false,ah j=>match OL[s.i]? with|some O=>(match O.cs[j]? with|some r=>r.tk|none=>[])|none=>[]
theorem nJ{α:Type}{l:az α}{i:aE}{x:α}{p:aE}(h:l[i]? =ah x):(l.zipIdx p)[i]? =ah (x,p+i):=by rw[List.getElem?_zipIdx,h];rfl
theorem aaq{RL:az ll}{OL:az mY}(hn:(RL.flatMap (·.tk)++(OL.zipIdx 0).flatMap (λt=>t.1.ns t.2)).Nodup){s s':Sp}{n:aE}(h:n∈pF RL OL s)(h':n∈pF RL OL s'):s=s':=by
 obtain⟨n1,n2,n3⟩:=eM.1 hn;obtain⟨a1,a2⟩:=mc n1;obtain⟨b1,b2⟩:=mc n2;have R1:∀{i:aE} {j:aA aE},n∈pF RL OL ⟨ai,i,j⟩->∃R,RL[i]? =ah R/\n∈R.tk/\((j=aj/\n∈R.box.toList)\/∃q r,j=ah q/\R.cs[q]? =ah r/\n∈r.tk):=by
  intro i j h;cases j with
  |none=>
   unfold pF at h;dsimp only at h;cases hR:RL[i]? with
   |none=>rw[hR]at h;cases h
   |some R=>rw[hR]at h;exact⟨R,rfl,bN _ h, .inl ⟨rfl,h⟩⟩
  |some q=>
   unfold pF at h;dsimp only at h;cases hR:RL[i]? with
   |none=>rw[hR]at h;cases h
   |some R=>
    rw[hR]at h;dsimp only at h;cases hr:R.cs[q]? with
    |none=>rw[hr]at h;cases h
    |some r=>rw[hr]at h;exact⟨R,rfl,bO _ (bQ.2 ⟨r,aR hr,h⟩), .inr ⟨q,r,rfl,hr,h⟩⟩
 have O1:∀{i:aE} {j:aA aE},n∈pF RL OL ⟨ak,i,j⟩->∃O,OL[i]? =ah O/\n∈O.ns i/\((j=aj/\n∈(if O.box=ai then [dU i 900]else []))\/∃q r,j=ah q/\O.cs[q]? =ah r/\n∈r.tk):=by
  intro i j h;cases j with
  |none=>
   unfold pF at h;dsimp only at h;cases hR:OL[i]? with
   |none=>rw[hR]at h;cases h
   |some R=>rw[hR]at h;exact⟨R,rfl,bN _ h, .inl ⟨rfl,h⟩⟩
  |some q=>
   unfold pF at h;dsimp only at h;cases hR:OL[i]? with
   |none=>rw[hR]at h;cases h
   |some R=>
    rw[hR]at h;dsimp only at h;cases hr:R.cs[q]? with
    |none=>rw[hr]at h;cases h
    |some r=>rw[hr]at h;exact⟨R,rfl,bO _ (bQ.2 ⟨r,aR hr,h⟩), .inr ⟨q,r,rfl,hr,h⟩⟩
 have inn:∀{A:az aE} {cs:az jF} {j j':aA aE},(A++cs.flatMap (·.tk)).Nodup->((j=aj/\n∈A)\/∃q r,j=ah q/\cs[q]? =ah r/\n∈r.tk)->((j'=aj/\n∈A)\/∃q r,j'=ah q/\cs[q]? =ah r/\n∈r.tk)->j=j':=by
  intro A cs j j' JL k k';obtain⟨m1,m2,m3⟩:=eM.1 JL;have inC:∀{q:aE} {r:jF},cs[q]? =ah r->n∈r.tk->n∈cs.flatMap (·.tk):=λhq hr=>bQ.2 ⟨_,aR hq,hr⟩;rcases k with ⟨rfl,k⟩|⟨q,r,rfl,k1,k2⟩<;>rcases k' with ⟨rfl,k'⟩|⟨q',r',rfl,k1',k2'⟩
  ·rfl
  ·exact cL rfl (m3 n k n (inC k1' k2'))
  ·exact cL rfl (m3 n k' n (inC k1 k2))
  ·rw[(mc m2).1 q q' r r' n k1 k1' k2 k2']
 obtain⟨b,i,j⟩:=s;obtain⟨b',i',j'⟩:=s';cases b<;>cases b'
 ·obtain⟨O,h1,h2,h3⟩:=O1 h;obtain⟨O',LA,PJ,NW⟩:=O1 h';have:=b1 i i' _ _ n (nJ (p:=0) h1) (nJ (p:=0) LA) (by rw[bX];exact h2) (by rw[bX];exact PJ);subst this;rw[h1]at LA;cases LA;have:=b2 _ (aR (nJ (p:=0) h1));rw[bX]at this;rw[inn this h3 NW]
 ·obtain⟨O,h1,h2,h3⟩:=O1 h;obtain⟨R,LA,PJ,_⟩:=R1 h';exact cL rfl (n3 n (bQ.2 ⟨R,aR LA,PJ⟩) n (bQ.2 ⟨_,aR (nJ (p:=0) h1),by rw[bX];exact h2⟩))
 ·obtain⟨R,h1,h2,_⟩:=R1 h;obtain⟨O,LA,PJ,_⟩:=O1 h';exact cL rfl (n3 n (bQ.2 ⟨R,aR h1,h2⟩) n (bQ.2 ⟨_,aR (nJ (p:=0) LA),by rw[bX];exact PJ⟩))
 ·obtain⟨R,h1,h2,h3⟩:=R1 h;obtain⟨R',LA,PJ,NW⟩:=R1 h';have:=a1 i i' _ _ n h1 LA h2 PJ;subst this;rw[h1]at LA;cases LA;have:=a2 _ (aR h1);rw[inn this h3 NW]
end Go.FG

namespace Go.FG
def Nx(c:eZ)(RL:az ll)(OL:az mY)(m:aE):aA (Pl×(aE->aE->Pl)):=
 if m<900000000 then aj
 else if 500<=(m-900000000)/1000 then(match RL[(m-900000000)/1000-500]? with
  |none=>aj
  |some R=>if(m-900000000)%1000=900 then R.box.map (λn=>(c.P n,c.G n))else(R.cs[(m-900000000)%1000]?).map λr=>(r.p,r.g))
 else if 100<=(m-900000000)%1000/\(m-900000000)%1000≠900 then(match OL[(m-900000000)/1000]? with
  |none=>aj
  |some O=>(O.cs[(m-900000000)%1000-100]?).map λr=>(r.p,r.g))
 else aj
def nF(σ:St)(c:eZ)(RL:az ll)(OL:az mY):eZ:=
 ⟨λm=>match Nx c RL OL m with|some pg=>pg.1|none=>c.P m,λm=>match Nx c RL OL m with|some pg=>pg.2|none=>c.G m,K1r σ c (RL.flatMap (·.fz)++OL.flatMap (·.ms))⟩
theorem BB{σ:St}{c:eZ}{RL:az ll}{OL:az mY}{m:aE}{p:Pl}{g:aE->aE->Pl}(h:Nx c RL OL m=ah (p,g)):(nF σ c RL OL).P m=p/\(nF σ c RL OL).G m=g:=by unfold nF;simp only[h];exact⟨trivial,trivial⟩
theorem BA{σ:St}{c:eZ}{RL:az ll}{OL:az mY}{m:aE}(h:Nx c RL OL m=aj):(nF σ c RL OL).P m=c.P m/\(nF σ c RL OL).G m=c.G m:=by unfold nF;simp only[h];exact⟨trivial,trivial⟩
section
variable {c:eZ} {RL:az ll} {OL:az mY}
theorem SY{q n:aE}{R:ll}(h:RL[q]? =ah R)(hb:R.box=ah n):Nx c RL OL (dU (500+q) 900)=ah (c.P n,c.G n):=by obtain⟨h1,h2⟩:=uL (p:=500+q) (j:=900) (by omega);have h0:=C4 (500+q) 900;unfold Nx;rw[bJ (by omega),h1,h2,bA (by omega),show 500+q-500=q by omega,h];simp[hb]
theorem Hg{q j:aE}{R:ll}{r:jF}(h:RL[q]? =ah R)(hj:R.cs[j]? =ah r)(hl:j<900):Nx c RL OL (dU (500+q) j)=ah (r.p,r.g):=by obtain⟨h1,h2⟩:=uL (p:=500+q) (j:=j) (by omega);have h0:=C4 (500+q) j;unfold Nx;rw[bJ (by omega),h1,h2,bA (by omega),show 500+q-500=q by omega,h];dsimp only;rw[bJ (by omega),hj];rfl
theorem Bx{p j:aE}(hp:p<500)(hl:j<100\/j=900):Nx c RL OL (dU p j)=none:=by obtain⟨h1,h2⟩:=uL (p:=p) (j:=j) (by omega);have h0:=C4 p j;unfold Nx;rw[bJ (by omega),h1,h2,bJ (by omega),bJ (by omega)]
theorem Ny{p j:aE}{O:mY}{r:jF}(hp:p<500)(h:OL[p]? =ah O)(hj:O.cs[j]? =ah r)(hl:j<=100):Nx c RL OL (dU p (100+j))=ah (r.p,r.g):=by obtain⟨h1,h2⟩:=uL (p:=p) (j:=100+j) (by omega);have h0:=C4 p (100+j);unfold Nx;rw[bJ (by omega),h1,h2,bJ (by omega),bA (by omega),h];dsimp only;rw[show 100+j-100=j by omega,hj];rfl
end
end Go.FG

namespace Go.FG
def ak3(OL:az mY)(s:Sp):aE:=
 match s.res,s.j with
 |true,aj=>dU (500+s.i) 900
 |true,ah j=>dU (500+s.i) j
 |false,aj=>dU s.i 900
 |false,ah j=>match OL[s.i]? with|some O=>(match O.cs[j]? with|some r=>(match r.aa with| .kp _=>dU s.i j|_=>dU s.i (100+j))|none=>0)|none=>0
section
variable {P:cZ} {E:fT} {σ:St} {a:Act} {w:bM} {c:eZ} {RL:az ll} {OL:az mY}
theorem BD{r:jF}(h:jX E σ w c r)(hf:∀n∈r.fz,n∈RL.flatMap (·.fz)++OL.flatMap (·.ms)){x:aE}(hx:Nx c RL OL x=ah (r.p,r.g)):eF E w (nF σ c RL OL) (lJ x r.aa) r.u:=by
 rcases h with ⟨e,ex,ys,te,h1,h2,h3,h4,_⟩|⟨h1,h2,h3,h4,h5⟩
 ·rw[h1];show r.u=l_ ((nF σ c RL OL).P x);rw[(BB hx).1];exact h4
 ·exact h5 _ (λb hb=>hb.imp id (λ⟨n,hn,hh⟩=>⟨n,hf n hn,hh⟩)) x
theorem Jh{r:jF}(h:jX E σ w c r){e:aE}{ex:aU}{ys:aQ}(ha:r.aa= .ow e ex ys){x:aE}(hx:Nx c RL OL x=ah (r.p,r.g)):
  pU E w (nF σ c RL OL) x (.row e ex ys)/\∀b,fL (nF σ c RL OL) x (.row e ex ys) b->∃n ob,n∈r.tk/\σ (c9 n)= .o ob/\fL c n ob b:=by
 obtain⟨e1,e2⟩:=BB (σ:=σ) hx;rcases h with ⟨e',uG,DT,te,h1,h2,h3,h4,h5,h6,h7,h8,h9,Q7⟩|⟨_,_,h3,_⟩
 ·rw[ha]at h1;cases h1;refine⟨⟨⟨te,h3,by rw[e1];exact h5,h6⟩, ?_,λpL=>by rw[e1,e2];exact h8 pL⟩,λb hb=> ?_⟩
  ·rw[e1,e2];refine h7.frame (λ_=>rfl) (λi j y xx u hy W9 hr=> ?_);split at hr
   ·rename_i pL;rw[bA pL];exact hr
   ·rename_i pL;rw[bJ pL];exact hr.frame (λ_ _=>rfl) (λb hb=> .inl hb)
  ·rcases hb with ⟨hn,rfl⟩|⟨pL,i,j,hh,hn,rfl⟩
   ·rw[e1]at hn⊢;exact h9 hn
   ·rw[e2]at hn⊢;exact Q7 pL i j hh hn
 ·exact cL ha (h3 _ _ _)
structure EM (T:Tab) (σ:St) (w:bM) (c:eZ) (RL:az ll) (OL:az mY) (args:az fa) (r:dq):Prop where
 rl:∀R∈RL,Cf T σ w c R
 ol:∀(i:aE) (O:mY) (x:fa),OL[i]? =ah O->args[i]? =ah x->IV T σ w c i x O
 len:OL.length=args.length
 nd:(RL.flatMap (·.tk)++(OL.zipIdx 0).flatMap (λt=>t.1.ns t.2)).Nodup
 ap:∀n∈RL.flatMap (·.tk)++(OL.zipIdx 0).flatMap (λt=>t.1.ns t.2),n∉RL.flatMap (·.fz)++OL.flatMap (·.ms)
 sm:Small args r
 rs:r.rs=RL.map (·.arg)
 outs:∀p,r.outs.getD p []=(OL.map (·.l)).getD p []
theorem SU{R:ll}{xs:az AA}(h:MP R.arg xs):xs=R.cs.map (·.aa):=by
 unfold ll.arg at h;split at h
 ·rcases h with ⟨g,h⟩|h<;>cases h;rfl
 ·rcases h with ⟨g,h⟩|h<;>cases h;rfl
theorem xI(cg:Ok E σ w c){args:az fa}{r:dq}(hE:EM E σ w c RL OL args r){x:aE}{ob:Obj}(h:B1 args r x (.o ob)):
  pU E w (nF σ c RL OL) x ob/\∃s,x=ak3 OL s/\∀b,fL (nF σ c RL OL) x ob b->∃n o,n∈pF RL OL s/\σ (c9 n)= .o o/\fL c n o b:=by
 have amX:∀{q:aE} {y:fa},r.rs[q]? =ah y->∃R,RL[q]? =ah R/\y=R.arg:=by
  intro q y hq;rw[hE.rs,bL]at hq;cases hR:RL[q]? with
  |none=>rw[hR]at hq;cases hq
  |some R=>rw[hR]at hq;cases hq;exact⟨R,rfl,rfl⟩
 have fzR:∀{q:aE} {R:ll} {j:aE} {t:jF},RL[q]? =ah R->R.cs[j]? =ah t->∀n∈t.fz,n∈RL.flatMap (·.fz)++OL.flatMap (·.ms):=λhR hj n hn=>bN _ (bQ.2 ⟨_,aR hR,bQ.2 ⟨_,aR hj,hn⟩⟩);have fzO:∀{q:aE} {O:mY} {j:aE} {t:jF},OL[q]? =ah O->O.cs[j]? =ah t->∀n∈t.fz,n∈RL.flatMap (·.fz)++OL.flatMap (·.ms):=λhR hj n hn=>bO _ (bQ.2 ⟨_,aR hR,bQ.2 ⟨_,aR hj,hn⟩⟩);have ag9:∀{p:aE} {y:fa},args[p]? =ah y->∃O,OL[p]? =ah O/\IV E σ w c p y O/\r.outs.getD p []=O.cs.map (·.aa):=by
  intro p y hp;have s8:p<OL.length:=by rw[hE.len];exact(aT.1 hp).1
  have hO:OL[p]? =ah OL[p]:=by simp[s8]
  refine⟨OL[p],hO,hE.ol p _ y hO hp, ?_⟩
  rw[hE.outs,cY,bL,hO];rfl
 have csJ:∀{cs:az jF} {j:aE} {y:AA},(cs.map (·.aa))[j]? =ah y->∃t,cs[j]? =ah t/\t.aa=y:=by
  intro cs j y hj;rw[bL]at hj;cases ht:cs[j]? with
  |none=>rw[ht]at hj;cases hj
  |some t=>rw[ht]at hj;cases hj;exact⟨t,rfl,rfl⟩
 have hnm:∀p j,dU p 0+j=dU p j:=λp j=>by unfold dU;omega
 cases h with
 |rb q xs h0=>
  obtain⟨R,hR,hy⟩:=amX h0;rcases hE.rl R (aR hR)with ⟨nm,zs,vals,h1,h2,h3,h4,h5,h6⟩|⟨h1,_⟩
  ·have hxs:=SU (R:=R) (xs:=xs) (.inr hy.symm);obtain⟨e1,e2⟩:=BB (σ:=σ) (SY (c:=c) (OL:=OL) hR h1);refine⟨⟨vals,by rw[e1];exact h4,by rw[iT,hxs,bV];exact h5,λj y hj=> ?_⟩,⟨ai,q,aj⟩,rfl,λb hb=>⟨nm,_, ?_,h2, ?_⟩⟩
   ·rw[iD,hxs]at hj;cases hx:(R.cs.map (·.aa))[j]? with
    |none=>rw[hx]at hj;cases hj
    |some z=>
     rw[hx]at hj;cases hj;obtain⟨t,ht,rfl⟩:=csJ hx;obtain⟨k1,k2⟩:=h6 j t ht;have j8:j<900:=by have:=hE.sm.rl q _ xs h0 (.inr rfl);have h7:=(aT.1 ht).1;rw[hxs,bV]at this;omega
     rw[hnm];exact⟨t.u,k1,BD k2 (fzR hR ht) (Hg hR ht j8)⟩
   ·show nm∈(match RL[q]? with|some R=>R.box.toList|none=>[]);rw[hR];dsimp only;rw[h1];exact a_.2 rfl
   ·rw[show b=_ from hb,e1];rfl
  ·unfold ll.arg at hy;rw[h1]at hy;cases hy
 |rr q y xs j e ex ys h0 hx hj=>
  obtain⟨R,hR,rfl⟩:=amX h0;have hxs:=SU hx;rw[hxs]at hj;obtain⟨t,ht,JP⟩:=csJ hj;have j8:j<900:=by have:=hE.sm.rl q _ xs h0 hx;have h7:=(aT.1 ht).1;rw[hxs,bV]at this;omega
  have hc:jX E σ w c t:=by
   rcases hE.rl R (aR hR)with ⟨nm,zs,vals,_,_,_,_,_,h6⟩|⟨_,⟨_,t',h1,_,h2⟩|⟨_,vals,_,_,h6⟩⟩
   ·exact(h6 j t ht).2
   ·rw[h1]at ht;cases j with
    |zero=>cases ht;exact h2
    |succ j=>simp at ht
   ·exact(h6 j t ht).2
  obtain⟨k1,k2⟩:=Jh (RL:=RL) (OL:=OL) hc JP (Hg hR ht j8);refine⟨k1,⟨ai,q,ah j⟩,rfl,λb hb=> ?_⟩
  obtain⟨n,o,h1,h2⟩:=k2 b hb;refine⟨n,o, ?_,h2⟩
  show n∈(match RL[q]? with|some R=>(match R.cs[j]? with|some r=>r.tk|none=>[])|none=>[]);rw[hR];dsimp only;rw[ht];exact h1
 |ob p xs h0=>
  obtain⟨O,hO,hoo,hl⟩:=ag9 h0;have hp:=hE.sm.a p _ xs h0 (.inr rfl);rcases hoo with ⟨_,h1,_⟩|⟨h1,MG,vs,vals,Yr,h2,h3,h4,h5⟩
  ·exact cL rfl (h1 xs)
  ·cases Yr;obtain⟨e1,e2⟩:=BA (σ:=σ) (Bx (c:=c) (RL:=RL) (OL:=OL) hp (.inr rfl));have ajR:O.cs.length<=100:=by have:=hE.sm.o p;rw[hl,bV]at this;exact this
   rw[hl];refine⟨⟨vals,by rw[e1];exact h3,by rw[vB,bV];exact h4,λj y hj=> ?_⟩,⟨ak,p,aj⟩,rfl,λb hb=>⟨dU p 900,_, ?_,h2, ?_⟩⟩
   ·rw[wv,bX]at hj;cases hx:(O.cs.map (·.aa))[j]? with
    |none=>rw[hx]at hj;cases hj
    |some z=>
     rw[hx]at hj;cases hj;obtain⟨t,ht,rfl⟩:=csJ hx;obtain⟨k1,k2⟩:=h5 j t ht;have j8:=(aT.1 ht).1;refine⟨t.u,k1, ?_⟩
     rcases k2 with ⟨⟨e,ex,z,ys,_,q2,_⟩,q6⟩|k2
     ·rw[q2];show t.u=l_ ((nF σ c RL OL).P (dU p j));rw[(BA (Bx hp (.inl (by omega)))).1];exact q6
     ·have hk:∀ys,t.aa≠ .kp ys:=by
       rcases k2 with ⟨_,_,_,_,q,_⟩|⟨_,_,_,q,_⟩
       ·intro ys hh;rw[q]at hh;cases hh
       ·exact q
      have:tX p j t.aa=lJ (dU p (100+j)) t.aa:=by cases hq:t.aa<;>first|rfl|exact cL hq (hk _)
      rw[this];exact BD k2 (fzO hO ht) (Ny hp hO ht (by omega))
   ·show dU p 900∈(match OL[p]? with|some O=>(if O.box=ai then [dU p 900]else [])|none=>[]);rw[hO];dsimp only;rw[bA h1];exact a_.2 rfl
   ·rw[show b=_ from hb,e1];rfl
 |kp p y xs j e ex z ys h0 hx h2 h3=>
  obtain⟨O,hO,hoo,hl⟩:=ag9 h0;have hp:=hE.sm.a p _ xs h0 hx;rw[hl]at h3;obtain⟨t,ht,JP⟩:=csJ h3;have ajR:O.cs.length<=100:=by have:=hE.sm.o p;rw[hl,bV]at this;exact this
  have j8:=(aT.1 ht).1;have akb:Kept σ p j xs t:=by
   rcases hoo with ⟨_,_,h1|⟨g,MG,Yr,h1⟩⟩|⟨_,MG,vs,vals,Yr,_,_,_,h5⟩
   ·rw[h1]at ht;simp at ht
   ·have:MG=xs:=by rw[Yr]at hx;rcases hx with ⟨g',hx⟩|hx<;>cases hx;rfl
    subst this;rcases h1 j t ht with h|⟨h,_⟩
    ·exact h
    ·rw[JP]at h;cases h
   ·have:MG=xs:=by rw[Yr]at hx;rcases hx with ⟨g',hx⟩|hx<;>cases hx;rfl
    subst this;rcases(h5 j t ht).2 with ⟨h,_⟩|h
    ·exact h
    ·rcases h with ⟨_,_,_,_,q,_⟩|⟨_,_,_,q,_⟩
     ·rw[JP]at q;cases q
     ·exact cL JP (q _)
  obtain⟨e',uG,z',DT,q1,q2,q3,q4,q5⟩:=akb;rw[h2]at q1;cases q1;rw[JP]at q2;cases q2;obtain⟨e1,e2⟩:=BA (σ:=σ) (Bx (c:=c) (RL:=RL) (OL:=OL) (p:=p) (j:=j) hp (.inl (by omega)));obtain⟨⟨te,r1,r2,r3⟩,r4,r5⟩:=cg.obj _ _ q5;refine⟨⟨⟨te,r1,by rw[e1];exact r2,r3⟩, ?_,λpL=>by rw[e1,e2];exact r5 pL⟩,⟨ak,p,ah j⟩, ?_,λb hb=>⟨dU p j,_, ?_,q5, ?_⟩⟩
  ·rw[e1,e2];refine r4.frame (λ_=>rfl) (λi j y xx u hy W9 hr=> ?_);split at hr
   ·rename_i pL;rw[bA pL];exact hr
   ·rename_i pL;rw[bJ pL];exact hr.frame (λ_ _=>rfl) (λb hb=> .inl hb)
  ·show dU p j=(match OL[p]? with|some O=>(match O.cs[j]? with|some r=>(match r.aa with| .kp _=>dU p j|_=>dU p (100+j))|none=>0)|none=>0)
   rw[hO];dsimp only;rw[ht];dsimp only;rw[JP]
  ·show dU p j∈(match OL[p]? with|some O=>(match O.cs[j]? with|some r=>r.tk|none=>[])|none=>[]);rw[hO];dsimp only;rw[ht];dsimp only;rw[q3];exact a_.2 rfl
  ·rw[mA (c:=c) (c':=nF σ c RL OL) ⟨e1,e2⟩]at hb;exact hb
 |nw p y xs j e ex ys h0 hx h3=>
  obtain⟨O,hO,hoo,hl⟩:=ag9 h0;have hp:=hE.sm.a p _ xs h0 hx;rw[hl]at h3;obtain⟨t,ht,JP⟩:=csJ h3;have ajR:O.cs.length<=100:=by have:=hE.sm.o p;rw[hl,bV]at this;exact this
  have j8:=(aT.1 ht).1;have hc:jX E σ w c t:=by
   rcases hoo with ⟨_,_,h1|⟨g,MG,Yr,h1⟩⟩|⟨_,MG,vs,vals,Yr,_,_,_,h5⟩
   ·rw[h1]at ht;simp at ht
   ·rcases h1 j t ht with ⟨_,_,_,_,_,h,_⟩|⟨h,_⟩<;>(rw[JP]at h;cases h)
   ·rcases(h5 j t ht).2 with ⟨⟨_,_,_,_,_,h,_⟩,_⟩|h
    ·rw[JP]at h;cases h
    ·exact h
  obtain⟨k1,k2⟩:=Jh (RL:=RL) (OL:=OL) hc JP (Ny hp hO ht (by omega));refine⟨k1,⟨ak,p,ah j⟩, ?_,λb hb=> ?_⟩
  ·show dU p (100+j)=(match OL[p]? with|some O=>(match O.cs[j]? with|some r=>(match r.aa with| .kp _=>dU p j|_=>dU p (100+j))|none=>0)|none=>0)
   rw[hO];dsimp only;rw[ht];dsimp only;rw[JP]
  ·obtain⟨n,o,h1,h2⟩:=k2 b hb;refine⟨n,o, ?_,h2⟩
   show n∈(match OL[p]? with|some O=>(match O.cs[j]? with|some r=>r.tk|none=>[])|none=>[]);rw[hO];dsimp only;rw[ht];exact h1
end
end Go.FG

namespace Go.FG
theorem we{args:az fa}{r:dq}{m:aE}{o:Obj}(h:B1 args r m (.o o)):oA args r (c9 m)≠ .j9:=by
 refine si (xK.2 h) ?_;rintro ⟨k,d⟩ hd;rcases bf.1 hd with hd|hd
 ·obtain⟨i,a,_,hd⟩:=J0.1 hd;rcases iA.1 hd with ⟨_,_,_,h⟩|⟨_,_,_,_,_,_,_,_,h⟩<;>rw[h]<;>simp
 ·obtain⟨i,a,_,hd⟩:=JZ.1 hd;rcases qP.1 hd with ⟨_,_,_,h⟩|⟨_,_,⟨_,_,_,_,_,_,_,_,h⟩|⟨_,_,_,_,_,_,h⟩⟩<;>rw[h]<;>simp
section
variable {P:cZ} {E:fT} {σ:St} {a:Act} {w:bM} {c c0:eZ} {RL:az ll} {OL:az mY}
theorem Ve{s:Sp}{n:aE}(h:n∈pF RL OL s):n∈RL.flatMap (·.tk)++(OL.zipIdx 0).flatMap (λt=>t.1.ns t.2):=by
 obtain⟨b,i,j⟩:=s;have inO:∀{O:mY},OL[i]? =ah O->n∈O.ns i->n∈(OL.zipIdx 0).flatMap (λt=>t.1.ns t.2):=λhO hn=>bQ.2 ⟨_,aR (nJ (p:=0) hO),by rw[bX];exact hn⟩;have inR:∀{R:ll},RL[i]? =ah R->n∈R.tk->n∈RL.flatMap (·.tk):=λhR hn=>bQ.2 ⟨_,aR hR,hn⟩;cases b<;>cases j<;>unfold pF at h<;>dsimp only at h
 ·cases hO:OL[i]? with
  |none=>rw[hO]at h;cases h
  |some O=>rw[hO]at h;exact bO _ (inO hO (bN _ h))
 ·rename_i j;cases hO:OL[i]? with
  |none=>rw[hO]at h;cases h
  |some O=>
   rw[hO]at h;dsimp only at h;cases hr:O.cs[j]? with
   |none=>rw[hr]at h;cases h
   |some r=>rw[hr]at h;exact bO _ (inO hO (bO _ (bQ.2 ⟨r,aR hr,h⟩)))
 ·cases hO:RL[i]? with
  |none=>rw[hO]at h;cases h
  |some O=>rw[hO]at h;exact bN _ (inR hO (bN _ h))
 ·rename_i j;cases hO:RL[i]? with
  |none=>rw[hO]at h;cases h
  |some O=>
   rw[hO]at h;dsimp only at h;cases hr:O.cs[j]? with
   |none=>rw[hr]at h;cases h
   |some r=>rw[hr]at h;exact bN _ (inR hO (bO _ (bQ.2 ⟨r,aR hr,h⟩)))
theorem Vx{args:az fa}{r:dq}(hE:EM E σ w c RL OL args r){q:aE}{R:ll}(hR:RL[q]? =ah R):qo E w (nF σ c RL OL) (Hf (500+q) R.arg).1 (Hf (500+q) R.arg).2 R.v:=by
 have hlen:∀{j:aE} {t:jF},R.cs[j]? =ah t->j<900:=by
  intro j t ht;have h0:r.rs[q]? =ah R.arg:=by rw[hE.rs,bL,hR];rfl
  have hx:MP R.arg (R.cs.map (·.aa)):=by
   unfold ll.arg;split
   ·exact .inr rfl
   ·exact .inl ⟨_,rfl⟩
  have:=hE.sm.rl q _ _ h0 hx;have h7:=(aT.1 ht).1;rw[bV]at this;omega
 have hf:∀{j:aE} {t:jF},R.cs[j]? =ah t->∀n∈t.fz,n∈RL.flatMap (·.fz)++OL.flatMap (·.ms):=λhj n hn=>bN _ (bQ.2 ⟨_,aR hR,bQ.2 ⟨_,aR hj,hn⟩⟩);have hnm:∀p j,dU p 0+j=dU p j:=λp j=>by unfold dU;omega
 rcases hE.rl R (aR hR)with ⟨nm,zs,vals,h1,h2,h3,h4,h5,h6⟩|⟨h1,⟨h2,t,h3,h4,h5⟩|⟨h2,vals,h3,h4,h5⟩⟩
 ·have:R.arg= .pt (R.cs.map (·.aa)):=by unfold ll.arg;rw[h1]
  rw[this];show R.v= .pointer (ah (ad ((nF σ c RL OL).P (dU (500+q) 900)).blk 0));rw[(BB (SY hR h1)).1];exact h3
 ·have:R.arg= .v ak [t.aa]:=by unfold ll.arg;rw[h1,h2,h3];rfl
  rw[this,<-h4];have ht:R.cs[0]? =ah t:=by rw[h3];rfl
  have:=BD (OL:=OL) h5 (hf ht) (Hg hR ht (by omega));exact this
 ·have:R.arg= .v ai (R.cs.map (·.aa)):=by unfold ll.arg;rw[h1,h2]
  rw[this];refine⟨vals,h3,by show vals.size=(gD _ _).length;rw[iT,bV];exact h4,λj y hj=> ?_⟩
  replace hj:(gD (dU (500+q) 0) (R.cs.map (·.aa)))[j]? =ah y:=hj;rw[iD,bL]at hj;cases ht:R.cs[j]? with
  |none=>rw[ht]at hj;cases hj
  |some t=>
   rw[ht]at hj;cases hj;obtain⟨k1,k2⟩:=h5 j t ht;refine⟨t.u,k1, ?_⟩
   rw[hnm];exact BD k2 (hf ht) (Hg hR ht (hlen ht))
theorem CF{args:az fa}{r:dq}{q:aE}{y:fa}{xs:az AA}(h0:r.rs[q]? =ah y)(hx:MP y xs){v:AV}(hv:v∈gD (dU (500+q) 0) xs):jk (oA args r) v:=by
 intro m hm;obtain⟨j,hj⟩:=b7 hv;rw[iD]at hj;cases hy:xs[j]? with
 |none=>rw[hy]at hj;cases hj
 |some z=>
  rw[hy]at hj;cases hj;obtain⟨rfl,e,ex,ys,rfl⟩:=tQ hm;have hn:dU (500+q) 0+j=dU (500+q) j:=by unfold dU;omega
  rw[hn];exact we (.rr q y xs j e ex ys h0 hx hy)
theorem X2(cg:Ok E σ w c){args:az fa}{r:dq}(hE:EM E σ w c RL OL args r):Ok E (oA args r) w (nF σ c RL OL) where
 obj nm o h:=(xI cg hE (qN h)).1
 sep nm o xZ o' b h h' hf vt:=by
  obtain⟨s,e1,k1⟩:=(xI cg hE (qN h)).2;obtain⟨s',e1',k1'⟩:=(xI cg hE (qN h')).2;obtain⟨n,ob,h1,h2,h3⟩:=k1 b hf;obtain⟨n',ob',LA,PJ,NW⟩:=k1' b vt;have:=cg.sep n ob n' ob' b h2 PJ h3 NW;subst this;rw[e1,e1',aaq hE.nd h1 LA]
 kk nm o b h hf hk:=by
  obtain⟨s,e1,k1⟩:=(xI cg hE (qN h)).2;obtain⟨n,ob,h1,h2,h3⟩:=k1 b hf;rcases hk with hk|⟨n',kP,ob',PJ,NW⟩
  ·exact cg.kk n ob b h2 h3 hk
  ·have:=cg.sep n ob n' ob' b h2 PJ h3 NW;subst this;exact hE.ap n (Ve h1) kP
 lt b hb:=by
  rcases hb with hb|⟨n,hn,ob,h1,h2⟩
  ·exact cg.lt b hb
  ·exact wS.lt cg ⟨n,ob,h1,h2⟩
 kn nm xs h v hv:=by
  have hx:=qN h;cases hx with
  |rb q xs h0=>exact CF h0 (.inr rfl) hv
  |ob p xs h0=>
   intro m hm;obtain⟨j,hj⟩:=b7 hv;rw[wv,bX]at hj;cases hy:(r.outs.getD p [])[j]? with
   |none=>rw[hy]at hj;cases hj
   |some z=>
    rw[hy]at hj;cases hj;cases z with
    |kp ys=>
     have hm:m=dU p j:=by simpa [tX,bR]using hm
     subst hm;have s8:p<OL.length:=by rw[hE.len];exact(aT.1 h0).1
     have hO:OL[p]? =ah OL[p]:=by simp[s8]
     have hl:r.outs.getD p []=OL[p].cs.map (·.aa):=by rw[hE.outs,cY,bL,hO];rfl
     rw[hl,bL]at hy;cases ht:OL[p].cs[j]? with
     |none=>rw[ht]at hy;cases hy
     |some t=>
      rw[ht]at hy;have JP:t.aa= .kp ys:=by injection hy
      rcases hE.ol p _ _ hO h0 with ⟨_,h1,_⟩|⟨_,MG,vs,vals,Yr,_,_,_,h5⟩
      ·exact cL rfl (h1 xs)
      ·cases Yr;rcases(h5 j t ht).2 with ⟨⟨e,ex,z,DT,q1,q2,_⟩,_⟩|h
       ·rw[JP]at q2;cases q2;exact we (.kp p _ xs j e ex z ys h0 (.inr rfl) q1 (by rw[hl,bL,ht];exact lV ah JP))
       ·rcases h with ⟨_,_,_,_,q,_⟩|⟨_,_,_,q,_⟩
        ·rw[JP]at q;cases q
        ·exact cL JP (q _)
    |ow e ex ys=>
     have hm:m=dU p (100+j):=by simpa [tX,lJ,bR]using hm
     subst hm;exact we (.nw p _ xs j e ex ys h0 (.inr rfl) hy)
    |_=>simp[tX,lJ,bR]at hm
theorem PA(cg:Ok E σ w c){args:az fa}{r:dq}(hE:EM E σ w c RL OL args r):oG σ c w (oA args r) (nF σ c RL OL) w where
 os:=rfl
 tape:=rfl
 output:=rfl
 size:=cG _
 K b hb:= .inl hb
 same _ _ _:=rfl
 own b hb:=by
  obtain⟨nm,o,h,hf⟩:=hb;obtain⟨s,e1,k1⟩:=(xI cg hE (qN h)).2;obtain⟨n,ob,h1,h2,h3⟩:=k1 b hf;exact .inl ⟨n,ob,h2,h3⟩
 kn b hb:=by
  rcases hb with hb|⟨n,hn,ob,h1,h2⟩
  ·exact .inl hb
  ·exact .inr (.inl ⟨n,ob,h1,h2⟩)
theorem PB{args:az fa}{r:dq}(hs:Small args r)(ha:∀a∈args,nE a<=100)(hA:WH c0 c):∀m,inj args (c9 m)≠ .j9->(nF σ c RL OL).P m=c0.P m/\(nF σ c RL OL).G m=c0.G m:=by
 intro m hm;have:∃ob,inj args (c9 m)= .o ob:=by
  cases h:inj args (c9 m)with
  |o ob=>exact⟨ob,rfl⟩
  |j9=>exact cL h hm
  |v x=>
   obtain⟨p,a,h0,h⟩:=mb.1 (n6 h (by simp));rcases h with ⟨h,_⟩|h
   ·exact cL h (mC _ _)
   ·rcases iA.1 h with ⟨_,_,_,h⟩|⟨_,_,_,_,_,_,_,_,h⟩<;>cases h
 obtain⟨ob,h⟩:=this;obtain⟨p,a,h0,hh⟩:=BL h;have go:∀j,j<100\/j=900->p<500->(nF σ c RL OL).P (dU p j)=c0.P (dU p j)/\(nF σ c RL OL).G (dU p j)=c0.G (dU p j):=by intro j hj hp;obtain⟨e1,e2⟩:=BA (σ:=σ) (Bx (c:=c) (RL:=RL) (OL:=OL) hp hj);obtain⟨g1,g2⟩:=hA (dU p j) (C4 p j);exact⟨e1.trans g1,e2.trans g2⟩
 rcases hh with ⟨xs,rfl,rfl,_⟩|⟨xs,j,e,ex,ys,hx,hj,rfl,_⟩
 ·exact go 900 (.inr rfl) (hs.a p _ xs h0 (.inr rfl))
 ·refine go j (.inl ?_) (hs.a p _ xs h0 hx);have h1:=ha a (aR h0);have h2:nE a=xs.length:=by rcases hx with ⟨g,rfl⟩|rfl<;>rfl
  have h3:=(aT.1 hj).1;omega
theorem Tf{args:az fa}{r:dq}(hE:EM E σ w c RL OL args r):jm E w (nF σ c RL OL) (aab r.rs) (Dk (RL.map (·.v))):=by
 have kq:∀l:az (aU×az AV),l=lK 500 r.rs->jm E w (nF σ c RL OL) (.kq l) (.tuple (RL.map (·.v)).toArray):=by
  rintro l rfl;refine⟨_,rfl,by rw[xX,hE.rs];simp,λj g xs hj=> ?_⟩
  rw[FY,hE.rs,bL]at hj;cases hR:RL[j]? with
  |none=>rw[hR]at hj;cases hj
  |some R=>
   rw[hR]at hj;have hj:Hf (500+j) R.arg=(g,xs):=by injection hj
   have:=Vx hE hR;rw[hj]at this;exact⟨R.v,by simp[hR],this⟩
 have one:∀x R,lK 500 r.rs=[x]->RL=[R]->jm E w (nF σ c RL OL) (sH [x]) R.v:=by
  intro x R hx hRL;have h0:RL[0]? =ah R:=by rw[hRL];rfl
  have h1:=Vx hE h0;have h2:(lK 500 r.rs)[0]? =ah (Hf (500+0) R.arg):=by rw[FY,hE.rs,bL,h0];rfl
  rw[hx]at h2;have h2:x=Hf (500+0) R.arg:=by injection h2
  subst h2;exact h1
 have hlen:(lK 500 r.rs).length=RL.length:=by rw[xX,hE.rs];simp
 have hL:∀L,L=lK 500 r.rs->L.length=RL.length->jm E w (nF σ c RL OL) (sH L) (Dk (RL.map (·.v))):=by
  intro L hL hlen;have kq:=kq L hL;generalize hV:RL.map (·.v)=V at kq⊢;have hlv:L.length=V.length:=by rw[hlen,<-hV];simp
  cases L with
  |nil=>
   cases V with
   |nil=>exact kq
   |cons v V=>simp at hlv
  |cons x L=>
   cases V with
   |nil=>simp at hlv
   |cons v V=>
    cases L with
    |cons y L=>
     cases V with
     |nil=>simp at hlv
     |cons v' V=>exact kq
    |nil=>
     cases V with
     |cons v' V=>simp at hlv
     |nil=>
      cases hR:RL with
      |nil=>rw[hR]at hV;cases hV
      |cons R RL'=>
       cases RL' with
       |nil=>
        have:=one x R hL.symm hR;rw[hR]at hV this;have hV:R.v=v:=by injection hV
        rw[<-hV];exact this
       |cons R' RL'=>rw[hR]at hV;simp at hV
 exact hL _ rfl hlen
end
end Go.FG

namespace Go.FG
theorem Fm{α:Type}{b:aU}{x r:α}(h:(bif b then ah x else aj)=ah r):b=ai/\x=r:=by
 cases b with
 |true=>exact⟨rfl,by injection h⟩
 |false=>cases h
section
variable {P:cZ} {E:fT} {σ:St} {a:Act} {w:bM} {c:eZ}
theorem afz(hE:eA P E)(cg:Ok E σ w c)(dI:fy E σ a w c){F:Func}{args:az fa}{e:Ex}{r:dq}(h:fin E F args e σ=ah r):
  (e= .normal\/e= .ret)/\(∀x∈args,nE x<=100)/\∃RL OL,EM E σ w c RL OL args r/\(results F a.tmps).run P w= .ok (Dk (RL.map (·.v))) w:=by
 have he:e= .normal\/e= .ret:=by
  cases e with
  |normal=>exact .inl rfl
  |ret=>exact .inr rfl
  |exit id=>cases h
 have h:(match Dj E σ 500 F.results.toList F.resultTypes.toList with
  |some (rs,tk,fz)=>match Dc E σ (tk++fz) 0 args with
   |some (outs,ns,ms)=>bif tU (tk++ns)&&rO (tk++ns) (fz++ms)&&fJ args.length 500&&(args.all λa=>fJ (nE a) 100)&&(rs.all λa=>fJ (nE a) 100)&&(outs.all λa=>fJ a.length 100)then ah (dq.mk rs (uF outs))else aj
   |none=>aj
  |none=>aj)=ah r:=by
  rcases he with rfl|rfl<;>exact h
 split at h
 ·rename_i rs tk fz h1;split at h
  ·rename_i outs ns ms h2;obtain⟨RL,rfl,rfl,rfl,r4,r5,r6⟩:=Qt hE cg dI h1;obtain⟨OL,rfl,o2,rfl,rfl,o5⟩:=Qk cg h2;obtain⟨hb,rfl⟩:=Fm h;simp only[aM,bu]at hb;obtain⟨⟨⟨⟨⟨b1,b2⟩,b3⟩,b4⟩,b5⟩,b6⟩:=hb;refine⟨he,λx hx=>cM (b4 x hx),RL,OL,⟨r4,λi O x hi hx=>by have:=o5 i O x hi hx;rwa[bX]at this,o2,qQ b1,oY b2,⟨?_, ?_, ?_⟩,rfl,λp=>Au⟩,Km r6⟩
   ·intro p x xs hp _;have:=(aT.1 hp).1;have:=cM b3;omega
   ·intro q x xs hq hx;have h1:=cM (b5 x (aR hq));have h2:nE x=xs.length:=by rcases hx with ⟨g,rfl⟩|rfl<;>rfl
    omega
   ·intro p;show((uF (OL.map (·.l))).getD p []).length<=100;rw[Au,cY];cases hp:(OL.map (·.l))[p]? with
    |none=>simp
    |some l=>exact cM (b6 l (aR hp))
  ·cases h
 ·cases h
end
inductive Fit:CV->Prop
 |i (k n):Fit (.i k n)
 |b (x):Fit (.b x)
 |s (x) (h:Ez x):Fit (.s x)
 |l (e xs) (h:xs.length<=9223372036854775807) (hc:∀y∈xs,∀x∈y,Fit x):Fit (.l e xs)
def vM(xs:aQ):Prop:=xs.length<=9223372036854775807/\∀y∈xs,∀x∈y,Fit x
def ajO:AA->Prop
 | .s x=>Ez x| .sh _ xs=>vM xs| .ow _ _ xs=>vM xs|_=>True
def Ht:az AA->Prop
 |[]=>True|a::r=>ajO a/\Ht r
def ajP:CV->Prop
 | .s x=>Ez x| .l _ xs=>vM xs|_=>True
def Tm:az CV->Prop
 |[]=>True|a::r=>ajP a/\Tm r
def Tl:fa->Prop
 | .v _ xs=>Ht xs| .pt xs=>Ht xs| .fb xs=>Tm xs
def xP:az fa->Prop
 |[]=>True|a::r=>Tl a/\xP r
theorem Fit.ala{u:bn}{x:CV}(hl:uI x=ak)(h:Sc u x):Fit x:=by
 cases x with
 |i k n=>exact .i k n
 |b x=>exact .b x
 |s x=>exact .s x h.2
 |l=>simp[uI]at hl
theorem da.fit{E:Tab}{w:bM}{K:aE->Prop}{v:bn}{x:CV}(h:da E w K v x):Fit x:=by
 induction h with
 |i k n=>exact .i k n
 |b x=>exact .b x
 |s x h=>exact .s x h
 |nl e A c=>exact .l e [] (bD _) (λy hy=>by cases hy)
 |l e xs b o c ti U ht hc hm hK hs hcell gC ih=>refine .l e xs (dg hc hm) (λy hy x hx=> ?_);obtain⟨i,hi⟩:=b7 hy;obtain⟨j,hj⟩:=b7 hx;exact ih i j y x hi hj
theorem Fit.row{e:aE}{xs:aQ}(h:Fit (.l e xs)):vM xs:=by cases h with|l _ _ h hc=>exact⟨h,hc⟩
theorem Fit.toC{x:CV}(h:Fit x):ajP x:=by
 cases x with
 |s x=>cases h with|s _ h=>exact h
 |l e xs=>exact h.row
 |_=>trivial
theorem AH{w:bM}{p:Pl}{xs:aQ}{R:aE->aE->bn->CV->Prop}(h:jl w p xs R){i j:aE}{y:az CV}{x:CV}(hi:xs[i]? =ah y)(hj:y[j]? =ah x):∃u:bn,R i j u x:=by
 cases hn:p.nil with
 |true=>rw[(h.nil hn).1]at hi;simp at hi
 |false=>obtain⟨vals,_,_,_,_,hc⟩:=h.mem hn;obtain⟨u,_,hr⟩:=hc i y j x hi hj;exact⟨u,hr⟩
theorem Nd.fit{E:Tab}{w:bM}{c:eZ}{nm e:aE}{ex:aU}{xs:aQ}(h:Nd E w c nm e ex xs):vM xs:=by
 refine⟨uO h.at_,λy hy x hx=> ?_⟩
 obtain⟨i,hi⟩:=b7 hy;obtain⟨j,hj⟩:=b7 hx;obtain⟨u,hr⟩:=AH h.at_ hi hj;split at hr
 ·cases x with
  |i k n=>exact .i k n
  |b x=>exact .b x
  |s x=>exact .s x (show Sc u (.s x)from hr).2
  |l e2 ys=>obtain⟨_,ti,_,hp,_,mT,gi⟩:=hr;refine .l e2 ys (uO gi) (λy2 hy2 x2 Rc=> ?_);obtain⟨i2,sE⟩:=b7 hy2;obtain⟨j2,Em⟩:=b7 Rc;obtain⟨u2,hr2⟩:=AH gi sE Em;exact Fit.ala (iv hp (mT y2 hy2) Em) hr2
 ·exact da.fit hr
theorem Fw{T:Tab}{w:bM}{c:eZ}{xs:az AA}{nm:aE}(akn:∀(j e:aE) (ex:aU) (ys:aQ),xs[j]? =ah (AA.ow e ex ys)->vM ys)(h:∀(j:aE) (x:AA),xs[j]? =ah x->∃v,eF T w c (lJ (nm+j) x) v):Ht xs:=by
 induction xs generalizing nm with
 |nil=>trivial
 |cons x xs ih=>
  refine⟨?_,ih (nm:=nm+1) (λj e ex ys hj=>akn (j+1) e ex ys hj) (λj y hj=> ?_)⟩
  ·obtain⟨v,hv⟩:=h 0 x rfl;cases x with
   |s x=>exact hv.2
   |sh e ys=>exact(da.fit hv).row
   |ow e ex ys=>exact akn 0 e ex ys rfl
   |_=>trivial
  ·have:=h (j+1) y hj;rw[show nm+1+j=nm+(j+1)by omega];exact this
def z_(args:az fa):aU:=fJ args.length 500&&args.all λa=>fJ (nE a) 100
theorem Yw{args:az fa}(hs:z_ args=ai){p j e:aE}{x:fa}{xs:az AA}{ex:aU}{ys:aQ}(h0:args[p]? =ah x)(hx:(∃g,x= .v g xs)\/x= .pt xs)(hj:xs[j]? =ah (AA.ow e ex ys)):inj args (c9 (dU p j))= .o (.row e ex ys):=by
 simp only[z_,aM,bu]at hs;have len:∀(x:fa) (xs:az AA) (j:aE) (y:AA),x∈args->((∃g,x= .v g xs)\/x= .pt xs)->xs[j]? =ah y->j<100:=by
  intro x xs j y hm hx hj;have h1:=cM (hs.2 x hm);have h2:nE x=xs.length:=by rcases hx with ⟨g,rfl⟩|rfl<;>rfl
  have h3:=(aT.1 hj).1;omega
 have j8:=len x xs j _ (aR h0) hx hj;refine Ab (mb.2 ⟨p,x,h0, .inr (iA.2 (.inr ⟨xs,j,e,ex,ys,hx,hj,by rw[bX],rfl⟩))⟩) (λc' JD=> ?_);obtain⟨p',a',W2,hh⟩:=mb.1 JD;rw[bX]at hh;rcases hh with ⟨h,_⟩|hh
 ·exact cL h (mC _ _)
 ·rcases iA.1 hh with ⟨zs,_,h,_⟩|⟨zs,j',e',uG,DT,pL,KG,h,rfl⟩
  ·have:=uM (by omega) (by omega) (j4 h);omega
  ·have aBb:=len a' zs j' _ (aR W2) pL KG;obtain⟨rfl,rfl⟩:=uM (by omega) (by omega) (j4 h);rw[h0]at W2;cases W2;have:xs=zs:=by rcases hx with ⟨g,rfl⟩|rfl<;>rcases pL with ⟨g',pL⟩|pL<;>cases pL<;>rfl
   subst this;rw[hj]at KG;cases KG;rfl
theorem Ls{T:Tab}{w:bM}{c:eZ}:∀{cs:az CV},(∀(q:aE) (x:CV),cs[q]? =ah x->Fit x)->Tm cs:=by
 intro cs;induction cs with
 |nil=>intro _;trivial
 |cons x cs ih=>intro h;exact⟨(h 0 x rfl).toC,ih (λq y hq=>h (q+1) y hq)⟩
theorem Tn{T:Tab}{w:bM}{c:eZ}{args:az fa}(hs:z_ args=ai)(cg:Ok T (inj args) w c)(h:∀(p:aE) (x:fa),args[p]? =ah x->∃v,jm T w c (tM p x) v):xP args:=by
 have one:∀(p:aE) (x:fa),args[p]? =ah x->Tl x:=by
  intro p x h0;have rows:∀xs,((∃g,x= .v g xs)\/x= .pt xs)->∀(j e:aE) (ex:aU) (ys:aQ),xs[j]? =ah (AA.ow e ex ys)->vM ys:=λxs hx j e ex ys hj=>Nd.fit (cg.obj _ _ (Yw hs h0 hx hj));obtain⟨v,hv⟩:=h p x h0;cases x with
  |v g xs=>
   refine Fw (T:=T) (w:=w) (c:=c) (nm:=dU p 0) (rows xs (.inl ⟨g,rfl⟩)) (λj y hj=> ?_);replace hv:qo T w c g (gD (dU p 0) xs) v:=hv;have KG:(gD (dU p 0) xs)[j]? =ah (lJ (dU p 0+j) y):=by rw[iD,hj];rfl
   unfold qo at hv;split at hv
   ·rename_i a he;rw[he]at KG;cases j with
    |zero=>cases KG;exact⟨v,hv⟩
    |succ j=>simp at KG
   ·obtain⟨vals,_,_,hv⟩:=hv;obtain⟨u,_,hu⟩:=hv j _ KG;exact⟨u,hu⟩
   ·exact hv.elim
  |pt xs=>
   have ate:inj args (c9 (dU p 900))= .o (.box (gD (dU p 0) xs)):=by
    refine Ab (mb.2 ⟨p,_,h0, .inr (iA.2 (.inl ⟨xs,rfl,by rw[bX],by rw[bX]⟩))⟩) (λc' JD=> ?_);obtain⟨p',a',W2,hh⟩:=mb.1 JD;rw[bX]at hh;rcases hh with ⟨h,_⟩|hh
    ·exact cL h (mC _ _)
    ·rcases iA.1 hh with ⟨zs,hx,h,rfl⟩|⟨zs,j',e',uG,DT,pL,KG,h,rfl⟩
     ·obtain⟨rfl,_⟩:=uM (by omega) (by omega) (j4 h);rw[h0]at W2;cases W2;cases hx;rfl
     ·exfalso;simp only[z_,aM,bu]at hs;have h1:=cM (hs.2 a' (aR W2));have h2:nE a'=zs.length:=by rcases pL with ⟨g,rfl⟩|rfl<;>rfl
      have h3:=(aT.1 KG).1;have:=uM (by omega) (by omega) (j4 h);omega
   obtain⟨vals,_,_,hc⟩:=cg.obj _ _ ate;refine Fw (T:=T) (w:=w) (c:=c) (nm:=dU p 0) (rows xs (.inr rfl)) (λj y hj=> ?_);obtain⟨u,_,hu⟩:=hc j (lJ (dU p 0+j) y) (by rw[iD,hj];rfl);exact⟨u,hu⟩
  |fb xs=>
   obtain⟨b,_,_,hf⟩:∃b,v= .pointer (ah (ad b 0))/\c.K b/\∀(q:aE) (x:CV),xs[q]? =ah x->∃u:bn,w.cell? (ad b q)=ah u/\da T w c.K u x:=by obtain⟨b,h1,h2,h3⟩:=hv;exact⟨b,h1,h2,h3⟩
   exact Ls (T:=T) (w:=w) (c:=c) (λq x hq=>by obtain⟨u,_,hu⟩:=hf q x hq;exact hu.fit)
 clear h cg hs;induction args with
 |nil=>trivial
 |cons x args ih=>exact⟨one 0 x rfl,ih (λp y hp=>one (p+1) y hp)⟩
theorem afA{P:cZ}{E:fT}(hE:eA P E)(hF:∀g,lY P E g (E.call g))(hm:P.follows .mixedOrders=ai){g:aE}{F:Func}{code:Code}(hf:P.funcs[g]? =ah F)(hb:F.body=ah code)
  (hc:((F.name== "runtime.NumGoroutine")|| !tD F.ntmps code)=ak) {spec:az fa->aA (aU×dq)} (hs:∀args r,spec args=ah (ai,r)->z_ args=ai/\(xP args->args.length<=F.ntmps/\∃(R:Type) (it:It R) (K:Ex->St->aA R) (q:R),(∀c∈jZ code,bZ E it c)/\tF E it code (inj args) K=ah q/\∀e σ,K e σ=ah q->fin E F args e σ=ah r)):lY P E g spec:=by
 intro args r hr w c1 vs cg gj TK;obtain⟨hsm,hs⟩:=hs args r hr;obtain⟨hlen,R,it,K,q,CR,ajS,ato⟩:=hs (Tn hsm cg (λp x hp=>(TK p x hp).imp λ_ h=>h.2));simp only[iH,nk]at hc;refine⟨⟨F,hf,by rw[hb];rfl,hc.1⟩, ?_⟩
 refine calls_of_wp hf hb ?_;refine aft (N:=F.ntmps) (σ0:=inj args) (c0:=c1) (w0:=w) hE hF hm code CR (inj args) K _ ajS hc.2 (λe σ' a' w' c' hk gi=> ?_) _ w c1 ⟨cg,⟨λn=> ?_,JS,rfl⟩, ?_,oG.refl _ _ _,WH.refl _⟩
 ·obtain⟨he,ha,RL,OL,X_,TF⟩:=afz hE gi.ok gi.sl (ato _ _ hk)
  have atU:SL E args r c1 w (Dk (RL.map (·.v))) w':=
   ⟨nF σ' c' RL OL,X2 gi.ok X_,gi.gr.trans (PA gi.ok X_),PB X_.sm ha gi.ag,Tf X_⟩
  rcases he with rfl|rfl<;>exact⟨gi.sl.df,_,TF,atU⟩
 ·rcases JT (args:=args) (n:=n)with ⟨x,h0,h⟩|h
  ·rw[h];obtain⟨v,hv,yP⟩:=TK n x h0;have:(Act.mk (vs++Bm (F.ntmps-vs.size) undef) []).eval (.tmp n)=v:=by show(vs++Bm (F.ntmps-vs.size) undef).getD n undef=v;have hn:=(dV.1 hv).1;rw[eK,Array.getElem?_append,bA hn,hv];rfl
   rw[this];exact yP
  ·rw[h];trivial
 ·simp;omega
theorem PE{P:cZ}{T:Tab}{g:aE}{spec:az fa->aA (aU×dq)}(h:∀args,spec args=aj):lY P T g spec:=λargs r hr=>by rw[h]at hr;cases hr
end Go.FG

namespace Go.FG
structure pV where
 t:aE
 ti:TI
 fs:az (aE×aE)
def Bk:az pV->aE->aA TI
 |[],_=>aj
 |r::rs,t=>bif bF t r.t then ah r.ti else Bk rs t
def Ej:az pV->aE->aE->aA (aE×aE)
 |[],_,_=>aj
 |r::rs,t,f=>bif bF t r.t then(bif r.ti.agg then r.fs[f]? else aj)else Ej rs t f
def Wq(rows:az pV)(eqs:az aE):Tab:={ty:=Bk rows,fo:=Ej rows,eqs:=eqs}
def zB:Ck->bn->aU
 | .i k, .int k' n=>decide (k'=k)&&decide (n=0)
 | .b, .bool x=> !x
 | .s, .string x=>decide (x.size=0)
 | .l _, .slice aj 0 0=>ai
 | .o, .nilIface=>ai
 |_,_=>ak
def zsB:az Ck->az bn->aU
 |[],[]=>ai
 |k::ks,v::vs=>zB k v&&zsB ks vs
 |_,_=>ak
def isAgg:bn->aU| .agg _=>ai|_=>ak
def xN(P:cZ)(n:aE):az Field->az (aE×aE)->aU
 |[],[]=>ai
 |f::r,(o,m)::l=>bF f.offset o&&(match P.info? f.type with|some i=>bF i.size m|none=>ak)&&qC 0 m&&fJ (o+m) n&&xN P n r l
 |_,_=>ak
def rY:TypeDesc->aU| .struct _=>ak| .array _ _=>ak|_=>ai
def aac(P:cZ)(r:pV):aU:=
 match P.info? r.t,P.underlying r.t with
 |some inf,ah d=>bF inf.size r.ti.ks.length&&bF inf.bytes r.ti.bytes&&qC 0 r.ti.ks.length&&
  (bif L5 r.ti.ks then(match inf.zero with|some z=>zsB r.ti.ks z.cells.toList&&(!r.ti.agg||isAgg z)|none=>ak)else ai)&&
  (match d with
  | .struct fs=>r.ti.agg&&xN P r.ti.ks.length fs.toList r.fs
  | .int k=> !r.ti.agg&&qq r.ti.ks [.i k]
  | .bool=> !r.ti.agg&&qq r.ti.ks [.b]
  | .string=> !r.ti.agg&&qq r.ti.ks [.s]
  | .slice e=> !r.ti.agg&&qq r.ti.ks [.l e]
  |d=> !r.ti.agg&&qq r.ti.ks [.o]&&rY d)
 |_,_=>ak
theorem an4{k:Ck}{v:bn}(h:zB k v=ai):v=iK k:=by
 cases k<;>cases v<;>simp_all [zB,iK]
 ·rfl
 ·rename_i a n c;cases a<;>cases n<;>cases c<;>simp_all
theorem WG:∀{ks:az Ck} {vs:az bn},zsB ks vs=ai->vs=ks.map iK
 |[],[],_=>rfl
 |k::ks,v::vs,h=>by
  simp only[zsB,aM]at h;rw[an4 h.1,WG h.2];rfl
 |[],_::_,h=>by cases h
 |_::_,[],h=>by cases h
theorem afo:∀{x y:Ck},ckB x y=ai->x=y:=by intro x y h;cases x<;>cases y<;>simp_all [ckB]
theorem nX:∀{a b:az Ck},qq a b=ai->a=b
 |[],[],_=>rfl
 |x::a,y::b,h=>by
  simp only[qq,aM]at h;rw[afo h.1,nX h.2]
 |[],_::_,h=>by cases h
 |_::_,[],h=>by cases h
theorem wg{P:cZ}{n:aE}:∀{fs:az Field} {l:az (aE×aE)},xN P n fs l=ai->
  fs.mapM (λf=>(P.info? f.type).map λi=>(f.offset,i.size))=ah l/\∀(f o m:aE),l[f]? =ah (o,m)->∃fd,fs[f]? =ah fd/\fd.offset=o/\(P.info? fd.type).map (·.size)=ah m/\m≠0/\o+m<=n
 |[],[],_=>⟨rfl,λf o m h=>by simp at h⟩
 |f::r,(o,m)::l,h=>by
  simp only[xN,aM]at h;obtain⟨⟨⟨⟨h1,h2⟩,h3⟩,h4⟩,h5⟩:=h;obtain⟨i1,i2⟩:=wg h5;have e1:=aW h1;cases hi:P.info? f.type with
  |none=>rw[hi]at h2;cases h2
  |some i=>
   rw[hi]at h2;have e2:i.size=m:=aW h2;have e3:0<m:=by simpa [AX]using h3
   have e4:=cM h4;refine⟨by simp[XA,hi,i1,e1,e2],λg o' m' hg=> ?_⟩
   cases g with
   |zero=>cases hg;exact⟨f,rfl,e1,by rw[hi];exact lV ah e2,by omega,e4⟩
   |succ g=>exact i2 g o' m' hg
 |[],_::_,h=>by cases h
 |_::_,[],h=>by cases h
theorem Ky:∀{rows:az pV} {t:aE} {ti:TI},Bk rows t=ah ti->∃r∈rows,r.t=t/\r.ti=ti/\∀f,Ej rows t f=(bif r.ti.agg then r.fs[f]? else aj)
 |[],_,_,h=>by cases h
 |r::rs,t,ti,h=>by
  unfold Bk at h;cases hb:bF t r.t with
  |true=>rw[hb]at h;cases h;exact⟨r,dv ..,(aW hb).symm,rfl,λf=>by simp[Ej,hb]⟩
  |false=>rw[hb]at h;obtain⟨r',h1,h2,h3,h4⟩:=Ky (rows:=rs) h;exact⟨r',c7 _ h1,h2,h3,λf=>by unfold Ej;rw[hb];exact h4 f⟩
theorem NS:∀{rows:az pV} {t f:aE} {o n:aE},Ej rows t f=ah (o,n)->∃ti,Bk rows t=ah ti/\ti.agg=ai
 |[],_,_,_,_,h=>by cases h
 |r::rs,t,f,o,n,h=>by
  unfold Ej at h;unfold Bk;cases hb:bF t r.t with
  |true=>
   rw[hb]at h;refine⟨r.ti,rfl, ?_⟩
   cases ha:r.ti.agg with
   |true=>rfl
   |false=>rw[ha]at h;cases h
  |false=>rw[hb]at h;exact NS (rows:=rs) h
def H5(P:cZ):aE->az Ck->az Field->aU
 |_,[],[]=>ai
 |j,k::ks,f::fs=>f.name != "_" &&bF f.offset j&&(match P.underlying f.type,k with|some (.int q), .i q'=>decide (q=q')|some .bool, .b=>ai|some .string, .s=>ai|_,_=>ak)&&H5 P (j+1) ks fs
 |_,_,_=>ak
def abw(P:cZ)(rows:az pV)(t:aE):aU:=
 !P.eqGuardType P.depth t&& !P.stoodInHeld t&&(match Bk rows t,P.underlying t with|some ti,ah (.struct fs)=>H5 P 0 ti.ks fs.toList|_,_=>ak)
theorem yz{P:cZ}{t:aE}{d:TypeDesc}(hd:P.underlying t=ah d)(hp:rY d=ai){cs:dt bn}{j:aE}{v:bn}(hj:cs[j]? =ah v)(w:bM):(part t cs j).run P w= .ok v w:=by cases d<;>simp_all [part,Go.isAgg,run_underlying hd,rY]
theorem Av{P:cZ}(w:bM):∀(fs:az Field) (ks:az Ck) (pre Mh xs ys:az AV) (r:aU),H5 P pre.length ks fs=ai->Mh.length=pre.length->xs.map HN=ks->ys.map HN=ks->X1 xs ys=ah r->
  (O_ 9999 ((pre++xs).map mg).toArray ((Mh++ys).map mg).toArray fs).run P w= .ok r w
 |[],[],pre,Mh,xs,ys,r,_,_,hx,hy,he=>by
  have:xs=[]:=by simpa using hx
  subst this;have:ys=[]:=by simpa using hy
  subst this;cases he;rfl
 |f::fs,k::ks,pre,Mh,x::xs,y::ys,r,h,hl,hx,hy,he=>by
  simp only[H5,aM]at h;obtain⟨⟨⟨h1,h2⟩,h3⟩,h4⟩:=h;have h2:=aW h2;have h1:f.name≠ "_" :=by simpa using h1
  simp only[fw,List.cons.injEq]at hx hy;have gx:((pre++x::xs).map mg).toArray[f.offset]? =ah (mg x):=by rw[h2];simp
  have gy:((Mh++y::ys).map mg).toArray[f.offset]? =ah (mg y):=by rw[h2,<-hl];simp
  have ih:=λr' he'=>Av w fs ks (pre++[x]) (Mh++[y]) xs ys r' (by simpa using h4) (by simp[hl]) hx.2 hy.2 he';simp only[cy,u5]at ih
  have fin:∀{d:TypeDesc} {a b:bn} {q t:aU},P.underlying f.type=ah d->rY d=ai->mg x=a->mg y=b->(Op.equalIn 9999 f.type a b).run P w= .ok q w->X1 xs ys=ah t->r=(q&&t)->
    (O_ 9999 ((pre++x::xs).map mg).toArray ((Mh++y::ys).map mg).toArray (f::fs)).run P w= .ok r w:=by
   intro d a b q t hd hp ha hb hq ht hr
   subst ha;subst hb;subst hr
   simp only[O_,bA h1,cj,yz hd hp gx w,yz hd hp gy w,bI,hq,nr]
   cases q with
   |false=>rfl
   |true=>simpa using ih t ht
  cases hu:P.underlying f.type with
  |none=>rw[hu]at h3;cases h3
  |some d=>
   rw[hu]at h3;cases x<;>cases y<;>simp only[X1]at he<;>try (cases he;done)
   ·rename_i k1 n1 k2 n2;split at he
    ·rename_i Tz;subst Tz;split at he
     ·rename_i t ht;cases he;have hk:k= .i k1:=hx.1.symm;subst hk;cases d<;>simp at h3;subst h3;exact fin hu rfl rfl rfl (run_equalIn_int w 9998 f.type _ _ _ _ hu) ht rfl
     ·cases he
    ·cases he
   ·split at he
    ·rename_i t ht;cases he;have hk:k= .b:=hx.1.symm;subst hk;cases d<;>simp at h3;exact fin hu rfl rfl rfl (run_equalIn_bool' w 9998 f.type _ _ hu) ht rfl
    ·cases he
   ·split at he
    ·rename_i t ht;cases he;have hk:k= .s:=hx.1.symm;subst hk;cases d<;>simp at h3;exact fin hu rfl rfl rfl (run_equalIn_string w 9998 f.type _ _ hu) ht rfl
    ·cases he
 |[],_::_,_,_,_,_,_,h,_,_,_,_=>by cases h
 |_::_,[],_,_,_,_,_,h,_,_,_,_=>by cases h
 |_::_,_::_,_,_,[],_,_,_,_,hx,_,_=>by cases hx
 |_::_,_::_,_,_,_::_,[],_,_,_,_,hy,_=>by cases hy
theorem afs{P:cZ}{rows:az pV}{eqs:az aE}(h:rows.all (aac P)=ai)(h2:eqs.all (abw P rows)=ai):eA P (Wq rows eqs):=by
 have key:∀t ti,Bk rows t=ah ti->∃r,r.t=t/\r.ti=ti/\aac P r=ai/\∀f,Ej rows t f=(bif r.ti.agg then r.fs[f]? else aj):=λt ti ht=>by obtain⟨r,h1,h2,h3,h4⟩:=Ky ht;exact⟨r,h2,h3,bu.1 h r h1,h4⟩
 have open_:∀r,aac P r=ai->∃inf d,P.info? r.t=ah inf/\P.underlying r.t=ah d/\inf.size=r.ti.ks.length/\inf.bytes=r.ti.bytes/\0<r.ti.ks.length/\
   (L5 r.ti.ks=ai->∃z,inf.zero=ah z/\z.cells.toList=r.ti.ks.map iK/\(r.ti.agg=ai->isAgg z=ai))/\
   ((∃fs,d= .struct fs/\r.ti.agg=ai/\xN P r.ti.ks.length fs.toList r.fs=ai)\/(r.ti.agg=ak/\((∃k,r.ti.ks=[.i k]/\d= .int k)\/(r.ti.ks=[.b]/\d= .bool)\/(r.ti.ks=[.s]/\d= .string)\/(∃e,r.ti.ks=[.l e]/\d= .slice e)\/(r.ti.ks=[.o]/\rY d=ai)))):=by
  intro r hr
  unfold aac at hr
  split at hr
  ·rename_i inf d h1 h2;simp only[aM]at hr;obtain⟨⟨⟨⟨k1,k2⟩,k3⟩,k4⟩,k5⟩:=hr;refine⟨inf,d,h1,h2,aW k1,aW k2,by simpa [AX]using k3,λhn=> ?_, ?_⟩
   ·rw[hn,au]at k4;split at k4
    ·rename_i z hz;simp only[aM,dJ,dp]at k4;exact⟨z,hz,WG k4.1,λha=>by rcases k4.2 with h|h;(·rw[ha]at h;cases h);exact h⟩
    ·cases k4
   ·cases d<;>simp only[aM,dp]at k5;case struct fs=>exact .inl ⟨fs,rfl,k5⟩
    case int k=>exact .inr ⟨k5.1, .inl ⟨k,nX k5.2,rfl⟩⟩
    case bool=>exact .inr ⟨k5.1, .inr (.inl ⟨nX k5.2,rfl⟩)⟩
    case string=>exact .inr ⟨k5.1, .inr (.inr (.inl ⟨nX k5.2,rfl⟩))⟩
    case slice e=>exact .inr ⟨k5.1, .inr (.inr (.inr (.inl ⟨e,nX k5.2,rfl⟩)))⟩
    all_goals exact .inr ⟨k5.1.1, .inr (.inr (.inr (.inr ⟨nX k5.1.2,k5.2⟩)))⟩
  ·cases hr
 refine⟨λt ti ht=> ?_,λt ti ht=> ?_,λt f o n hf=>NS hf,λt ti ht ha fs hu=> ?_,λt ti he ht w x y xs ys r hr hx hy=> ?_,λ_ _ h=>by cases h⟩
 ·obtain⟨r,rfl,rfl,hr,_⟩:=key t ti ht;obtain⟨inf,d,h1,h2,h3,h4,h5,h6,h7⟩:=open_ r hr;refine⟨inf,h1,h3,h4,h5,λhn=> ?_⟩
  obtain⟨z,z1,z2,z3⟩:=h6 hn;have hc:z.cells=(r.ti.ks.map iK).toArray:=by rw[<-z2]
  refine⟨z,z1,hc,λha=> ?_⟩
  have:=z3 ha;cases z<;>simp[isAgg]at this;rw[show _=_ from hc.symm];rfl
 ·obtain⟨r,rfl,rfl,hr,xR⟩:=key t ti ht;obtain⟨inf,d,h1,h2,h3,h4,h5,h6,h7⟩:=open_ r hr;refine⟨d,h2,λha=> ?_,λha=> ?_⟩
  ·rcases h7 with ⟨fs,rfl,_,hb⟩|⟨hn,_⟩
   ·refine⟨fs,rfl,λf o n hf=> ?_⟩
    have hf:Ej rows r.t f=ah (o,n):=hf;rw[xR,ha]at hf;obtain⟨fd,k1,k2⟩:=(wg hb).2 f o n hf;exact⟨fd,by simpa using k1,k2⟩
   ·rw[ha]at hn;cases hn
  ·rcases h7 with ⟨fs,_,hn,_⟩|⟨_,h|h|h|h|⟨h,hb⟩⟩
   ·rw[ha]at hn;cases hn
   ·exact .inl h
   ·exact .inr (.inl h)
   ·exact .inr (.inr (.inl h))
   ·exact .inr (.inr (.inr (.inl h)))
   ·refine .inr (.inr (.inr (.inr ⟨h, ?_⟩)));cases d<;>first|rfl|cases hb
 ·obtain⟨r,rfl,rfl,hr,xR⟩:=key t ti ht;obtain⟨inf,d,h1,h2,h3,h4,h5,h6,h7⟩:=open_ r hr;rw[h2]at hu;cases hu;rcases h7 with ⟨fs',he,_,hb⟩|⟨hn,_⟩
  ·cases he;refine⟨r.fs,(wg hb).1,λf o n hf=> ?_⟩
   have hf:Ej rows r.t f=ah (o,n):=hf;rw[xR,ha]at hf;exact hf
  ·rw[ha]at hn;cases hn
 ·have hm:t∈eqs:=by
   have:∀l:az aE,mS t l=ai->t∈l:=by
    intro l;induction l with
    |nil=>intro h;cases h
    |cons a l ih=>
     intro h;simp only[mS,dJ]at h;rcases h with h|h
     ·rw[aW h];exact dv
     ·exact c7 _ (ih h)
   exact this _ he
  have hb:=bu.1 h2 t hm;simp only[abw,aM,dp]at hb;obtain⟨⟨b1,b2⟩,b3⟩:=hb;rw[show Bk rows t=ah ti from ht]at b3;cases hu:P.underlying t with
  |none=>rw[hu]at b3;cases b3
  |some d=>
   rw[hu]at b3;cases d<;>try (cases b3;done)
   rename_i fs;have xR:P.fieldsOf t=fs:=by unfold Program.fieldsOf;rw[hu]
   have sF:P.underlying t=ah (.struct (P.fieldsOf t)):=by rw[xR];exact hu
   have key:(Op.equalIn 10000 t (.agg (xs.map mg).toArray) (.agg (ys.map mg).toArray)).run P w= .ok r w:=by rw[run_equalIn_agg w 9999 t _ _ sF b2,xR];exact Av w fs.toList ti.ks [] [] xs ys r b3 rfl hx hy hr
   refine⟨?_, ?_⟩
   ·simp only[cj,run_eqGuard_agg w .eql t x y _ _ b1,bI,run_eql_struct,key]
   ·simp only[cj,run_eqGuard_agg w .neq t x y _ _ b1,bI,run_neq_struct,key]
def anI(rows:az pV)(eqs:az aE)(To:az (aE×aE)):Tab:={Wq rows eqs with To:=λt f=>To.any λp=>bF t p.1&&bF f p.2}
def flB(P:cZ)(p:aE×aE):aU:=
 match P.underlying p.1 with
 |some (.struct fs)=>(match fs[p.2]? with|some fd=>(match P.underlying fd.type with|some d=>rY d|none=>ak)|none=>ak)
 |_=>ak
theorem ae_{P:cZ}{t:aE}{d:TypeDesc}(h:P.underlying t=ah d)(hb:rY d=ai)(w:bM):(Go.isAgg t).run P w= .ok ak w:=by unfold Go.isAgg;rw[cj,run_underlying h,bI];cases d<;>first|rfl|cases hb
theorem XZ{P:cZ}{rows:az pV}{eqs:az aE}{To:az (aE×aE)}(h:eA P (Wq rows eqs))(hf:To.all (flB P)=ai):eA P (anI rows eqs To):=by
 refine⟨h.info,h.desc,h.fo,h.pl,h.eq,λt f hq fs fd hu hd w=> ?_⟩
 obtain⟨p,hp,he⟩:=Gu.1 (show(To.any λp=>bF t p.1&&bF f p.2)=ai from hq);rw[aM]at he;have hb:=bu.1 hf p hp;unfold flB at hb;rw[<-aW he.1,<-aW he.2,hu]at hb;dsimp only at hb;rw[hd]at hb;dsimp only at hb;split at hb
 ·rename_i d h2;exact ae_ h2 hb w
 ·cases hb
end Go.FG

