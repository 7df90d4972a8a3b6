/- An evaluator for the part of the language that this program uses, proved sound over the model: states told as values and lists; what an evaluation tells, the call does. No condition. -/
import Derived.Calls
import Derived.Orders
import Derived.Below
import Derived.Laws.AppendOwn
import Derived.Laws.Slices
import Derived.Laws.StructEq
import Derived.Laws.Tables
import Derived.Laws.MakeOwn
import Derived.Laws.IdiomStrings
import Derived.Laws.BytesArg
import Derived.Laws.NewFold
import Derived.SizedLaws
import Derived.Carry
import Derived.ProofKit
import Derived.KernelRfl
import Derived.Laws.Strings
import Derived.Test.YtjejmgffiilmlaaGreatCorea
set_option linter.unusedVariables false
set_option linter.unusedSimpArgs false
set_option maxRecDepth 100000
open Array renaming ext'->rF,length_toList->dm,getElem?_toList->cF,getElem?_eq_some_iff->dL,getElem?_extract->dS,getElem?_map->Ms,getElem?_append_left->CU,toList_map->zh,eq_empty_of_size_eq_zero->zg,getD_eq_getD_getElem?->ej,getElem?_replicate->CW,replicate->zG
open Bool renaming true->ai,false->ak,or_true->Iz,and_eq_true->aJ,and_true->o0,false_eq_true->dg,not_eq_true'->dz,not_eq_false'->lY,or_eq_true->dB,and_false->vp,not_false->bV,true_or->zi,or_eq_false_iff->ij
open Go renaming Program->cM,World->bD,Oper->eV,Value->bf,IntKind->mG,Operand->da
open Go.Act renaming put->Tm
open Go.Builtin renaming firstCells->eU,lenOf->oO,append_->gZ,zeroCells->fu
open Go.Exit renaming inBlock->Gl
open Go.Instr renaming makeFunc->Tn,loadAt->wW,sureAddr->tI
open Go.IntKind renaming u8->bg
open Go.Op renaming eqFields->Mv
open Go.Oper renaming wp->Mw,upon_enter->To
open Go.Region renaming wanted->ud,binds->l8,ready->vx
open Go.Result renaming andThen_ok->bA
open Go.Sem renaming run_bind->ca,run_pure->cG,run->mH,run_ite->mE
open List renaming map_append->c8,map_cons->eW,map_nil->Av,mem_append->a_,mem_map->cO,mem_singleton->aX,mem_append_left->bU,mem_append_right->bK,getElem?_append_left->dr,getElem?_append_right->cX,length_append->bW,eq_nil_of_length_eq_zero->fV,mem_of_getElem?->aP,length_map->bN,getElem?_eq_some_iff->aT,mem_cons->cz,getElem?_of_mem->bX,getElem_mem->bC,map_toArray->Cj,mem_cons_self->dA,mem_cons_of_mem->cU,not_mem_nil->rH,getElem?_cons_succ->dD,mem_flatMap->bG,length_eq_one_iff->gG,getElem?_cons_zero->rG,flatMap_cons->wX,nodup_append->dY,getElem?_map->bF,nodup_cons->jY,getD_eq_getElem?_getD->cL,nil_append->gi,all_eq_true->bu,map_map->lH,append_nil->dN,cons_append->Ar,length_singleton->bB,head?_drop->X1,range'->lI,length_cons->cY,getElem?_eq_none->km,append_assoc->ch,take_append_of_le_length->B4,take_length->g8,singleton_append->tM,length_nil->jo,getElem?_take->dR,countP_cons->kR,range->cJ,range_eq_range'->PC,find?_eq_none->Uh,length_set->cm,mem_or_eq_of_mem_set->je,mem_filter->dt,mapM_cons->Uj,getD_cons_succ->uG
open List.cons renaming injEq->X0
open Nat renaming lt_of_lt_of_le->ig,mul_le_mul_right->bY,add_mul->c7,add_assoc->lB,eq_of_beq_eq_true->aR,le_refl->cu,zero_le->bz,div_lt_iff_lt_mul->wJ,mod_lt->B6,div_add_mod->Ic,mul_comm->C5,zero_add->bT,add_comm->iN,beq->bn,le_of_ble_eq_true->cD,add_zero->wY,blt->pO,blt_eq->zn,lt_or_ge->ql,le_trans->c6,ble_eq_true_of_le->IG,ble->e9,sub_zero->Cm
open Option renaming some->ah,none->aj,getD_some->wZ
open Option.some renaming inj->aD,injEq->jg
open Prod.mk renaming inj->bS,injEq->iU
open _root_ renaming Nat->aE,Bool->aW,List->ay,if_pos->bw,if_neg->bH,absurd->cE,Array->c_,Int->az,decide_eq_true_eq->bc,Option->aC,cond_true->au,cond_false->aA,decide_eq_true->aF,decide_eq_false->aK,of_decide_eq_true->cg,congrArg->kX
namespace Go.FG
section
variable {P:cM} {E:fm} {σ:St} {a:Act} {w:bD} {c:eJ} {o:eV} {nm:aE} {e:rW}
structure Iy (E:fm) (σ:St) (w:bD) (c:eJ) (te:TI) (v:bf) (B9:aW) (xs:aU) (b:ay aE) (p:Pl) (g:aE->aE->Pl):Prop where
 v:v=kY p
 sz:p.sz=te.ks.length
 sh:∀y∈xs,y.map CV.kd=te.ks
 at_:iP w p xs (λi j u x=>if B9=ai then XC E w g i j u x else cT E w c.K u x)
 inn:B9=ai->D3 p g xs
 own:p.nil=ak->∃nm ob,nm∈b/\σ (cR nm)= .o ob/\e8 c nm ob p.blk
 owni:B9=ai->∀i j,fP xs i j->(g i j).nil=ak->∃nm ob,nm∈b/\σ (cR nm)= .o ob/\e8 c nm ob (g i j).blk
 kn:∀nm∈b,∃ob,σ (cR nm)= .o ob
def K1(σ:St)(c:eJ)(D:ay (aE×Obj))(q:aE):Prop:=c.K q\/∃n e xs ob,(n,Obj.fE e xs)∈D/\σ (cR n)= .o ob/\e8 c n ob q
structure qz (E:fm) (σ:St) (w:bD) (c:eJ) (te:TI) (b:ay aE) (zD:aW) (ys:aU) (D:ay (aE×Obj)) (news:ay bf) (gx:aE->aE->Pl):Prop where
 sh:∀y∈ys,y.map CV.kd=te.ks
 cellX:zD=ai->∀(i:aE) (y:ay CV) (j:aE) (x:CV),ys[i]? =ah y->y[j]? =ah x->∃u:bf,news[i*te.ks.length+j]? =ah u/\XC E w gx i j u x
 cellH:zD=ak->∀(i:aE) (y:ay CV) (j:aE) (x:CV),ys[i]? =ah y->y[j]? =ah x->∃u:bf,news[i*te.ks.length+j]? =ah u/\cT E w (K1 σ c D) u x
 own:zD=ai->∀i j,fP ys i j->(gx i j).nil=ak->∃n ob,(n,Obj.dead)∈D/\σ (cR n)= .o ob/\e8 c n ob (gx i j).blk
 one:zD=ai->∀i j i' j',fP ys i j->fP ys i' j'->(gx i j).nil=ak->(gx i' j').nil=ak->(gx i j).blk=(gx i' j').blk->i=i'/\j=j'
 D:∀n x,(n,x)∈D->n∉b/\(∃ob,σ (cR n)= .o ob)/\(x= .dead\/(zD=ak/\∃e xs,x= .fE e xs/\cT E w (K1 σ c D) (kY (c.P n)) (.l e xs)/\(c.P n).n=xs.length/\∃ti,E.ty e=ah ti/\(c.P n).sz=ti.ks.length))
theorem Du(b7:Ok E σ w c)(dp:eS E σ a w c)(hd:∀d,o.dst=ah d->d<a.tmps.size){sH el:aE}{te:TI}(ht:E.ty el=ah te)(hf:σ (cR sH)= .jq)(jt:sH<900000000)
  {v:bf} {B9 zD:aW} {xs ys:aU} {b:ay aE} {p p':Pl} {g gx:aE->aE->Pl} {D2:ay (aE×Obj)} {news:ay bf} {w':bD}
  (hB:Iy E σ w c te v B9 xs b p g) (hM:qz E σ w c te b zD ys D2 news gx) (hA:aaT w w' p p' ys.length news) (hr:(execOp a.eval o).run P w= .ok (.value (kY p')) w'):
  gC P E σ a w c o (nJ b++(jJ D2++[(cR sH,eA.o (.row el (B9&&zD) (xs++ys)))])++dw o (.v ak [.own sH])):=by
 have ab3:(B9&&zD)=ai->B9=ai/\zD=true:=λh=>by simpa using h
 generalize ab2:(B9&&zD)=MO at ab3;let D:ay (aE×Obj):=Di b++(D2++[(sH, .row el MO (xs++ys))])
 have hD:nJ b++(jJ D2++[(cR sH,eA.o (.row el MO (xs++ys)))])=jJ D:=by rw[AX];simp only[D,jJ,c8,eW,Av]
 rw[hD];have mem:∀m x,(m,x)∈D->(m∈b/\x= .dead)\/(m,x)∈D2\/(m=sH/\x= .row el MO (xs++ys)):=by
  intro m x hm;rcases a_.1 hm with hm|hm
  ·obtain⟨q,hq,h⟩:=cO.1 hm;cases h;exact .inl ⟨hq,rfl⟩
  ·rcases a_.1 hm with hm|hm
   ·exact .inr (.inl hm)
   ·rw[aX]at hm;cases hm;exact .inr (.inr ⟨rfl,rfl⟩)
 have Lj:∀m,m∈b->tG D m:=λm hm=>⟨.dead,bU _ (cO.2 ⟨m,hm,rfl⟩)⟩
 have Qn:∀m x,(m,x)∈D2->tG D m:=λm x hm=>⟨x,bK _ (bU _ hm)⟩
 have afC:tG D sH:=⟨_,bK _ (bK _ (aX.2 rfl))⟩
 have F1:p'.nil=ak->p'.blk=w.heap.size\/∃m ob,m∈b/\σ (cR m)= .o ob/\e8 c m ob p'.blk:=by
  intro hn;rcases hA.blk hn with ⟨h1,h2⟩|h
  ·rw[h2];exact .inr (hB.own h1)
  ·exact .inl h
 have Dne:∀n x ob q,(n,x)∈D2->σ (cR n)= .o ob->e8 c n ob q->¬(p'.nil=ak/\q=p'.blk):=by
  rintro n x ob q hx mh pd ⟨hn,rfl⟩;have U4:=uJ.lt b7 ⟨n,ob,mh,pd⟩;rcases F1 hn with h|⟨m,ob',h1,h2,h3⟩
  ·omega
  ·have:=b7.sep n ob m ob' _ mh h2 pd h3;subst this;exact(hM.D n x hx).1 h1
 have Kne:∀q,c.K q->¬(p'.nil=ak/\q=p'.blk):=by
  rintro q hq ⟨hn,rfl⟩;have U4:=b7.lt _ hq;rcases F1 hn with h|⟨m,ob',h1,h2,h3⟩
  ·omega
  ·exact b7.kk m ob' _ h2 h3 hq
 have Gne:B9=ai->∀i j,fP xs i j->(g i j).nil=ak->¬(p'.nil=ak/\(g i j).blk=p'.blk):=by
  rintro hx i j hh hn ⟨j5,he⟩;obtain⟨m,ob,q1,q2,q3⟩:=hB.owni hx i j hh hn;have U4:=uJ.lt b7 ⟨m,ob,q2,q3⟩;rcases hA.blk j5 with ⟨h1,h2⟩|h
  ·exact(hB.inn hx).out i j hh hn h1 (he.trans h2)
  ·omega
 let K':aE->Prop:=λq=>c.K q\/(MO=ak/\jA (tG D) σ c q/\¬(p'.nil=ak/\q=p'.blk))
 have afg:∀q,K' q->q<w.heap.size:=by
  rintro q (h|⟨_,h,_⟩)
  ·exact b7.lt q h
  ·exact uJ.lt b7 h.own
 have afh:∀q,K' q->¬(p'.nil=ak/\q=p'.blk):=by
  rintro q (h|⟨_,_,h⟩)
  ·exact Kne q h
  ·exact h
 have F3:∀q,K' q->w'.heap[q]? =w.heap[q]? :=λq hq=>hA.old q (afg q hq) (λhn he=>afh q hq ⟨hn,he⟩);have F4:MO=ak->∀q,K1 σ c D2 q->K' q:=by
  rintro hR q (h|⟨n,e',zs,ob,h1,h2,h3⟩)
  ·exact .inl h
  ·exact .inr ⟨hR,⟨n,ob,Qn n _ h1,h2,h3⟩,Dne n _ ob q h1 h2 h3⟩
 have F5:MO=ak->B9=ai->∀i j,fP xs i j->(g i j).nil=ak->K' (g i j).blk:=by intro hR hx i j hh hn;obtain⟨m,ob,q1,q2,q3⟩:=hB.owni hx i j hh hn;exact .inr ⟨hR,⟨m,ob,Lj m q1,q2,q3⟩,Gne hx i j hh hn⟩
 have F6:MO=ak->zD=ai->∀i j,fP ys i j->(gx i j).nil=ak->K' (gx i j).blk:=by intro hR hx i j hh hn;obtain⟨n,ob,q1,q2,q3⟩:=hM.own hx i j hh hn;exact .inr ⟨hR,⟨n,ob,Qn n _ q1,q2,q3⟩,Dne n _ ob _ q1 q2 q3⟩
 let G':aE->aE->Pl:=λi j=>if i<xs.length then g i j else gx (i-xs.length) j
 have G'l:∀i j,i<xs.length->G' i j=g i j:=λi j h=>bw h;have G'r:∀i j,¬i<xs.length->G' i j=gx (i-xs.length) j:=λi j h=>bH h;have QK:∀i j,i<xs.length->fP (xs++ys) i j->fP xs i j:=by rintro i j hi ⟨y,x,h1,h2,h3⟩;rw[dr hi]at h1;exact⟨y,x,h1,h2,h3⟩
 have Vk:∀i j,¬i<xs.length->fP (xs++ys) i j->fP ys (i-xs.length) j:=by rintro i j hi ⟨y,x,h1,h2,h3⟩;rw[cX (by omega)]at h1;exact⟨y,x,h1,h2,h3⟩
 let c':eJ:=⟨λm=>if m=sH then p' else c.P m,λm=>if m=sH then G' else c.G m,K'⟩
 have hP:c'.P sH=p':=bw rfl;have hG:c'.G sH=G':=bw rfl;have hAg:ji σ c c':=λm hm=>by
  have:m≠sH:=by rintro rfl;rcases hm with h|h;exact h hf;omega
  exact⟨bH this,bH this⟩
 have agi:MO=ai->∀i j,fP (xs++ys) i j->(G' i j).nil=ak->¬(p'.nil=ak/\(G' i j).blk=p'.blk)/\jA (tG D) σ c (G' i j).blk:=by
  intro hR i j hh hn;obtain⟨r1,r2⟩:=ab3 hR;by_cases hi:i<xs.length
  ·rw[G'l i j hi]at hn⊢;obtain⟨m,ob,q1,q2,q3⟩:=hB.owni r1 i j (QK i j hi hh) hn;exact⟨Gne r1 i j (QK i j hi hh) hn,m,ob,Lj m q1,q2,q3⟩
  ·rw[G'r i j hi]at hn⊢;obtain⟨n,ob,q1,q2,q3⟩:=hM.own r2 _ j (Vk i j hi hh) hn;exact⟨Dne n _ ob _ q1 q2 q3,n,ob,Qn n _ q1,q2,q3⟩
 have hlen:∀y∈xs++ys,y.map CV.kd=te.ks:=λy hy=>(a_.1 hy).elim (hB.sh y) (hM.sh y);refine Jr b7 dp hd (D:=D) (c':=c') (w':=w') hAg ?_ ?_ ?_ ?_ (λq h=> .inl h) ?_ (λq hq=>ig (afg q hq) hA.size) ?_ hA.size hA.os hA.tape hA.output ?_ ?_ hr
 ·intro m x hm;rcases mem m x hm with ⟨_,rfl⟩|Qu|⟨rfl,rfl⟩
  ·trivial
  ·obtain⟨_,⟨ob,mh⟩,hx⟩:=hM.D m x Qu;rcases hx with rfl|⟨JC,e',zs,rfl,q1,q2,q3⟩
   ·trivial
   ·have hR:MO=false:=by rw[<-ab2,JC];simp
    obtain⟨a1,a2⟩:=hAg m (.inl (by rw[mh];simp));show cT E w' K' (kY (c'.P m)) _/\(c'.P m).n=_/\_;rw[a1];exact⟨q1.frame (λq hq=>F3 q (F4 hR q hq)) (F4 hR),q2,q3⟩
  ·refine⟨⟨te,ht,by rw[hP,hA.sz];exact hB.sz,hlen⟩, ?_,λhR=> ?_⟩
   ·rw[hP,hG];refine⟨by rw[hA.n,hB.at_.n,bW],λhn=> ?_,λhn=> ?_⟩
    ·obtain⟨n1,n2,n3⟩:=hA.nil hn;refine⟨?_,n1⟩
     have e1:xs.length=0:=by rw[<-hB.at_.n];exact n2
     rw[fV e1,fV n3];rfl
    ·obtain⟨iQ,m1,m2,m3,m4,m5,m6⟩:=hA.mem hn;refine⟨iQ,m1,m2,m3,m4,λi y j x hy hx=> ?_⟩
     have hj:j<te.ks.length:=by rw[<-hlen y (aP hy),bN];exact(aT.1 hx).1
     by_cases hi:i<xs.length
     ·rw[dr hi]at hy;have hpn:p.nil=false:=by
       cases hq:p.nil with
       |false=>rfl
       |true=>have:=(hB.at_.nil hq).1;subst this;simp at hi
      obtain⟨vals,k1,k2,k3,k4,k5⟩:=hB.at_.mem hpn;obtain⟨u,hu,hR⟩:=k5 i y j x hy hx;have hk:i*p.sz+j<p.n*p.sz:=by have:(i+1)*p.sz<=p.n*p.sz:=bY _ (by rw[hB.at_.n];exact hi);rw[c7]at this;rw[hB.sz]at this⊢;omega
      refine⟨u, ?_, ?_⟩
      ·rw[hA.sz,lB];refine m5 _ u hk ?_;rw[k1.cell,<-lB];exact hu
      ·cases hxb:B9 with
       |true=>
        rw[hxb,bw rfl]at hR;cases Ve:MO with
        |true=>
         rw[bw rfl];have TR:XC E w' g i j u x:=hR.frame (λhl j5=>hA.old _ (by obtain⟨m,ob,_,q2,q3⟩:=hB.owni hxb i j ⟨y,x,hy,hx,hl⟩ j5;exact uJ.lt b7 ⟨m,ob,q2,q3⟩) (λacf he=>Gne hxb i j ⟨y,x,hy,hx,hl⟩ j5 ⟨acf,he⟩));cases x with
         |l e1 z1=>simpa only[XC,G'l i j hi]using TR
         |_=>exact TR
        |false=>rw[bH (by simp)];have:=sW (K:=K') hR (λhl j5=>F5 Ve hxb i j ⟨y,x,hy,hx,hl⟩ j5);exact this.frame F3 (λ_ h=>h)
       |false=>
        have Ve:MO=false:=by rw[<-ab2,hxb];rfl
        rw[hxb,bH (by simp)]at hR;rw[Ve,bH (by simp)];exact hR.frame (λq hq=>F3 q (.inl hq)) (λq hq=> .inl hq)
     ·rw[cX (by omega)]at hy;have Fc:i-xs.length<ys.length:=(aT.1 hy).1;have hk:(i-xs.length)*p.sz+j<ys.length*p.sz:=by have:(i-xs.length+1)*p.sz<=ys.length*p.sz:=bY _ Fc;rw[c7]at this;rw[hB.sz]at this⊢;omega
      have anJ:p'.off+i*p'.sz+j=p'.off+p.n*p.sz+((i-xs.length)*p.sz+j):=by
       rw[hA.sz,hB.at_.n];have:i*p.sz=xs.length*p.sz+(i-xs.length)*p.sz:=by rw[<-c7];congr 1;omega
       omega
      have got:∀u,news[(i-xs.length)*te.ks.length+j]? =ah u->iQ[p'.off+i*p'.sz+j]? =ah u:=λu hu=>by rw[anJ,m6 _ hk,hB.sz];exact hu
      cases JC:zD with
      |true=>
       obtain⟨u,hu,hX⟩:=hM.cellX JC _ y j x hy hx;refine⟨u,got u hu, ?_⟩
       cases Ve:MO with
       |true=>
        rw[bw rfl];have TR:XC E w' gx (i-xs.length) j u x:=hX.frame (λhl j5=>hA.old _ (by obtain⟨n,ob,_,q2,q3⟩:=hM.own JC _ j ⟨y,x,hy,hx,hl⟩ j5;exact uJ.lt b7 ⟨n,ob,q2,q3⟩) (λacf he=>by obtain⟨n,ob,q1,q2,q3⟩:=hM.own JC _ j ⟨y,x,hy,hx,hl⟩ j5;exact Dne n _ ob _ q1 q2 q3 ⟨acf,he⟩));cases x with
        |l e1 z1=>simpa only[XC,G'r i j hi]using TR
        |_=>exact TR
       |false=>rw[bH (by simp)];have:=sW (K:=K') hX (λhl j5=>F6 Ve JC _ j ⟨y,x,hy,hx,hl⟩ j5);exact this.frame F3 (λ_ h=>h)
      |false=>
       have Ve:MO=false:=by rw[<-ab2,JC];simp
       obtain⟨u,hu,hH⟩:=hM.cellH JC _ y j x hy hx;refine⟨u,got u hu, ?_⟩
       rw[Ve,bH (by simp)];exact hH.frame (λq hq=>F3 q (F4 Ve q hq)) (F4 Ve)
   ·rw[hP,hG];refine⟨λi j hh hn hpn he=>(agi hR i j hh hn).1 ⟨hpn,he⟩,λi j i' j' hh vk hn j5 he=> ?_⟩
    obtain⟨r1,r2⟩:=ab3 hR;have X8:∀i j i' j',i<xs.length->¬i'<xs.length->fP (xs++ys) i j->fP (xs++ys) i' j'->(G' i j).nil=ak->(G' i' j').nil=ak->(G' i j).blk≠(G' i' j').blk:=by intro i j i' j' hi kZ hh vk hn j5 he;rw[G'l i j hi]at hn he;rw[G'r i' j' kZ]at j5 he;obtain⟨m,ob,q1,q2,q3⟩:=hB.owni r1 i j (QK i j hi hh) hn;obtain⟨n,ob',s1,s2,s3⟩:=hM.own r2 _ j' (Vk i' j' kZ vk) j5;rw[he]at q3;have:=b7.sep m ob n ob' _ q2 s2 q3 s3;subst this;exact(hM.D m _ s1).1 q1
    by_cases hi:i<xs.length
    ·by_cases kZ:i'<xs.length
     ·rw[G'l i j hi]at hn he;rw[G'l i' j' kZ]at j5 he;exact(hB.inn r1).one i j i' j' (QK i j hi hh) (QK i' j' kZ vk) hn j5 he
     ·exact cE he (X8 i j i' j' hi kZ hh vk hn j5)
    ·by_cases kZ:i'<xs.length
     ·exact cE he.symm (X8 i' j' i j kZ hi vk hh j5 hn)
     ·rw[G'r i j hi]at hn he;rw[G'r i' j' kZ]at j5 he;have:=hM.one r2 _ j _ j' (Vk i j hi hh) (Vk i' j' kZ vk) hn j5 he;exact⟨by omega,this.2⟩
 ·intro m x q hm pd;rcases mem m x hm with ⟨_,rfl⟩|Qu|⟨rfl,rfl⟩
  ·exact pd.elim
  ·obtain⟨_,_,hx⟩:=hM.D m x Qu;rcases hx with rfl|⟨_,e',zs,rfl,_⟩
   ·exact pd.elim
   ·exact pd.elim
  ·rcases pd with ⟨hn,rfl⟩|⟨hR,i,j,hh,hn,rfl⟩
   ·rw[hP]at hn⊢;refine⟨?_,λhk=>afh _ hk ⟨hn,rfl⟩⟩
    rcases F1 hn with h|⟨m,ob,h1,h2,h3⟩
    ·right;omega
    ·exact .inl ⟨m,ob,Lj m h1,h2,h3⟩
   ·rw[hG]at hn⊢;obtain⟨q1,q2⟩:=agi hR i j hh hn;refine⟨.inl q2, ?_⟩
    rintro (h|⟨h,_⟩)
    ·exact b7.Fp q2.own h
    ·rw[hR]at h;cases h
 ·intro m x m' x' q hm uZ pd Qr;have only:∀m x,(m,x)∈D->e8 c' m x q->m=sH:=by
   intro m x hm pd;rcases mem m x hm with ⟨_,rfl⟩|Qu|⟨rfl,rfl⟩
   ·exact pd.elim
   ·obtain⟨_,_,hx⟩:=hM.D m x Qu;rcases hx with rfl|⟨_,e',zs,rfl,_⟩
    ·exact pd.elim
    ·exact pd.elim
   ·rfl
  rw[only m x hm pd,only m' x' uZ Qr]
 ·intro m zs hm;rcases mem m _ hm with ⟨_,h⟩|Qu|⟨_,h⟩
  ·cases h
  ·obtain⟨_,_,hx⟩:=hM.D m _ Qu;rcases hx with h|⟨_,e',zs,h,_⟩<;>cases h
  ·cases h
 ·rintro q (h|⟨_,h,_⟩)
  ·exact .inl h
  ·exact .inr (.inl h)
 ·intro q hq Qw;refine hA.old q hq (λhn he=>Qw ?_);rcases F1 hn with h|⟨m,ob,h1,h2,h3⟩
  ·omega
  ·rw[he];exact⟨m,ob,Lj m h1,h2,h3⟩
 ·show _=kY (c'.P sH);rw[hP]
 ·intro m hm;have:m=sH:=by simpa [cw,bE]using hm
  subst this;exact .inr afC
end
end Go.FG

namespace Go.FG
theorem Ht:∀{l:ay aE} {n:aE},n∈l->lX n l=true:=by
 intro l;induction l with
 |nil=>intro n h;cases h
 |cons m r ih=>
  intro n h;rcases cz.1 h with rfl|h
  ·simp[lX]
  ·simp only[lX,ih h,Iz]
theorem pI{l:ay aE}{n:aE}(h:lX n l=ak):n∉l:=λhm=>by rw[Ht hm]at h;cases h
theorem cT.one{E:fm}{w:bD}{K:aE->Prop}{u:bf}{x:CV}(h:cT E w K u x):u.oneCell'=true:=by cases h<;>rfl
theorem UZ(p:Pl):(kY p).oneCell'=true:=by unfold kY;split<;>rfl
theorem XC.one{E:fm}{w:bD}{G:aE->aE->Pl}{i j:aE}{u:bf}{x:CV}(h:XC E w G i j u x):u.oneCell'=true:=by
 cases x with
 |l e ys=>rw[h.1];exact UZ _
 |i=>rw[show u=_ from h.1];rfl
 |b=>rw[show u=_ from h.1];rfl
 |s=>rw[show u=_ from h.1];rfl
theorem HV{x:CV}:(NK x).oneCell'=true:=by cases x<;>rfl
theorem vL{α:Type}{b:aW}{x y:Rd α}(h:b=ai):(bif b then x else y)=x:=by rw[h];rfl
theorem Dg{α:Type}{b:aW}{x y:Rd α}(h:b=ak):(bif b then x else y)=y:=by rw[h];rfl
theorem rQ{α β γ:Type}{σ:St}{a x:α}{b y:β}{c z:γ}(h:(Rd.ret (a,b,c)).val σ=ah (x,y,z)):a=x/\b=y/\c=z:=by obtain⟨h1,h2⟩:=bS (aD h);obtain⟨h2,h3⟩:=bS h2;exact⟨h1,h2,h3⟩
section
variable {P:cM} {E:fm} {σ:St} {a:Act} {w:bD} {c:eJ} {o:eV} {nm:aE} {e:rW}
theorem AO(b7:Ok E σ w c){el:aE}{te:TI}(ht:E.ty el=ah te){s:AV}{v:bf}(hs:ea E w c s v){B9:aW}{xs:aU}{b:ay aE}(h:(vK el s).val σ=ah (B9,xs,b)):
  ∃p g,Iy E σ w c te v B9 xs b p g:=by
 have agG:∀b,(∀m∈b,∃ob,σ (cR m)= .o ob)->v= .slice aj 0 0->∀B9,Iy E σ w c te v B9 [] b ⟨ai,0,0,0,0,te.ks.length⟩ (JL E te.ks):=λb hb hv B9=>
  ⟨hv,rfl,λy hy=>(by cases hy),⟨rfl,λ_=>⟨rfl,rfl⟩,λh=>(by cases h)⟩,λ_=>u5 (λ_ _=>rfl),λh=>(by cases h),λ_ i j ⟨y,x,h,_⟩=>(by simp at h),hb⟩
 cases s with
 |nl=>obtain⟨rfl,rfl,rfl⟩:=rQ h;exact⟨_,_,agG [] (λm hm=>by cases hm) hs ai⟩
 |own n=>
  obtain⟨ob,hg,h⟩:=Rd.bind_some h;have hg:=c9 hg;cases ob with
  |row e' ex ys=>obtain⟨h1,h9⟩:=cy h;have:=aR h1;subst this;have h:=h9;obtain⟨rfl,rfl,rfl⟩:=rQ h;obtain⟨⟨t2,q1,q2,q3⟩,q4,q5⟩:=b7.obj n _ hg;obtain rfl:te=t2:=aD (ht.symm.trans q1);exact⟨c.P n,c.G n,hs,q2,q3,q4,q5,λhn=>⟨n,_,by simp,hg, .inl ⟨hn,rfl⟩⟩,λhx i j hh hn=>⟨n,_,by simp,hg, .inr ⟨hx,i,j,hh,hn,rfl⟩⟩,λm hm=>by rw[aX]at hm;subst hm;exact⟨_,hg⟩⟩
  |_=>simp at h
 |vw n lo hi=>
  obtain⟨ob,hg,h⟩:=Rd.bind_some h;have hg:=c9 hg;cases ob with
  |row e' ex ys=>
   obtain⟨h1,h9⟩:=cy h;have:=aR h1;subst this;have h:=h9;obtain⟨rfl,rfl,rfl⟩:=rQ h;obtain⟨⟨t2,q1,q2,q3⟩,q4,q5⟩:=b7.obj n _ hg;obtain rfl:te=t2:=aD (ht.symm.trans q1);obtain⟨v1,v2,v3,v4⟩:=hs;have hle:hi<=ys.length:=by rw[<-q4.n];exact v2
   have hvl:=lP (xs:=ys) (lo:=lo) hle;have hb:∀m∈[n],∃ob,σ (cR m)= .o ob:=λm hm=>by rw[aX]at hm;subst hm;exact⟨_,hg⟩
   cases hq:(c.P n).nil with
   |true=>
    have hy:=(q4.nil hq).1;subst hy;have N5:eu ([]:aU) lo hi=[]:=by unfold eu;simp
    rw[N5];exact⟨_,_,agG [n] hb (v3 hq) ex⟩
   |false=>
    obtain⟨vals,k1,k2,k3,k4,k5⟩:=q4.mem hq;rcases v4 hq with ⟨u1,hv⟩|⟨u1,oo,u2,hv⟩
    ·have Vj:∀i j,fP (eu ys lo hi) i j->fP ys (lo+i) j:=by
      rintro i j ⟨y,x,h1,h2,h3⟩;rw[sU]at h1;split at h1
      ·exact⟨y,x,h1,h2,h3⟩
      ·cases h1
     refine⟨⟨ak,(c.P n).blk,(c.P n).off+lo*(c.P n).sz,(c.P n).cap-lo,hi-lo,(c.P n).sz⟩,λi j=>c.G n (lo+i) j,hv,q2,λy hy=>q3 y (Bm hy),⟨hvl.symm,λh=>(by cases h),λ_=>⟨vals,k1,by show hi-lo<=(c.P n).cap-lo;omega,by show(c.P n).cap-lo<=maxLen;omega, ?_,λi y j x h1 h2=> ?_⟩⟩,λhx=>⟨λi j hh hn _=>(q5 hx).out _ j (Vj i j hh) hn hq,λi j i' j' hh vk hn j5 he=> ?_⟩,λ_=>⟨n,_,by simp,hg, .inl ⟨hq,rfl⟩⟩,λhx i j hh hn=>⟨n,_,by simp,hg, .inr ⟨hx,lo+i,j,Vj i j hh,hn,rfl⟩⟩,hb⟩
     ·show(c.P n).off+lo*(c.P n).sz+((c.P n).cap-lo)*(c.P n).sz<=vals.size;have:lo*(c.P n).sz+((c.P n).cap-lo)*(c.P n).sz=(c.P n).cap*(c.P n).sz:=by rw[<-c7];congr 1;omega
      omega
     ·rw[sU]at h1;split at h1
      ·obtain⟨u,hu,hr⟩:=k5 (lo+i) y j x h1 h2;refine⟨u, ?_, ?_⟩
       ·show vals[(c.P n).off+lo*(c.P n).sz+i*(c.P n).sz+j]? =ah u;rw[<-hu];congr 1;rw[c7];omega
       ·split at hr
        ·rename_i hx;rw[bw hx];cases x with
         |l e1 z1=>exact hr
         |_=>exact hr
        ·rename_i hx;rw[bH hx];exact hr
      ·cases h1
     ·have:=(q5 hx).one _ j _ j' (Vj i j hh) (Vj i' j' vk) hn j5 he;exact⟨by omega,this.2⟩
    ·have h0:hi-lo=0:=by omega
     have N5:eu ys lo hi=[]:=fV (hvl.trans h0);rw[N5];exact⟨⟨ak,(c.P n).blk,oo,0,0,(c.P n).sz⟩,JL E te.ks,hv,q2,λy hy=>(by cases hy),⟨rfl,λh=>(by cases h),λ_=>⟨vals,k1,cu _,bz _,by show oo+0*(c.P n).sz<=vals.size;rw[Nat.zero_mul];omega,λi y j x h=>(by simp at h)⟩⟩,λ_=>u5 (λ_ _=>rfl),λ_=>⟨n,_,by simp,hg, .inl ⟨hq,rfl⟩⟩,λ_ i j ⟨y,x,h,_⟩=>(by simp at h),hb⟩
  |_=>simp at h
 |_=>simp[vK]at h
theorem qI{u:aE}(hu:(∃e',P.underlying u=ah (.slice e'))\/P.underlying u=ah .string){z:c_ bf}{v:bf}{ys:aU}{ks:ay Ck}(kC:0<ks.length){R:aE->aE->bf->CV->Prop}(hs:nH w v ys ks.length R)(lj:∀y∈ys,y.map CV.kd=ks)(h1:∀i j u x,R i j u x->u.oneCell'=ai):
  ∃news,App P w u v z ks.length ys.length news/\∀(i:aE) (y:ay CV) (j:aE) (x:CV),ys[i]? =ah y->y[j]? =ah x->∃u:bf,news[i*ks.length+j]? =ah u/\R i j u x:=by
 have hl:∀y∈ys,y.length=ks.length:=λy hy=>by rw[<-lj y hy];simp
 obtain⟨A,cp,news,rfl,n1,n2,n3⟩:=hs.list hl;have first:∀W:bD,(∀q,W.cell? q=w.cell? q)->(eU ks.length ys.length (.slice A ys.length cp)).run P W= .ok news.toArray W:=by
  intro W hW;rcases n2 with h|⟨b,oo,rfl,h⟩
  ·subst h;have hn:news=[]:=fV (by rw[n1];simp);subst hn;cases A with
   |none=>exact run_firstCells_none _ _ _ _ _
   |some a=>exact run_firstCells_some W ks.length 0 a _ _ [] (by simp) (λj v hj=>by simp at hj)
  ·exact run_firstCells_some W ks.length ys.length _ _ _ news n1 (λj v hj=>by rw[hW,Addr.mK];exact h j v hj)
 refine⟨news,⟨.inl ⟨hu,by simp[oO],first w (λ_=>rfl),first w.drew (λ_=>rfl)⟩,n1,λv hv=> ?_⟩,n3⟩
 obtain⟨q,hq⟩:=bX hv;have U4:q<ys.length*ks.length:=by rw[<-n1];exact(aT.1 hq).1
 have hi:q/ks.length<ys.length:=by rw[wJ kC];exact U4
 have hj:q%ks.length<ys[q/ks.length].length:=by rw[hl _ (bC hi)];exact B6 _ kC
 obtain⟨u',rA,hr⟩:=n3 (q/ks.length) ys[q/ks.length] (q%ks.length) (ys[q/ks.length][q%ks.length]) (by simp[hi]) (by simp[hj]);have:q/ks.length*ks.length+q%ks.length=q:=by have:=Ic q ks.length;rw[C5]at this;exact this
 rw[this,hq]at rA;cases rA;exact h1 _ _ _ _ hr
theorem Ra(hE:d_ P E)(b7:Ok E σ w c){sH el:aE}{te:TI}(ht:E.ty el=ah te)(kC:0<te.ks.length){u:aE}(hu:(∃e',P.underlying u=ah (.slice e'))\/P.underlying u=ah .string){z:c_ bf}{b:ay aE}{x:AV}{v:bf}(hx:ea E w c x v)
  {zD:aW} {ys:aU} {w2:ay (aE×eA)} (h:(Q_ E sH el te.ks b x).val σ=ah (zD,ys,w2)):
  ∃D news gx,w2=jJ D/\App P w u v z te.ks.length ys.length news/\qz E σ w c te b zD ys D news gx:=by
 have inK:∀D q,c.K q->K1 σ c D q:=λD q h=> .inl h;have PL:plain te.ks=ai->∀ys,nH w v ys te.ks.length (λ_ _ u x=>Sc u x)->(∀y∈ys,y.map CV.kd=te.ks)->∃D news gx,([]:ay (aE×eA))=jJ D/\App P w u v z te.ks.length ys.length news/\qz E σ w c te b ai ys D news gx:=by
  intro hp ys hs lj;obtain⟨news,n1,n2⟩:=qI (P:=P) (z:=z) hu kC hs lj (λi j u x hr=>by rw[hr.1];exact HV);refine⟨[],news,λ_ _=>⟨ai,0,0,0,0,0⟩,rfl,n1,lj,λ_ i y j x hy hx=> ?_,λh=>(by cases h),λ_ i j _ hn=>(by cases hn),λ_ i j _ _ _ _ hn=>(by cases hn),λn x hn=>(by cases hn)⟩
  obtain⟨u,hu,hr⟩:=n2 i y j x hy hx;exact⟨_,hu,tB (gJ hp (lj y (aP hy)) hx) hr⟩
 have PLr:plain te.ks=ai->∀ys,(lS E x).val σ=ah (el,ys)->∃D news gx,([]:ay (aE×eA))=jJ D/\App P w u v z te.ks.length ys.length news/\qz E σ w c te b ai ys D news gx:=by intro hp ys hr;obtain⟨q1,q2,_⟩:=zf b7 hx hr ht hp;exact PL hp ys q1 q2
 have SH:∀ys,nH w v ys te.ks.length (λ_ _ u x=>cT E w c.K u x)->(∀y∈ys,y.map CV.kd=te.ks)->∃D news gx,([]:ay (aE×eA))=jJ D/\App P w u v z te.ks.length ys.length news/\qz E σ w c te b ak ys D news gx:=by
  intro ys hs lj;obtain⟨news,n1,n2⟩:=qI (P:=P) (z:=z) hu kC hs lj (λi j u x hr=>hr.one);refine⟨[],news,λ_ _=>⟨ai,0,0,0,0,0⟩,rfl,n1,lj,λh=>(by cases h),λ_ i y j x hy hx=> ?_,λh=>(by cases h),λh=>(by cases h),λn x hn=>(by cases hn)⟩
  obtain⟨u,hu,hr⟩:=n2 i y j x hy hx;exact⟨_,hu,hr.frame (λ_ _=>rfl) (inK [])⟩
 have SHv:∀ys,cT E w c.K v (.l el ys)->∃D news gx,([]:ay (aE×eA))=jJ D/\App P w u v z te.ks.length ys.length news/\qz E σ w c te b ak ys D news gx:=by intro ys hh;obtain⟨q1,q2⟩:=yG ht hh;exact SH ys q1 q2
 have HP:∀ys,cT E w c.K v (.l el ys)->(lS E x).val σ=ah (el,ys)->∃D news gx,([]:ay (aE×eA))=jJ D/\App P w u v z te.ks.length ys.length news/\qz E σ w c te b (plain te.ks) ys D news gx:=by
  intro ys hh hr;cases hp:plain te.ks with
  |true=>exact PLr hp ys hr
  |false=>exact SHv ys hh
 have FZ:∀n xs lo hi,σ (cR n)= .o (.row el ai xs)->n∉b->uT (c.P n) lo hi v->∃D news gx,[(cR n,eA.o (.fE el xs))]=jJ D/\App P w u v z te.ks.length (eu xs lo hi).length news/\qz E σ w c te b ak (eu xs lo hi) D news gx:=by
  intro n xs lo hi hg Hg hv;obtain⟨⟨t2,q1,q2,q3⟩,q4,q5⟩:=b7.obj n _ hg;obtain rfl:te=t2:=aD (ht.symm.trans q1);obtain⟨t3,r1,r2,r3⟩:=wj b7 hg hv;obtain rfl:te=t3:=aD (ht.symm.trans r1);let D:ay (aE×Obj):=[(n, .fE el xs)]
  have kin:∀i j,fP xs i j->(c.G n i j).nil=ak->K1 σ c D (c.G n i j).blk:=λi j hh hn=> .inr ⟨n,el,xs,_,aX.2 rfl,hg, .inr ⟨rfl,i,j,hh,hn,rfl⟩⟩;have fG:iP w (c.P n) xs (λ_ _ u x=>cT E w (K1 σ c D) u x):=q4.frame (λ_=>rfl) (λi j y x u hy hx hr=>by rw[bw rfl]at hr;exact sW hr (λhl hn=>kin i j ⟨y,x,hy,hx,hl⟩ hn));have CH:nH w v (eu xs lo hi) te.ks.length (λ_ _ u x=>cT E w (K1 σ c D) u x):=by have:=Kd fG hv;rwa[q2]at this
  obtain⟨news,n1,n2⟩:=qI (P:=P) (z:=z) hu kC CH r2 (λi j u x hr=>hr.one);refine⟨D,news,λ_ _=>⟨ai,0,0,0,0,0⟩,rfl,n1,r2,λh=>(by cases h),λ_=>n2,λh=>(by cases h),λh=>(by cases h),λm y hm=> ?_⟩
  rw[aX]at hm;cases hm;exact⟨Hg,⟨_,hg⟩, .inr ⟨rfl,el,xs,rfl,nk ht q2 q3 fG (λhn=> .inr ⟨n,el,xs,_,aX.2 rfl,hg, .inl ⟨hn,rfl⟩⟩),q4.n,te,ht,q2⟩⟩
 cases x with
 |s s=>
  obtain⟨h1,h⟩:=cy h;obtain⟨rfl,rfl,rfl⟩:=rQ h;have hk:te.ks=[.i .u8]:=by
   unfold u8s at h1;split at h1
   ·assumption
   ·cases h1
  have hv:v= .string s:=hx.1;subst hv;refine⟨[],(s.data.map λb=>Value.int .u8 b.toNat).toList,λ_ _=>⟨ai,0,0,0,0,0⟩,rfl,⟨.inl ⟨hu, ?_, ?_, ?_⟩, ?_, ?_⟩,by rw[hk];exact HK s,λ_ i y j x hy hx=> ?_,λh=>(by cases h),λ_ i j _ hn=>(by cases hn),λ_ i j _ _ _ _ hn=>(by cases hn),λn x hn=>(by cases hn)⟩
  ·simp[oO,lD]
  ·simp[eU,lD];apply rF;simp
  ·simp[eU,lD];apply rF;simp
  ·rw[hk,lD];simp
  ·intro v hv;have hv:∃b,b∈s.data/\Value.int bg (b.toNat:az)=v:=by simpa using hv
   obtain⟨b,_,rfl⟩:=hv;rfl
  ·obtain⟨rfl,b,hb,rfl⟩:=FF hy hx;refine⟨.int .u8 b.toNat, ?_,rfl,trivial⟩
   rw[hk];simp[hb]
 |nl=>obtain⟨rfl,rfl,rfl⟩:=rQ h;have hv:v= .slice aj 0 0:=hx;subst hv;refine⟨[],[],λ_ _=>⟨ai,0,0,0,0,0⟩,rfl,⟨.inl ⟨hu,by simp[oO],run_firstCells_none _ _ _ _ _,run_firstCells_none _ _ _ _ _⟩,by simp,λv hv=>(by cases hv)⟩,λy hy=>(by cases hy),λ_ i y j x hy=>(by simp at hy),λh=>(by cases h),λ_ i j _ hn=>(by cases hn),λ_ i j _ _ _ _ hn=>(by cases hn),λn x hn=>(by cases hn)⟩
 |sh e' xs=>obtain⟨h1,h9⟩:=cy h;have:=aR h1;subst this;have h:=h9;obtain⟨rfl,rfl,rfl⟩:=rQ h;exact HP xs hx rfl
 |own n=>
  obtain⟨ob,hg,h⟩:=Rd.bind_some h;have hg:=c9 hg;have hv:v=kY (c.P n):=hx;cases ob with
  |row e' ex xs=>
   obtain⟨h1,h9⟩:=cy h;have:=aR h1;subst this;have h:=h9;have Hj:(lS E (.own n)).val σ=ah (el,xs):=by simp[lS,i_,hg]
   have hvw:uT (c.P n) 0 xs.length v:=by rw[hv];exact vf b7 hg
   cases hp:plain te.ks with
   |true=>rw[vL (by rw[hp];rfl)]at h;obtain⟨rfl,rfl,rfl⟩:=rQ h;rw[hp];exact PLr hp xs Hj
   |false=>
    cases ex with
    |false=>rw[vL (by simp)]at h;obtain⟨rfl,rfl,rfl⟩:=rQ h;rw[hp];obtain⟨t3,r1,r2,r3⟩:=wj b7 hg hvw;obtain rfl:te=t3:=aD (ht.symm.trans r1);rw[qj]at r2 r3;exact SH xs (r3.imp λi y j x u _ _ hr=>by simpa using hr) r2
    |true=>
     rw[Dg (by rw[hp];rfl)]at h;cases hm:lX n b with
     |true=>rw[hm]at h;simp at h
     |false=>
      have Hg:=pI hm;rw[hm]at h;cases Fb:E.tk sH with
      |true=>rw[Fb]at h;obtain⟨rfl,rfl,rfl⟩:=rQ h;have:=FZ n xs 0 xs.length hg Hg hvw;rwa[qj]at this
      |false=>
       rw[Fb]at h;obtain⟨rfl,rfl,rfl⟩:=rQ h;obtain⟨t3,r1,r2,r3⟩:=wj b7 hg hvw;obtain rfl:te=t3:=aD (ht.symm.trans r1);rw[qj]at r2 r3;have r3':=r3.imp (R':=λi j u x=>XC E w (c.G n) i j u x) (λi y j x u _ _ hr=>by rw[bw rfl,bT]at hr;exact hr);obtain⟨news,n1,n2⟩:=qI (P:=P) (z:=z) hu kC r3' r2 (λi j u x hr=>hr.one);refine⟨[(n, .dead)],news,c.G n,rfl,n1,r2,λ_=>n2,λh=>(by cases h),λ_ i j hh hn=>⟨n,_,aX.2 rfl,hg, .inr ⟨rfl,i,j,hh,hn,rfl⟩⟩,λ_=>((b7.obj n _ hg).inn rfl).one,λm y hm=> ?_⟩
       rw[aX]at hm;cases hm;exact⟨Hg,⟨_,hg⟩, .inl rfl⟩
  |fE e' xs=>obtain⟨h1,h9⟩:=cy h;have:=aR h1;subst this;have h:=h9;obtain⟨rfl,rfl,rfl⟩:=rQ h;refine HP xs ?_ (by simp[lS,i_,hg]);rw[hv];exact(b7.obj n _ hg).1
  |_=>simp at h
 |vw n lo hi=>
  obtain⟨ob,hg,h⟩:=Rd.bind_some h;have hg:=c9 hg;cases ob with
  |row e' ex xs=>
   obtain⟨h1,h9⟩:=cy h;have:=aR h1;subst this;have h:=h9;have Hj:(lS E (.vw n lo hi)).val σ=ah (el,eu xs lo hi):=by simp[lS,i_,hg]
   cases hp:plain te.ks with
   |true=>rw[vL (by rw[hp];rfl)]at h;obtain⟨rfl,rfl,rfl⟩:=rQ h;rw[hp];exact PLr hp _ Hj
   |false=>
    cases ex with
    |false=>rw[vL (by simp)]at h;obtain⟨rfl,rfl,rfl⟩:=rQ h;rw[hp];obtain⟨t3,r1,r2,r3⟩:=wj b7 hg hx;obtain rfl:te=t3:=aD (ht.symm.trans r1);exact SH _ (r3.imp λi y j x u _ _ hr=>by simpa using hr) r2
    |true=>
     rw[Dg (by rw[hp];rfl)]at h;cases hm:lX n b with
     |true=>rw[hm]at h;simp at h
     |false=>
      have Hg:=pI hm;rw[hm]at h;cases Fb:E.tk sH with
      |true=>rw[Fb]at h;obtain⟨rfl,rfl,rfl⟩:=rQ h;exact FZ n xs lo hi hg Hg hx
      |false=>rw[Fb]at h;simp at h
  |fE e' xs=>obtain⟨h1,h9⟩:=cy h;have:=aR h1;subst this;have h:=h9;obtain⟨rfl,rfl,rfl⟩:=rQ h;exact HP _ (oE b7 hg hx) (by simp[lS,i_,hg])
  |_=>simp at h
 |inn n i j=>obtain⟨h1,h⟩:=cy h;obtain⟨⟨e',xs⟩,h2,h⟩:=Rd.bind_some h;obtain⟨h3,h9⟩:=cy h;have:=aR h3;subst this;have h:=h9;obtain⟨rfl,rfl,rfl⟩:=rQ h;exact PLr h1 xs h2
 |_=>simp[Q_]at h
theorem Nm(hE:d_ P E)(b7:Ok E σ w c)(dp:eS E σ a w c)(hd:∀d,o.dst=ah d->d<a.tmps.size){cl:Call}(ho:o.op= .call cl)(hb:cl.callee= .builtin .append)(h:(lE E nm o).val σ=ah e)(hc:e.cond=ai):gC P E σ a w c o e.ws:=by
 simp only[lE,ho,hb]at h;split at h
 ·rename_i s x t u ry acm;obtain⟨ku,h1,h⟩:=Rd.bind_some h;obtain⟨sv,h2,h⟩:=Rd.bind_some h;obtain⟨xv,h3,h⟩:=Rd.bind_some h;obtain⟨es,_⟩:=iM dp h2;obtain⟨ex,_⟩:=iM dp h3;have ry:=BU ry;have acm:=BU acm;have exec:∀{r w'},(gZ #[t,u] o.type #[a.eval s,a.eval x]).run P w= .ok r w'->(execOp a.eval o).run P w= .ok (.value r) w':=by intro r w' hr;obtain⟨cs,B_⟩:=mc (P:=P) (a:=a) (w:=w) ho hb;rw[B_,ry,acm];simp only[builtin,Cj,eW,Av];exact iJ hr
  have APP:((∃e',P.underlying u=ah (.slice e'))\/P.underlying u=ah .string)->∀b v wl,(EL E nm t sv xv).val σ=ah (b,v,wl)->b=ai->gC P E σ a w c o (wl++dw o (.v ak [v])):=by
   intro hu b v wl h hbt;obtain⟨ti,k1,h⟩:=Rd.bind_some h;have k1:=dH k1;split at h
   ·rename_i el td zE;obtain⟨te,k2,h⟩:=Rd.bind_some h;have k2:=dH k2;obtain⟨yq,h⟩:=cy h;obtain⟨⟨B9,xs,bl⟩,k3,h⟩:=Rd.bind_some h;obtain⟨⟨zD,ys,w2⟩,k4,h⟩:=Rd.bind_some h;obtain⟨_,k5,h⟩:=Rd.bind_some h;obtain⟨rfl,rfl,rfl⟩:=rQ h;obtain⟨hf,jt⟩:=j4 k5;have ht:=oA hE k1 td zE;obtain⟨inf,hi,fH,hby,kC,hz⟩:=hE.info el te k2;obtain⟨z,Io,CJ,_⟩:=hz yq;obtain⟨p,g,hB⟩:=AO b7 k2 es k3;obtain⟨D,news,gx,rfl,hA,hM⟩:=Ra (P:=P) (z:=z.cells) hE b7 k2 kC hu ex k4;simp only[cB,aJ,bc]at hbt;obtain⟨p',w',hr,hAd⟩:=sP (P:=P) (w:=w) (ty:=o.type) (p:=p) (x:=a.eval x) ht hi Io (by rw[CJ,hB.sz];simp) (by rw[fH,hB.sz]) (λhn=>by rw[hB.at_.n,(hB.at_.nil hn).1];rfl) (λhn=>by obtain⟨vals,m1,m2,m3,m4,_⟩:=hB.at_.mem hn;exact⟨vals,m1,m2,m3,m4⟩) (by rw[hB.sz];exact hA) (by rw[hB.at_.n,hby];exact hbt.1) (by rw[hB.at_.n];exact hbt.2);rw[<-hB.v]at hr;exact Du b7 dp hd k2 hf jt hB hM hAd (exec hr)
   ·simp at h
  have ZER:∀k,P.underlying u=ah (.int k)->∀(kn:mG) (n:az),a.eval x= .int kn n->∀b v wl,(Tj E nm t sv n).val σ=ah (b,v,wl)->b=ai->gC P E σ a w c o (wl++dw o (.v ak [v])):=by
   intro k hu kn n hxn b v wl h hbt;obtain⟨ti,k1,h⟩:=Rd.bind_some h;have k1:=dH k1;split at h
   ·rename_i el td zE;obtain⟨te,k2,h⟩:=Rd.bind_some h;have k2:=dH k2;obtain⟨N3,h⟩:=cy h;simp only[aJ]at N3;obtain⟨yq,N1⟩:=N3;obtain⟨⟨B9,xs,bl⟩,k3,h⟩:=Rd.bind_some h;obtain⟨_,k5,h⟩:=Rd.bind_some h;obtain⟨rfl,rfl,rfl⟩:=rQ h;obtain⟨hf,jt⟩:=j4 k5;have ht:=oA hE k1 td zE;obtain⟨inf,hi,fH,hby,kC,hz⟩:=hE.info el te k2;obtain⟨z,Io,CJ,_⟩:=hz yq;obtain⟨p,g,hB⟩:=AO b7 k2 es k3;simp only[cB,aJ,bc]at hbt;obtain⟨⟨c0,c1,c2⟩,c3⟩:=hbt;have JD:(aN te.ks n.toNat).length=n.toNat:=by simp[aN]
    have hzc:fu z.cells n.toNat=madeCells (te.ks.map im).toArray (n.toNat*te.ks.length):=by rw[CJ];show madeCells _ (n.toNat*(te.ks.map im).toArray.size)=_;simp
    have hA:App P w u (a.eval x) z.cells te.ks.length (aN te.ks n.toNat).length (fu z.cells n.toNat).toList:=by
     refine⟨.inr ⟨⟨k,hu⟩,⟨kn, ?_⟩, ?_⟩, ?_,λv hv=> ?_⟩
     ·rw[hxn,JD,Int.toNat_of_nonneg c0]
     ·rw[JD]
     ·rw[JD,dm,size_zeroCells,CJ];simp
     ·rw[hzc]at hv;obtain⟨q,hq⟩:=bX hv;have U4:q<n.toNat*te.ks.length:=by have:=(aT.1 hq).1;simpa [size_madeCells]using this
      have h1:q/te.ks.length<n.toNat:=by rw[wJ kC];exact U4
      have h2:q%te.ks.length<te.ks.length:=B6 _ kC;have:=lk (n:=n.toNat) h1 (show te.ks[q%te.ks.length]? =ah te.ks[q%te.ks.length]by simp[h2]);rw[show q/te.ks.length*te.ks.length+q%te.ks.length=q by have:=Ic q te.ks.length;rw[C5]at this;exact this]at this;rw[cF,this]at hq;cases hq;cases te.ks[q%te.ks.length]<;>rfl
    have hM:qz E σ w c te bl ai (aN te.ks n.toNat) [] (fu z.cells n.toNat).toList (JL E te.ks):=by
     refine⟨wF yq _,λ_ i y j x hy hx=> ?_,λh=>(by cases h),λ_ i j _ hn=>(by cases hn),λ_ i j _ _ _ _ hn=>(by cases hn),λn x hn=>(by cases hn)⟩
     obtain⟨g9,k,hk,rfl⟩:=tF hy hx;refine⟨im k, ?_,Mp N1 yq hk⟩
     rw[hzc,cF];exact lk g9 hk
    obtain⟨p',w',hr,hAd⟩:=sP (P:=P) (w:=w) (ty:=o.type) (p:=p) (x:=a.eval x) ht hi Io (by rw[CJ,hB.sz];simp) (by rw[fH,hB.sz]) (λhn=>by rw[hB.at_.n,(hB.at_.nil hn).1];rfl) (λhn=>by obtain⟨vals,m1,m2,m3,m4,_⟩:=hB.at_.mem hn;exact⟨vals,m1,m2,m3,m4⟩) (by rw[hB.sz];exact hA) (by rw[hB.at_.n,hby,JD];exact c1) (by rw[hB.at_.n,JD];exact c2);rw[<-hB.v]at hr;have:=Du b7 dp hd k2 hf jt hB hM hAd (exec hr);rw[o0]at this;exact this
   ·simp at h
  cases ku with
  |i k=>
   cases xv with
   |i k' n=>obtain⟨⟨b,v,wl⟩,h4,h⟩:=Rd.bind_some h;obtain rfl:=aD h;exact ZER k (yt hE h1) k' n ex b v wl h4 hc
   |_=>simp at h
  |l e'=>obtain⟨⟨b,v,wl⟩,h4,h⟩:=Rd.bind_some h;obtain rfl:=aD h;exact APP (.inl ⟨e',j7 hE h1⟩) b v wl h4 hc
  |s=>obtain⟨⟨b,v,wl⟩,h4,h⟩:=Rd.bind_some h;obtain rfl:=aD h;exact APP (.inr (kE hE h1)) b v wl h4 hc
  |b=>simp at h
  |o=>simp at h
 ·simp at h
end
end Go.FG

namespace Go.FG
section
variable {P:cM} {E:fm} {σ:St} {a:Act} {w:bD} {c:eJ} {o:eV} {nm:aE} {e:rW}
theorem Uv:∀{xs:ay AV} {cs:ay CV},(PZ.aby xs).val σ=ah cs->cs.length=xs.length/\∀(vals:c_ bf),fD E w c vals xs->∀(q:aE) (x:CV),cs[q]? =ah x->∃u:bf,vals[q]? =ah u/\cT E w c.K u x:=by
 intro xs;induction xs with
 |nil=>intro cs h;obtain rfl:=aD h;exact⟨rfl,λ_ _ q x hq=>by simp at hq⟩
 |cons a xs ih=>
  intro cs h;obtain⟨l,h1,h⟩:=Rd.bind_some h;obtain⟨i1,i2⟩:=ih h1;have main:∀cv,(∀u,ea E w c a u->cT E w c.K u cv)->cs=cv::l->cs.length=(a::xs).length/\∀(vals:c_ bf),fD E w c vals (a::xs)->∀(q:aE) (x:CV),cs[q]? =ah x->∃u:bf,vals[q]? =ah u/\cT E w c.K u x:=by
   rintro cv Yf rfl;refine⟨by simp[i1],λvals hv q x hq=> ?_⟩
   cases q with
   |zero=>cases hq;obtain⟨u,hu,ha⟩:=hv.2 0 a rfl;exact⟨u,hu,Yf u ha⟩
   |succ q=>
    have Lp:fD E w c (vals.extract 1 vals.size) xs:=by
     refine⟨by simp;have:=hv.1;simp at this;omega,λj b hj=> ?_⟩
     obtain⟨u,hu,hb⟩:=hv.2 (j+1) b hj;refine⟨u, ?_,hb⟩
     have:=(dL.1 hu).1;rw[dS,bw (by omega),iN];exact hu
    obtain⟨u,r1,r2⟩:=i2 _ Lp q x hq;refine⟨u, ?_,r2⟩
    rw[dS]at r1;split at r1
    ·rw[iN];exact r1
    ·cases r1
  cases a with
  |i k n=>exact main (.i k n) (λu hu=>by rw[show u=_ from hu];exact .i _ _) (aD h).symm
  |b x=>exact main (.b x) (λu hu=>by rw[show u=_ from hu];exact .b _) (aD h).symm
  |s x=>exact main (.s x) (λu hu=>by rw[show u=_ from hu.1];exact .s _ hu.2) (aD h).symm
  |sh e xs=>exact main (.l e xs) (λu hu=>hu) (aD h).symm
  |_=>simp at h
def aew(E:fm)(σ:St)(w:bD)(c:eJ)(D:ay (aE×Obj))(cs:ay CV)(v:bf):Prop:=
 ∃n,v= .pointer (ah (ad (c.P n).blk 0))/\(((n,Obj.nB cs)∈D)\/σ (cR n)= .o (.nB cs))
theorem Uw(b7:Ok E σ w c)(dp:eS E σ a w c):∀{xs:ay da} {l:ay (ay CV)} {ws:ay (aE×eA)},(PZ xs).val σ=ah (l,ws)->l.length=xs.length/\∃D,ws=jJ D/\
  (∀n x,(n,x)∈D->∃cs ys,x= .nB cs/\σ (cR n)= .o (.box ys)/\∀(q:aE) (y:CV),cs[q]? =ah y->∃u:bf,w.cell? (ad (c.P n).blk q)=ah u/\cT E w c.K u y)/\
  ∀(q:aE) (cs:ay CV),l[q]? =ah cs->∃x,xs[q]? =ah x/\aew E σ w c D cs (a.eval x):=by
 intro xs;induction xs with
 |nil=>intro l ws h;obtain⟨rfl,rfl⟩:=bS (aD h);exact⟨rfl,[],rfl,λn x h=>(by cases h),λq cs h=>by simp at h⟩
 |cons x xs ih=>
  intro l ws h;obtain⟨v,h1,h⟩:=Rd.bind_some h;have hv:=(iM dp h1).1;split at h
  ·rename_i n;obtain⟨ob,hg,h⟩:=Rd.bind_some h;have hg:=c9 hg;have hv:a.eval x= .pointer (ah (ad (c.P n).blk 0)):=hv;cases ob with
   |box ys=>
    obtain⟨cs,h2,h⟩:=Rd.bind_some h;obtain⟨⟨l',CS⟩,h3,h⟩:=Rd.bind_some h;obtain⟨rfl,rfl⟩:=bS (aD h);obtain⟨i1,D,rfl,i2,i3⟩:=ih h3;obtain⟨_,c2⟩:=Uv (E:=E) (w:=w) (c:=c) h2;obtain⟨vals,hb,fH,Yf⟩:=b7.obj n _ hg;refine⟨by simp[i1],(n, .nB cs)::D,rfl,λm y hm=> ?_,λq cs' hq=> ?_⟩
    ·rcases cz.1 hm with hm|hm
     ·cases hm;refine⟨cs,ys,rfl,hg,λq y hq=> ?_⟩
      obtain⟨u,hu,hh⟩:=c2 vals ⟨fH,Yf⟩ q y hq;exact⟨u,(hb.cell q).trans hu,hh⟩
     ·exact i2 m y hm
    ·cases q with
     |zero=>cases hq;exact⟨x,rfl,n,hv, .inl (dA ..)⟩
     |succ q=>obtain⟨x',oH,m,e1,e2⟩:=i3 q cs' hq;exact⟨x',oH,m,e1,e2.imp (cU _) id⟩
   |nB cs=>
    obtain⟨⟨l',CS⟩,h3,h⟩:=Rd.bind_some h;obtain⟨rfl,rfl⟩:=bS (aD h);obtain⟨i1,D,rfl,i2,i3⟩:=ih h3;refine⟨by simp[i1],D,rfl,i2,λq cs' hq=> ?_⟩
    cases q with
    |zero=>cases hq;exact⟨x,rfl,n,hv, .inr hg⟩
    |succ q=>exact i3 q cs' hq
   |_=>simp at h
  ·simp at h
theorem HD(b7:Ok E σ w c)(dp:eS E σ a w c)(hd:∀d,o.dst=ah d->d<a.tmps.size){fn:Fn}{first iC:c_ da}(ho:o.op= .makeFunc fn first iC)(h:(lE E nm o).val σ=ah e):gC P E σ a w c o e.ws:=by
 cases fn with
 |func f=>
  simp only[lE,ho]at h;obtain⟨h1,h⟩:=cy h;obtain⟨⟨l,ws⟩,h2,h⟩:=Rd.bind_some h;obtain rfl:=aD h;obtain⟨hl,D,rfl,hD,M0⟩:=Uw b7 dp h2;have Lk:first= #[]:=by simpa using h1
  let K':aE->Prop:=λb=>c.K b\/∃n x,(n,x)∈D/\b=(c.P n).blk;let c':eJ:=⟨c.P,c.G,K'⟩
  have kin:∀b,c.K b->K' b:=λb h=> .inl h;have own:∀n x,(n,x)∈D->jA (tG D) σ c (c.P n).blk:=λn x hm=>by obtain⟨cs,ys,_,hg,_⟩:=hD n x hm;exact⟨n,_,⟨x,hm⟩,hg,rfl⟩
  have fb:∀n cs,(n,Obj.nB cs)∈D->FB E w K' (c.P n).blk cs:=λn cs hm=>by obtain⟨cs',ys,hx,hg,hc⟩:=hD n _ hm;cases hx;exact⟨.inr ⟨n,_,hm,rfl⟩,λq x hq=>by obtain⟨u,hu,hh⟩:=hc q x hq;exact⟨u,hu,hh.frame (λ_ _=>rfl) kin⟩⟩
  refine Jr b7 dp hd (c':=c') (w':=w) (v:= .func (.func f) #[] (iC.map a.eval)) (λm _=>⟨rfl,rfl⟩) ?_ ?_ ?_ ?_ kin ?_ ?_ (λb _ _=>rfl) (cu _) rfl rfl rfl ?_ ?_ ?_
  ·intro n x hm;obtain⟨cs,ys,rfl,hg,hc⟩:=hD n x hm;exact fb n cs hm
  ·intro n x b hm hf;obtain⟨cs,ys,rfl,_⟩:=hD n x hm;exact hf.elim
  ·intro n x n' x' b hm _ hf;obtain⟨cs,ys,rfl,_⟩:=hD n x hm;exact hf.elim
  ·intro n xs hm;obtain⟨cs,ys,hx,_⟩:=hD n _ hm;cases hx
  ·rintro b (h|⟨n,x,hm,rfl⟩)
   ·exact .inl h
   ·exact .inr (.inl (own n x hm))
  ·rintro b (h|⟨n,x,hm,rfl⟩)
   ·exact b7.lt b h
   ·exact uJ.lt b7 (own n x hm).own
  ·refine⟨iC.map a.eval,rfl,by simp[hl],λq cs hq=> ?_⟩
   obtain⟨x,hx,n,hv,hor⟩:=M0 q cs hq;rw[cF]at hx;refine⟨(c.P n).blk,by rw[Ms,hx,<-hv];rfl, ?_⟩
   rcases hor with hm|hg
   ·exact fb n cs hm
   ·exact FB.frame (b7.obj n _ hg) (λ_ _=>rfl) kin
  ·intro n hn;simp[cw,bE]at hn
  ·unfold execOp;rw[ho,Lk];refine iJ (s:=Tn (.func f) ((#[]:c_ da).map a.eval) (iC.map a.eval)) ?_;simp[Tn]
 |_=>simp[lE,ho]at h
end
end Go.FG

namespace Go.FG
theorem np:∀{l:ay (aE×eA)} {k:aE} {c:eA},fN l k=c->c≠ .jq->(k,c)∈l:=by
 intro l;induction l with
 |nil=>intro k c h hc;exact cE h.symm hc
 |cons d l ih=>
  obtain⟨k',c'⟩:=d;intro k c h hc;unfold fN at h;cases hb:bn k k' with
  |true=>rw[hb]at h;have:=aR hb;subst this;have:c'=c:=h;subst this;exact dA ..
  |false=>rw[hb]at h;exact cU _ (ih h hc)
theorem qZ:∀{l:ay (aE×eA)} {k:aE} {c:eA},(k,c)∈l->(∀d∈l,d.2≠ .jq)->fN l k≠ .jq:=by
 intro l;induction l with
 |nil=>intro k c h;cases h
 |cons d l ih=>
  obtain⟨k',c'⟩:=d;intro k c h hn;unfold fN;cases hb:bn k k' with
  |true=>exact hn _ (dA ..)
  |false=>
   rcases cz.1 h with h|h
   ·cases h;simp at hb
   ·exact ih h (λd hd=>hn d (cU _ hd))
theorem Nh{nm:aE}{a:AA}{k:aE}{c:eA}:(k,c)∈Dy nm a↔∃e ex xs,a= .ow e ex xs/\k=cR nm/\c= .o (.row e ex xs):=by
 cases a with
 |ow e ex xs=>simp only[Dy,aX,iU];exact⟨λ⟨h1,h2⟩=>⟨e,ex,xs,rfl,h1,h2⟩,λ⟨e',tc,Km,h,h1,h2⟩=>by cases h;exact⟨h1,h2⟩⟩
 |_=>simp[Dy]
theorem Bk:∀{xs:ay AA} {nm:aE} {k:aE} {c:eA},(k,c)∈sE nm xs↔∃j e ex ys,xs[j]? =ah (.ow e ex ys)/\k=cR (nm+j)/\c= .o (.row e ex ys):=by
 intro xs;induction xs with
 |nil=>intro nm k c;simp[sE]
 |cons a xs ih=>
  intro nm k c;simp only[sE,a_,Nh,ih];constructor
  ·rintro (⟨e,ex,ys,rfl,h1,h2⟩|⟨j,e,ex,ys,h0,h1,h2⟩)
   ·exact⟨0,e,ex,ys,rfl,h1,h2⟩
   ·exact⟨j+1,e,ex,ys,h0,by rw[h1];congr 1;omega,h2⟩
  ·rintro ⟨j,e,ex,ys,h0,h1,h2⟩;cases j with
   |zero=>cases h0;exact .inl ⟨e,ex,ys,rfl,h1,h2⟩
   |succ j=>exact .inr ⟨j,e,ex,ys,h0,by rw[h1];congr 1;omega,h2⟩
theorem hZ{p:aE}{a:eQ}{k:aE}{c:eA}:(k,c)∈uk p a↔(∃xs,a= .pt xs/\k=cR (dK p 900)/\c= .o (.box (gf (dK p 0) xs)))\/∃xs j e ex ys,((∃g,a= .v g xs)\/a= .pt xs)/\xs[j]? =ah (.ow e ex ys)/\k=cR (dK p j)/\c= .o (.row e ex ys):=by
 have hn:∀j,dK p 0+j=dK p j:=λj=>by unfold dK;omega
 cases a with
 |v g xs=>
  simp only[uk,Bk,hn];constructor
  ·rintro ⟨j,e,ex,ys,h⟩;exact .inr ⟨xs,j,e,ex,ys, .inl ⟨g,rfl⟩,h⟩
  ·rintro (⟨Km,h,_⟩|⟨Km,j,e,ex,ys,h,h'⟩)
   ·cases h
   ·rcases h with ⟨g',h⟩|h<;>cases h;exact⟨j,e,ex,ys,h'⟩
 |pt xs=>
  simp only[uk,cz,Bk,hn,iU];constructor
  ·rintro (⟨h1,h2⟩|⟨j,e,ex,ys,h⟩)
   ·exact .inl ⟨xs,rfl,h1,h2⟩
   ·exact .inr ⟨xs,j,e,ex,ys, .inr rfl,h⟩
  ·rintro (⟨Km,h,h1,h2⟩|⟨Km,j,e,ex,ys,h,h'⟩)
   ·cases h;exact .inl ⟨h1,h2⟩
   ·rcases h with ⟨g',h⟩|h<;>cases h;exact .inr ⟨j,e,ex,ys,h'⟩
 |fb xs=>
  simp only[uk,rH,false_iff];rintro (⟨Km,h,_⟩|⟨Km,j,e,ex,ys,h,h'⟩)
  ·cases h
  ·rcases h with ⟨g',h⟩|h<;>cases h
theorem ll:∀{l:ay eQ} {q:aE} {k:aE} {c:eA},(k,c)∈JE q l↔∃p a,l[p]? =ah a/\((k=pJ (q+p)/\c= .v (sF (q+p) a))\/(k,c)∈uk (q+p) a):=by
 intro l;induction l with
 |nil=>intro q k c;simp[JE]
 |cons a l ih=>
  intro q k c;simp only[JE,cz,a_,ih,iU];constructor
  ·rintro ((⟨h1,h2⟩|h)|⟨p,b,h0,h⟩)
   ·exact⟨0,a,rfl, .inl ⟨h1,h2⟩⟩
   ·exact⟨0,a,rfl, .inr h⟩
   ·exact⟨p+1,b,h0,by rw[show q+(p+1)=q+1+p by omega];exact h⟩
  ·rintro ⟨p,b,h0,h⟩;cases p with
   |zero=>
    cases h0;rcases h with ⟨h1,h2⟩|h
    ·exact .inl (.inl ⟨h1,h2⟩)
    ·exact .inl (.inr h)
   |succ p=>exact .inr (⟨p,b,h0,by rw[show q+1+p=q+(p+1)by omega];exact h⟩)
theorem Hm{l:ay eQ}{q:aE}:∀d∈JE q l,d.2≠ .jq:=by
 rintro ⟨k,c⟩ h;obtain⟨p,a,_,h⟩:=ll.1 h;rcases h with ⟨_,h⟩|h
 ·rw[h];simp
 ·rcases hZ.1 h with ⟨_,_,_,h⟩|⟨_,_,_,_,_,_,_,_,h⟩<;>rw[h]<;>simp
theorem zY{args:ay eQ}{m:aE}{ob:Obj}(h:inj args (cR m)= .o ob):∃p a,args[p]? =ah a/\((∃xs,a= .pt xs/\m=dK p 900/\ob= .box (gf (dK p 0) xs))\/∃xs j e ex ys,((∃g,a= .v g xs)\/a= .pt xs)/\xs[j]? =ah (.ow e ex ys)/\m=dK p j/\ob= .row e ex ys):=by
 obtain⟨p,a,h0,h⟩:=ll.1 (np h (by simp));rw[bT]at h;refine⟨p,a,h0, ?_⟩
 rcases h with ⟨h,_⟩|h
 ·exact cE h (lK _ _)
 ·rcases hZ.1 h with ⟨xs,h1,h2,h3⟩|⟨xs,j,e,ex,ys,h1,h2,h3,h4⟩
  ·cases h3;exact .inl ⟨xs,h1,jw h2,rfl⟩
  ·cases h4;exact .inr ⟨xs,j,e,ex,ys,h1,h2,jw h3,rfl⟩
theorem Hp{args:ay eQ}{n:aE}:(∃a,args[n]? =ah a/\slot (inj args) n=sF n a)\/slot (inj args) n= .un:=by
 unfold slot;cases h:inj args (pJ n)with
 |v x=>
  obtain⟨p,a,h0,h⟩:=ll.1 (np h (by simp));rw[bT]at h;rcases h with ⟨h1,h2⟩|h
  ·have:=FL h1;subst this;cases h2;exact .inl ⟨a,h0,rfl⟩
  ·rcases hZ.1 h with ⟨_,_,h,_⟩|⟨_,_,_,_,_,_,_,h,_⟩<;>exact cE h (qY _ _)
 |o=>exact .inr rfl
 |jq=>exact .inr rfl
theorem p_{args:ay eQ}{p:aE}{a:eQ}(h:args[p]? =ah a):(∀xs,a= .pt xs->inj args (cR (dK p 900))≠ .jq)/\∀xs j e ex ys,((∃g,a= .v g xs)\/a= .pt xs)->xs[j]? =ah (.ow e ex ys)->inj args (cR (dK p j))≠ .jq:=by
 constructor
 ·intro xs hx;exact qZ (ll.2 ⟨p,a,h, .inr (hZ.2 (.inl ⟨xs,hx,by rw[bT],rfl⟩))⟩) Hm
 ·intro xs j e ex ys hx hj;exact qZ (ll.2 ⟨p,a,h, .inr (hZ.2 (.inr ⟨xs,j,e,ex,ys,hx,hj,by rw[bT],rfl⟩))⟩) Hm
theorem ie:∀{xs:ay AA} {nm j:aE},(gf nm xs)[j]? =(xs[j]?).map (kK (nm+j)):=by
 intro xs;induction xs with
 |nil=>intro nm j;simp[gf]
 |cons a xs ih=>
  intro nm j;cases j with
  |zero=>rfl
  |succ j=>simp only[gf,dD,ih];congr 2;omega
theorem iB:∀{xs:ay AA} {nm:aE},(gf nm xs).length=xs.length:=by
 intro xs;induction xs with
 |nil=>intro nm;rfl
 |cons a xs ih=>intro nm;simp[gf,ih]
theorem sG{nm:aE}{a:AA}{n:aE}(h:n∈bE (kK nm a)):n=nm/\∃e ex ys,a= .ow e ex ys:=by cases a<;>simp[kK,bE]at h;exact⟨h,_,_,_,rfl⟩
theorem Hn{args:ay eQ}(n:aE):l_ (inj args) (slot (inj args) n):=by
 rcases Hp (args:=args) (n:=n)with ⟨a,h0,h⟩|h
 ·rw[h];intro m hm;have cells:∀xs,((∃g,a= .v g xs)\/a= .pt xs)->m∈(gf (dK n 0) xs).flatMap bE->inj args (cR m)≠ .jq:=by
   intro xs hx hm;obtain⟨v,hv,hm⟩:=bG.1 hm;obtain⟨j,hj⟩:=bX hv;rw[ie]at hj;cases hy:xs[j]? with
   |none=>rw[hy]at hj;cases hj
   |some y=>
    rw[hy]at hj;cases hj;obtain⟨rfl,e,ex,ys,rfl⟩:=sG hm;have:=(p_ h0).2 xs j e ex ys hx hy;have hn:dK n 0+j=dK n j:=by unfold dK;omega
    rw[hn];exact this
  cases a with
  |v g xs=>exact cells xs (.inl ⟨g,rfl⟩) hm
  |pt xs=>
   have:m=dK n 900:=by simpa [sF,cw,bE]using hm
   rw[this];exact(p_ h0).1 xs rfl
  |fb xs=>simp[sF,cw,bE]at hm
 ·rw[h];intro m hm;simp[cw]at hm
theorem Ff{args:ay eQ}{nm:aE}{xs:ay AV}(h:inj args (cR nm)= .o (.box xs)):∀a∈xs,iV (inj args) a:=by
 obtain⟨p,a,h0,hh⟩:=zY h;rcases hh with ⟨ys,rfl,_,hb⟩|⟨_,_,_,_,_,_,_,_,hb⟩
 ·cases hb;intro v hv m hm;obtain⟨j,hj⟩:=bX hv;rw[ie]at hj;cases hy:ys[j]? with
  |none=>rw[hy]at hj;cases hj
  |some y=>
   rw[hy]at hj;cases hj;obtain⟨rfl,e,ex,zs,rfl⟩:=sG hm;have:=(p_ h0).2 ys j e ex zs (.inr rfl) hy;have hn:dK p 0+j=dK p j:=by unfold dK;omega
   rw[hn];exact this
 ·cases hb
end Go.FG

namespace Go.FG
theorem tp{p j:aE}(h:j<1000):(dK p j-900000000)/1000=p/\(dK p j-900000000)%1000=j:=by unfold dK;omega
theorem Br(p j:aE):900000000<=dK p j:=by unfold dK;omega
theorem tq{p j p' j':aE}(h:j<1000)(h':j'<1000)(e:dK p j=dK p' j'):p=p'/\j=j':=by unfold dK at e;omega
section
variable {P:cM} {E:fm} {σ:St} {a:Act} {w:bD} {c:eJ} {o:eV} {nm:aE} {e:rW}
theorem qW(b7:Ok E σ w c){n el:aE}{ex:aW}{xs:aU}(hg:σ (cR n)= .o (.row el ex xs)){K:aE->Prop}(hK:∀b,c.K b->K b)(hF:∀b,e8 c n (.row el ex xs) b->K b):cT E w K (kY (c.P n)) (.l el xs):=by
 obtain⟨⟨t2,q1,q2,q3⟩,q4,q5⟩:=b7.obj n _ hg;refine nk q1 q2 q3 (q4.frame (λ_=>rfl) (λi j y x u hy hx hr=> ?_)) (λhn=>hF _ (.inl ⟨hn,rfl⟩));split at hr
 ·rename_i oH;exact sW hr (λhl hn=>hF _ (.inr ⟨oH,i,j,⟨y,x,hy,hx,hl⟩,hn,rfl⟩))
 ·exact hr.frame (λ_ _=>rfl) hK
theorem DP(b7:Ok E σ w c){n el:aE}{ex:aW}{xs:aU}(hg:σ (cR n)= .o (.row el ex xs)){K:aE->Prop}(hK:∀b,c.K b->K b)(hF:∀b,e8 c n (.row el ex xs) b->K b){lo hi:aE}{v:bf}(hv:uT (c.P n) lo hi v):cT E w K v (.l el (eu xs lo hi)):=by obtain⟨⟨t2,q1,q2,q3⟩,q4,q5⟩:=b7.obj n _ hg;exact Bg q1 (qW b7 hg hK hF) q4.n q2 hv
def K1r(σ:St)(c:eJ)(mV:ay aE)(b:aE):Prop:=c.K b\/∃n∈mV,∃o,σ (cR n)= .o o/\e8 c n o b
def uK(T:Tab)(σ:St)(w:bD)(c:eJ)(mV:ay aE)(k:Pk)(u:bf):Prop:=
 match k.src with
 | .own nm e ex=>∃xs,σ (cR nm)= .o (.row e ex xs)/\k.a= .ow e ex xs/\u=kY (c.P nm)
 | .no=>(∀c1:eJ,(∀b,K1r σ c mV b->c1.K b)->∀nm,ea T w c1 (kK nm k.a) u)/\∀e ex xs,k.a≠ .ow e ex xs
theorem uK.mono{T:Tab}{mV RW:ay aE}{k:Pk}{u:bf}(h:uK T σ w c mV k u)(hs:∀n∈mV,n∈RW):uK T σ w c RW k u:=by
 unfold uK at h⊢;split
 ·rename_i hk;rw[hk]at h;exact h
 ·rename_i hk;rw[hk]at h;exact⟨λc1 h1=>h.1 c1 (λb hb=>h1 b (hb.imp id (λ⟨n,hn,hh⟩=>⟨n,hs n hn,hh⟩))),h.2⟩
theorem BD(b7:Ok E σ w c){mt:aW}{x:AV}{k:Pk}{u:bf}(h:(zc E mt x).val σ=ah k)(hx:ea E w c x u):uK E σ w c k.rd k u:=by
 have rd:∀{n el:aE} {ex:aW} {xs:aU},σ (cR n)= .o (.row el ex xs)->∀c1:eJ,(∀b,K1r σ c [n] b->c1.K b)->(∀b,c.K b->c1.K b)/\∀b,e8 c n (.row el ex xs) b->c1.K b:=λhg c1 h=>⟨λb hb=>h b (.inl hb),λb hb=>h b (.inr ⟨_,aX.2 rfl,_,hg,hb⟩)⟩
 cases x with
 |i=>obtain rfl:=aD h;exact⟨λc1 _ _=>hx,λ_ _ _ hh=>by cases hh⟩
 |b=>obtain rfl:=aD h;exact⟨λc1 _ _=>hx,λ_ _ _ hh=>by cases hh⟩
 |s=>obtain rfl:=aD h;exact⟨λc1 _ _=>hx,λ_ _ _ hh=>by cases hh⟩
 |nl=>obtain rfl:=aD h;exact⟨λc1 _ _=>hx,λ_ _ _ hh=>by cases hh⟩
 |sh e xs=>obtain rfl:=aD h;exact⟨λc1 h1 _=>cT.frame hx (λ_ _=>rfl) (λb hb=>h1 b (.inl hb)),λ_ _ _ hh=>by cases hh⟩
 |fn f iC=>obtain rfl:=aD h;exact⟨λc1 h1 _=>ea.frame (a:= .fn f iC) hx (λ_ _=>rfl) (λb hb=>h1 b (.inl hb)) (λn hn=>by simp[bE]at hn),λ_ _ _ hh=>by cases hh⟩
 |own n=>
  obtain⟨ob,hg,h⟩:=Rd.bind_some h;have hg:=c9 hg;have hx:u=kY (c.P n):=hx;cases ob with
  |row el ex xs=>
   cases mt with
   |true=>obtain rfl:=aD h;exact⟨xs,hg,rfl,hx⟩
   |false=>
    obtain rfl:=aD h;refine⟨λc1 h1 _=> ?_,λ_ _ _ hh=>by cases hh⟩
    obtain⟨r1,r2⟩:=rd hg c1 h1;rw[hx];exact qW b7 hg r1 r2
  |fE el xs=>
   obtain rfl:=aD h;refine⟨λc1 h1 _=> ?_,λ_ _ _ hh=>by cases hh⟩
   rw[hx];exact cT.frame (b7.obj n _ hg).1 (λ_ _=>rfl) (λb hb=>h1 b (.inl hb))
  |_=>simp at h
 |vw n lo hi=>
  cases mt with
  |true=>simp[zc]at h
  |false=>
  obtain⟨ob,hg,h⟩:=Rd.bind_some h;have hg:=c9 hg;cases ob with
  |row el ex xs=>
   obtain rfl:=aD h;refine⟨λc1 h1 _=> ?_,λ_ _ _ hh=>by cases hh⟩
   obtain⟨r1,r2⟩:=rd hg c1 h1;exact DP b7 hg r1 r2 hx
  |fE el xs=>
   obtain rfl:=aD h;refine⟨λc1 h1 _=> ?_,λ_ _ _ hh=>by cases hh⟩
   exact cT.frame (oE b7 hg hx) (λ_ _=>rfl) (λb hb=>h1 b (.inl hb))
  |_=>simp at h
 |inn n i j=>
  obtain⟨ob,hg,h⟩:=Rd.bind_some h;have hg:=c9 hg;cases ob with
  |row el ex xs=>
   cases ex with
   |false=>simp at h
   |true=>
   obtain⟨te,ht,h⟩:=Rd.bind_some h;have ht:=dH ht;split at h
   ·rename_i e2 wM;obtain⟨t2,Fa,h⟩:=Rd.bind_some h;obtain⟨_,h⟩:=cy h;obtain rfl:=aD h;obtain⟨⟨hi,hx⟩,_⟩:=hx;obtain⟨zs,y,t3,q1,q2,q3,q4,q5,q6,q7,q8⟩:=v8 b7 hg ht wM hi;refine⟨λc1 h1 _=> ?_,λ_ _ _ hh=>by cases hh⟩
    show cT E w c1.K u (.l e2 (iD (ar xs i j)));rw[eK q1 q2,hx];obtain⟨r1,r2⟩:=rd hg c1 h1;exact nk q3 q5 q6 (q7.frame (λ_=>rfl) (λi' j' y' x' u' hy' oH hr=>jx (gJ q4 (q6 y' (aP hy')) oH) hr)) (λhn=>r2 _ (.inr ⟨rfl,i,j,⟨y,_,q1,q2,rfl⟩,hn,rfl⟩))
   ·simp at h
  |_=>simp at h
 |_=>simp[zc]at h
theorem DH(b7:Ok E σ w c){mt:aW}:∀{xs:ay AV} {l:ay Pk},(BF E mt xs).val σ=ah l->l.length=xs.length/\∀(j:aE) (k:Pk),l[j]? =ah k->∃x,xs[j]? =ah x/\(zc E mt x).val σ=ah k:=by
 intro xs;induction xs with
 |nil=>intro l h;obtain rfl:=aD h;exact⟨rfl,λj k h=>by simp at h⟩
 |cons x xs ih=>
  intro l h;obtain⟨k,h1,h⟩:=Rd.bind_some h;obtain⟨l',h2,h⟩:=Rd.bind_some h;obtain rfl:=aD h;obtain⟨i1,i2⟩:=ih h2;refine⟨by simp[i1],λj k' hj=> ?_⟩
  cases j with
  |zero=>cases hj;exact⟨x,rfl,h1⟩
  |succ j=>exact i2 j k' hj
structure zo (T:Tab) (σ:St) (w:bD) (c:eJ) (mV:ay aE) (pa:Pa) (v:bf):Prop where
 len:pa.cs.length<=100
 val:pa.box=aj->∃agg,pa.arg= .v agg (pa.cs.map (·.a))/\((agg=ak/\∃k,pa.cs=[k]/\uK T σ w c mV k v)\/(agg=ai/\∃vals:c_ bf,v= .agg vals/\vals.size=pa.cs.length/\∀(j:aE) (k:Pk),pa.cs[j]? =ah k->∃u:bf,vals[j]? =ah u/\uK T σ w c mV k u))
 box:∀n xs,pa.box=ah (n,xs)->pa.arg= .pt (pa.cs.map (·.a))/\v= .pointer (ah (ad (c.P n).blk 0))/\σ (cR n)= .o (.box xs)/\pa.cs.length=xs.length/\
  (∃vals,mY w (c.P n).blk vals/\vals.size=xs.length/\∀(j:aE) (k:Pk),pa.cs[j]? =ah k->∃u:bf,vals[j]? =ah u/\uK T σ w c mV k u)/\
  ∀(j:aE) (k:Pk) (nm e:aE) (ex:aW),pa.cs[j]? =ah k->k.src= .own nm e ex->xs[j]? =ah (.own nm)
theorem Fm{pa:Pa}{j:aE}{k:Pk}(h:pa.cs[j]? =ah k):∀n∈k.rd,n∈pa.mV:=λn hn=>bG.2 ⟨k,aP h,hn⟩
theorem Nu{mt:aW}{x:AV}{k:Pk}(h:(zc E mt x).val σ=ah k){nm e:aE}{ex:aW}(hs:k.src= .own nm e ex):x= .own nm:=by
 cases x with
 |own n=>
  obtain⟨ob,hg,h⟩:=Rd.bind_some h;cases ob with
  |row el tc xs=>
   cases mt with
   |true=>obtain rfl:=aD h;cases hs;rfl
   |false=>obtain rfl:=aD h;cases hs
  |fE el xs=>obtain rfl:=aD h;cases hs
  |_=>simp at h
 |vw n lo hi=>
  cases mt with
  |true=>simp[zc]at h
  |false=>
  obtain⟨ob,hg,h⟩:=Rd.bind_some h;cases ob with
  |row=>obtain rfl:=aD h;cases hs
  |fE=>obtain rfl:=aD h;cases hs
  |_=>simp at h
 |inn n i j=>
  obtain⟨ob,hg,h⟩:=Rd.bind_some h;cases ob with
  |row el ex xs=>
   cases ex with
   |false=>simp at h
   |true=>
   obtain⟨te,ht,h⟩:=Rd.bind_some h;split at h
   ·obtain⟨t2,Fa,h⟩:=Rd.bind_some h;obtain⟨_,h⟩:=cy h;obtain rfl:=aD h;cases hs
   ·simp at h
  |_=>simp at h
 |i=>obtain rfl:=aD h;cases hs
 |b=>obtain rfl:=aD h;cases hs
 |s=>obtain rfl:=aD h;cases hs
 |nl=>obtain rfl:=aD h;cases hs
 |sh=>obtain rfl:=aD h;cases hs
 |fn=>obtain rfl:=aD h;cases hs
 |_=>simp[zc]at h
theorem Us(b7:Ok E σ w c){mt:aW}{x:SV}{pa:Pa}{v:bf}(h:(abq E mt x).val σ=ah pa)(hl:pa.cs.length<=100)(hx:iW E w c x v):zo E σ w c pa.mV pa v:=by
 have gen:∀agg xs,x= .v agg xs->((BF E mt xs).bind λl=>Rd.ret (⟨.v agg (l.map (·.a)),aj,l⟩:Pa)).val σ=ah pa->zo E σ w c pa.mV pa v:=by
  rintro agg xs rfl h;obtain⟨l,h1,h⟩:=Rd.bind_some h;obtain rfl:=aD h;obtain⟨i1,i2⟩:=DH b7 h1;refine⟨hl,λ_=>⟨agg,rfl, ?_⟩,λn ys hb=>by cases hb⟩
  replace hx:pD E w c agg xs v:=hx;unfold pD at hx;split at hx
  ·rename_i y;left;obtain⟨k,rfl⟩:=gG.1 (i1.trans rfl);obtain⟨y',hy,hk⟩:=i2 0 k rfl;cases hy;exact⟨rfl,k,rfl,(BD b7 hk hx).mono (Fm (j:=0) (pa:=⟨.v ak ([k].map (·.a)),aj,[k]⟩) rfl)⟩
  ·obtain⟨vals,rfl,hs,hv⟩:=hx;right;refine⟨rfl,vals,rfl,by rw[hs];exact i1.symm,λj k hj=> ?_⟩
   obtain⟨y,hy,hk⟩:=i2 j k hj;obtain⟨u,hu,ha⟩:=hv j y hy;exact⟨u,hu,(BD b7 hk ha).mono (Fm (j:=j) (pa:=⟨.v ai (l.map (·.a)),aj,l⟩) hj)⟩
  ·exact hx.elim
 unfold abq at h;split at h
 ·rename_i n;obtain⟨_,h⟩:=cy h;obtain⟨ob,hg,h⟩:=Rd.bind_some h;have hg:=c9 hg;cases ob with
  |box xs=>
   obtain⟨l,h1,h⟩:=Rd.bind_some h;obtain rfl:=aD h;obtain⟨i1,i2⟩:=DH b7 h1;obtain⟨vals,hb,hs,hv⟩:=b7.obj n _ hg;refine⟨hl,λhb=>(by cases hb),λm ys N0=> ?_⟩
   cases N0;refine⟨rfl,hx,hg,i1,⟨vals,hb,hs,λj k hj=> ?_⟩,λj k nm e ex hj CH=> ?_⟩
   ·obtain⟨y,hy,hk⟩:=i2 j k hj;obtain⟨u,hu,ha⟩:=hv j y hy;exact⟨u,hu,(BD b7 hk ha).mono (Fm (j:=j) (pa:=⟨.pt (l.map (·.a)),ah (n,xs),l⟩) hj)⟩
   ·obtain⟨y,hy,hk⟩:=i2 j k hj;rw[hy,Nu hk CH]
  |_=>simp at h
 ·rename_i agg xs _;exact gen _ _ rfl h
 ·simp at h
theorem LB{T:Tab}{k:Ck}{y:AV}{u:bf}(h:ea T w c y u):ea T w c (WB k y) u:=by
 unfold WB;split
 ·rename_i e;have:u= .slice aj 0 0:=h;subst this;exact .nl _ _ _
 ·exact h
theorem HA:∀(ks:ay Ck) (xs:ay AV),(Bq ks xs).length=xs.length
 |[],[]=>rfl
 |[],_::_=>rfl
 |_::_,[]=>rfl
 |k::ks,y::r=>by simp[Bq,HA ks r]
theorem LC{T:Tab}:∀(ks:ay Ck) (xs:ay AV) (j:aE) (y:AV),(Bq ks xs)[j]? =ah y->∃z,xs[j]? =ah z/\∀u,ea T w c z u->ea T w c y u
 |[],xs,j,y,h=>⟨y,by simpa [Bq]using h,λ_ h=>h⟩
 |_::_,[],j,y,h=>by simp[Bq]at h
 |k::ks,x::r,0,y,h=>by
  simp only[Bq,rG,jg]at h;subst h;exact⟨x,rfl,λu hu=>LB hu⟩
 |k::ks,x::r,j+1,y,h=>by simp only[Bq,dD]at h;exact LC ks r j y h
theorem acY{T:Tab}{t:aC aE}{s:SV}{v:bf}(h:iW T w c s v):iW T w c (nlz T t s) v:=by
 unfold nlz;split
 ·exact h
 ·split
  ·rename_i ti g xs _;have h:pD T w c g xs v:=h;show pD T w c g (Bq ti.ks xs) v;unfold pD at h;split at h
   ·rename_i y;cases hk:ti.ks with
    |nil=>exact h
    |cons k ks=>
     have e:∀z,Bq (k::ks) [z]=[WB k z]:=λz=>by cases ks<;>rfl
     rw[e];exact LB h
   ·obtain⟨vals,h1,h2,h3⟩:=h;refine⟨vals,h1,by rw[HA];exact h2,λj y hj=> ?_⟩
    obtain⟨z,hz,hy⟩:=LC (T:=T) (w:=w) (c:=c) ti.ks _ j y hj;obtain⟨u,hu,ha⟩:=h3 j z hz;exact⟨u,hu,hy u ha⟩
   ·cases h
  ·exact h
theorem PS(b7:Ok E σ w c)(dp:eS E σ a w c){f:aE}{N8:aC (ay aE)}:∀{xs:ay da} {p:aE} {ps:ay Pa},(PR E f N8 p xs).val σ=ah ps->ps.length=xs.length/\∀(q:aE) (pa:Pa),ps[q]? =ah pa->∃x,xs[q]? =ah x/\zo E σ w c pa.mV pa (a.eval x):=by
 intro xs;induction xs with
 |nil=>intro p ps h;obtain rfl:=aD h;exact⟨rfl,λq pa h=>by simp at h⟩
 |cons x xs ih=>
  intro p ps h;obtain⟨v,h1,h⟩:=Rd.bind_some h;obtain⟨pa,h2,h⟩:=Rd.bind_some h;obtain⟨hl,h⟩:=cy h;obtain⟨l,h3,h⟩:=Rd.bind_some h;obtain rfl:=aD h;obtain⟨i1,i2⟩:=ih h3;refine⟨by simp[i1],λq pa' hq=> ?_⟩
  cases q with
  |zero=>
   cases hq;refine⟨x,rfl,Us b7 h2 (cD hl) ?_⟩
   cases E.mode f p with
   |true=>exact(lL dp h1).1
   |false=>exact acY (lL dp h1).1
  |succ q=>exact i2 q pa' hq
theorem zo.mono{T:Tab}{mV RW:ay aE}{pa:Pa}{v:bf}(h:zo T σ w c mV pa v)(hs:∀n∈mV,n∈RW):zo T σ w c RW pa v:=by
 refine⟨h.len,λhb=> ?_,λn xs hb=> ?_⟩
 ·obtain⟨agg,h1,h2⟩:=h.val hb;refine⟨agg,h1, ?_⟩
  rcases h2 with ⟨h3,k,h4,h5⟩|⟨h3,vals,h4,h5,h6⟩
  ·exact .inl ⟨h3,k,h4,h5.mono hs⟩
  ·exact .inr ⟨h3,vals,h4,h5,λj k hj=>by obtain⟨u,hu,hk⟩:=h6 j k hj;exact⟨u,hu,hk.mono hs⟩⟩
 ·obtain⟨h1,h2,h3,h4,⟨vals,h5,h6,h7⟩,h8⟩:=h.box n xs hb;exact⟨h1,h2,h3,h4,⟨vals,h5,h6,λj k hj=>by obtain⟨u,hu,hk⟩:=h7 j k hj;exact⟨u,hu,hk.mono hs⟩⟩,h8⟩
end
end Go.FG

namespace Go.FG
theorem lr{α:Type}{f:α->ay aE}:∀{l:ay α},(l.flatMap f).Nodup->(∀(i j:aE) (x y:α) (z:aE),l[i]? =ah x->l[j]? =ah y->z∈f x->z∈f y->i=j)/\∀x∈l,(f x).Nodup:=by
 intro l;induction l with
 |nil=>intro _;exact⟨λi j x y z h=>by simp at h,λx h=>by cases h⟩
 |cons a l ih=>
  intro h;rw[wX]at h;obtain⟨h1,h2,h3⟩:=dY.1 h;obtain⟨i1,i2⟩:=ih h2;refine⟨λi j x y z hi hj hx hy=> ?_,λx hx=> ?_⟩
  ·cases i with
   |zero=>
    cases hi;cases j with
    |zero=>rfl
    |succ j=>exact cE rfl (h3 z hx z (bG.2 ⟨y,aP hj,hy⟩))
   |succ i=>
    cases j with
    |zero=>cases hj;exact cE rfl (h3 z hy z (bG.2 ⟨x,aP hi,hx⟩))
    |succ j=>rw[i1 i j x y z hi hj hx hy]
  ·rcases cz.1 hx with rfl|hx
   ·exact h1
   ·exact i2 x hx
def loc(ps:ay Pa)(m:aE):aC aE:=
 match ps[(m-900000000)/1000]? with
 |none=>aj
 |some pa=>if(m-900000000)%1000=900 then pa.box.map (·.1)else(pa.cs[(m-900000000)%1000]?).bind λk=>match k.src with| .own nm _ _=>ah nm| .no=>aj
theorem Fk{ps:ay Pa}{p j:aE}{pa:Pa}{k:Pk}{nm e:aE}{ex:aW}(hp:ps[p]? =ah pa)(hj:pa.cs[j]? =ah k)(hs:k.src= .own nm e ex)(hl:j<900):loc ps (dK p j)=ah nm:=by obtain⟨h1,h2⟩:=tp (p:=p) (j:=j) (by omega);unfold loc;rw[h1,h2,hp];simp only;rw[bH (by omega),hj];simp only[Option.bind_some,hs]
theorem z5{ps:ay Pa}{p n:aE}{pa:Pa}{xs:ay AV}(hp:ps[p]? =ah pa)(hb:pa.box=ah (n,xs)):loc ps (dK p 900)=ah n:=by obtain⟨h1,h2⟩:=tp (p:=p) (j:=900) (by omega);unfold loc;rw[h1,h2,hp];simp[hb]
def pY(σ:St)(c:eJ)(ps:ay Pa):eJ:=
 ⟨λm=>match loc ps m with|some n=>c.P n|none=>⟨ai,0,0,0,0,0⟩,λm=>match loc ps m with|some n=>c.G n|none=>λ_ _=>⟨ai,0,0,0,0,0⟩,K1r σ c (ps.flatMap (·.mV))⟩
theorem s9{σ:St}{c:eJ}{ps:ay Pa}{m n:aE}(h:loc ps m=ah n):(pY σ c ps).P m=c.P n/\(pY σ c ps).G m=c.G n:=by unfold pY;simp only[h];exact⟨trivial,trivial⟩
section
variable {P:cM} {E:fm} {σ:St} {a:Act} {w:bD} {c:eJ} {o:eV} {nm:aE} {e:rW}
structure Handed (T:Tab) (σ:St) (w:bD) (c:eJ) (ps:ay Pa) (zT:ay (ay CV)) (vs:c_ bf):Prop where
 size:vs.size=ps.length+zT.length
 at_:∀(q:aE) (pa:Pa),ps[q]? =ah pa->∃v,vs[q]? =ah v/\zo T σ w c (ps.flatMap (·.mV)) pa v
 fb:∀(q:aE) (cs:ay CV),zT[q]? =ah cs->∃b,vs[ps.length+q]? =ah (.pointer (ah (ad b 0)))/\FB T w c.K b cs
 nd:(ps.flatMap (·.tn)).Nodup
 ap:∀n∈ps.flatMap (·.tn),n∉ps.flatMap (·.mV)
def jl(ps:ay Pa)(zT:ay (ay CV)):ay eQ:=ps.map (·.arg)++zT.map eQ.fb
theorem uU{ps:ay Pa}{zT:ay (ay CV)}{p:aE}{x:eQ}(h:(jl ps zT)[p]? =ah x):(∃pa,ps[p]? =ah pa/\x=pa.arg)\/(ps.length<=p/\∃cs,zT[p-ps.length]? =ah cs/\x= .fb cs):=by
 unfold jl at h;by_cases hp:p<ps.length
 ·rw[dr (by simpa using hp),bF]at h;cases hq:ps[p]? with
  |none=>rw[hq]at h;cases h
  |some pa=>rw[hq]at h;cases h;exact .inl ⟨pa,rfl,rfl⟩
 ·rw[cX (by simp;omega),bF,bN]at h;cases hq:zT[p-ps.length]? with
  |none=>rw[hq]at h;cases h
  |some cs=>rw[hq]at h;cases h;exact .inr ⟨by omega,cs,rfl,rfl⟩
theorem RM{T:Tab}{ps:ay Pa}{p j:aE}{pa:Pa}{k:Pk}{u:bf}(hp:ps[p]? =ah pa)(hj:pa.cs[j]? =ah k)(hl:j<900)(h:uK T σ w c (ps.flatMap (·.mV)) k u):ea T w (pY σ c ps) (kK (dK p j) k.a) u:=by
 unfold uK at h;split at h
 ·rename_i n e ex hs;obtain⟨xs,h1,h2,h3⟩:=h;rw[h2];show u=kY ((pY σ c ps).P (dK p j));rw[(s9 (Fk hp hj hs hl)).1];exact h3
 ·exact h.1 _ (λb hb=>hb) _
theorem RK{T:Tab}{mV:ay aE}{pa:Pa}{v:bf}(h:zo T σ w c mV pa v){xs:ay AA}(hx:(∃g,pa.arg= .v g xs)\/pa.arg= .pt xs):xs=pa.cs.map (·.a)/\∀(j:aE) (k:Pk),pa.cs[j]? =ah k->∃u,uK T σ w c mV k u:=by
 cases hb:pa.box with
 |none=>
  obtain⟨agg,h1,h2⟩:=h.val hb;rw[h1]at hx;have:xs=pa.cs.map (·.a):=by rcases hx with ⟨g,hx⟩|hx<;>cases hx;rfl
  refine⟨this,λj k hj=> ?_⟩
  rcases h2 with ⟨_,k',hk,hp⟩|⟨_,vals,_,_,hp⟩
  ·rw[hk]at hj;cases j with
   |zero=>cases hj;exact⟨_,hp⟩
   |succ j=>simp at hj
  ·obtain⟨u,_,hu⟩:=hp j k hj;exact⟨u,hu⟩
 |some nx=>
  obtain⟨n,ys⟩:=nx;obtain⟨h1,_,_,_,⟨vals,_,_,hp⟩,_⟩:=h.box n ys hb;rw[h1]at hx;have:xs=pa.cs.map (·.a):=by rcases hx with ⟨g,hx⟩|hx<;>cases hx;rfl
  exact⟨this,λj k hj=>by obtain⟨u,_,hu⟩:=hp j k hj;exact⟨u,hu⟩⟩
theorem v7(b7:Ok E σ w c){ps:ay Pa}{zT:ay (ay CV)}{vs:c_ bf}(hh:Handed E σ w c ps zT vs){m:aE}{ob:Obj}(h:inj (jl ps zT) (cR m)= .o ob):
  ∃n o p pa,loc ps m=ah n/\ps[p]? =ah pa/\n∈pa.tn/\σ (cR n)= .o o/\o7 E w (pY σ c ps) m ob/\(∀b,e8 (pY σ c ps) m ob b->e8 c n o b)/\
   ((m=dK p 900/\∃xs,pa.box=ah (n,xs))\/∃j k e ex,m=dK p j/\j<900/\pa.cs[j]? =ah k/\k.src= .own n e ex):=by
 obtain⟨p,x,h0,h⟩:=zY h;have aqm:∀cs xs,x= .fb cs->¬((∃g,x= .v g xs)\/x= .pt xs):=by rintro cs xs rfl (⟨g,h⟩|h)<;>cases h
 rcases uU h0 with ⟨pa,hp,rfl⟩|⟨_,cs,_,hx⟩
 ·obtain⟨v,hv,Jy⟩:=hh.at_ p pa hp;rcases h with ⟨xs,hx,rfl,rfl⟩|⟨xs,j,e,ex,ys,hx,hj,rfl,rfl⟩
  ·cases hb:pa.box with
   |none=>obtain⟨agg,h1,_⟩:=Jy.val hb;rw[h1]at hx;cases hx
   |some nx=>
    obtain⟨n,zs⟩:=nx;obtain⟨h1,h2,h3,h4,⟨vals,h5,h6,h7⟩,_⟩:=Jy.box n zs hb;rw[h1]at hx;cases hx;have Qt:=z5 hp hb;obtain⟨e1,e2⟩:=s9 (σ:=σ) (c:=c) Qt;refine⟨n,_,p,pa,Qt,hp,by simp[Pa.tn,hb],h3, ?_,λb hf=>by rw[show b=_ from hf,e1];rfl, .inl ⟨rfl,zs,hb⟩⟩
    refine⟨vals,by rw[e1];exact h5,by rw[iB,bN,h6];exact h4.symm,λj y hj=> ?_⟩
    rw[ie,bF]at hj;cases hk:pa.cs[j]? with
    |none=>rw[hk]at hj;cases hj
    |some k=>
     rw[hk]at hj;cases hj;obtain⟨u,hu,U2⟩:=h7 j k hk;have js:j<900:=by have:=(aT.1 hk).1;have:=Jy.len;omega
     refine⟨u,hu, ?_⟩
     have hn:dK p 0+j=dK p j:=by unfold dK;omega
     rw[hn];exact RM hp hk js U2
  ·obtain⟨Yt,U2⟩:=RK Jy hx;rw[Yt,bF]at hj;cases hk:pa.cs[j]? with
   |none=>rw[hk]at hj;cases hj
   |some k=>
    rw[hk]at hj;have hka:k.a= .ow e ex ys:=by simpa using hj
    obtain⟨u,hu⟩:=U2 j k hk;have js:j<900:=by have:=(aT.1 hk).1;have:=Jy.len;omega
    unfold uK at hu;split at hu
    ·rename_i n e' tc hs;obtain⟨zs,q1,q2,q3⟩:=hu;rw[hka]at q2;cases q2;have Qt:=Fk hp hk hs js;obtain⟨e1,e2⟩:=s9 (σ:=σ) (c:=c) Qt;refine⟨n,_,p,pa,Qt,hp, ?_,q1, ?_,λb hf=>by rw[lJ (c:=⟨λ_=>c.P n,λ_=>c.G n,c.K⟩) (c':=pY σ c ps) ⟨e1,e2⟩]at hf;exact hf, .inr ⟨j,k,e,ex,rfl,js,hk,hs⟩⟩
     ·refine bK _ (bG.2 ⟨k,aP hk, ?_⟩);simp[Pk.tn,hs]
     ·have mh:=b7.obj n _ q1;obtain⟨⟨t2,r1,r2,r3⟩,r4,r5⟩:=mh;refine⟨⟨t2,r1,by rw[e1];exact r2,r3⟩, ?_,λhx=>by rw[e1,e2];exact r5 hx⟩
      rw[e1,e2];refine r4.frame (λ_=>rfl) (λi j y x u hy hx hr=> ?_);split at hr
      ·rename_i oH;rw[bw oH];exact hr
      ·rename_i oH;rw[bH oH];exact hr.frame (λ_ _=>rfl) (λb hb=> .inl hb)
    ·exact cE hka (hu.2 _ _ _)
 ·rcases h with ⟨xs,h,_⟩|⟨xs,j,e,ex,ys,h,_⟩
  ·rw[hx]at h;cases h
  ·exact cE h (aqm cs xs hx)
theorem enter(b7:Ok E σ w c){ps:ay Pa}{zT:ay (ay CV)}{vs:c_ bf}(hh:Handed E σ w c ps zT vs):
  Ok E (inj (jl ps zT)) w (pY σ c ps)/\(∀(p:aE) (x:eQ),(jl ps zT)[p]? =ah x->∃v,vs[p]? =ah v/\iW E w (pY σ c ps) (sF p x) v)/\
  ∀b,uJ (inj (jl ps zT)) (pY σ c ps) b->∃n∈ps.flatMap (·.tn),∃o,σ (cR n)= .o o/\e8 c n o b:=by
 have Hy:∀{p:aE} {pa:Pa} {n:aE},ps[p]? =ah pa->n∈pa.tn->n∈ps.flatMap (·.tn):=λhp hn=>bG.2 ⟨_,aP hp,hn⟩;obtain⟨nd1,nd2⟩:=lr hh.nd;refine⟨⟨λm ob h=> ?_,λm ob m' ob' b h h' hf vZ=> ?_,λm ob b h hf hk=> ?_,λb hb=> ?_,λm xs h=>Ff h,E.gp.fr b7.gp (λ_ _=>rfl) (λb hb=> .inl hb)⟩,λp x hx=> ?_, ?_⟩
 ·obtain⟨n,o,p,pa,_,_,_,_,h,_⟩:=v7 b7 hh h;exact h
 ·obtain⟨n,o,p,pa,_,hp,hn,ho,_,pd,kC⟩:=v7 b7 hh h;obtain⟨n',o',p',pa',_,mA,j5,uj,_,Qr,Yp⟩:=v7 b7 hh h';have:=b7.sep n o n' o' b ho uj (pd b hf) (Qr b vZ);subst this;have:=nd1 p p' pa pa' n hp mA hn j5;subst this;rw[hp]at mA;cases mA;have ndm:=nd2 pa (aP hp);unfold Pa.tn at ndm;obtain⟨_,m2,m3⟩:=dY.1 ndm;have agh:∀(j:aE) (k:Pk) (e:aE) (ex:aW),pa.cs[j]? =ah k->k.src= .own n e ex->n∈pa.cs.flatMap (·.tn):=λj k e ex hk hs=>bG.2 ⟨k,aP hk,by simp[Pk.tn,hs]⟩;rcases kC with ⟨rfl,xs,hb⟩|⟨j,k,e,ex,rfl,hj,hk,hs⟩
  ·rcases Yp with ⟨rfl,_⟩|⟨j',k',e',tc,rfl,E6,ui,hs'⟩
   ·rfl
   ·exact cE rfl (m3 n (by simp[hb]) n (agh _ _ _ _ ui hs'))
  ·rcases Yp with ⟨rfl,xs,hb⟩|⟨j',k',e',tc,rfl,E6,ui,hs'⟩
   ·exact cE rfl (m3 n (by simp[hb]) n (agh _ _ _ _ hk hs))
   ·have:=(lr m2).1 j j' k k' n hk ui (by simp[Pk.tn,hs]) (by simp[Pk.tn,hs']);rw[this]
 ·obtain⟨n,o,p,pa,_,hp,hn,ho,_,pd,_⟩:=v7 b7 hh h;rcases hk with hk|⟨n',j5,o',uj,vZ⟩
  ·exact b7.kk n o b ho (pd b hf) hk
  ·have:=b7.sep n o n' o' b ho uj (pd b hf) vZ;subst this;exact hh.ap n (Hy hp hn) j5
 ·rcases hb with hb|⟨n',j5,o',uj,vZ⟩
  ·exact b7.lt b hb
  ·exact uJ.lt b7 ⟨n',o',uj,vZ⟩
 ·rcases uU hx with ⟨pa,hp,rfl⟩|⟨hle,cs,B_,rfl⟩
  ·obtain⟨v,hv,Jy⟩:=hh.at_ p pa hp;refine⟨v,hv, ?_⟩
   have small:∀{j:aE} {k:Pk},pa.cs[j]? =ah k->j<900:=λhj=>by have:=(aT.1 hj).1;have:=Jy.len;omega
   cases hb:pa.box with
   |none=>
    obtain⟨agg,h1,h2⟩:=Jy.val hb;rw[h1];rcases h2 with ⟨rfl,k,hk,U2⟩|⟨rfl,vals,rfl,hs,hc⟩
    ·rw[hk];have:=RM (j:=0) hp (by rw[hk];rfl) (by omega) U2;exact this
    ·refine⟨vals,rfl,by rw[iB,bN];exact hs,λj y hj=> ?_⟩
     rw[ie,bF]at hj;cases hk:pa.cs[j]? with
     |none=>rw[hk]at hj;cases hj
     |some k=>
      rw[hk]at hj;cases hj;obtain⟨u,hu,U2⟩:=hc j k hk;refine⟨u,hu, ?_⟩
      have hn:dK p 0+j=dK p j:=by unfold dK;omega
      rw[hn];exact RM hp hk (small hk) U2
   |some nx=>obtain⟨n,zs⟩:=nx;obtain⟨h1,h2,_⟩:=Jy.box n zs hb;rw[h1];show v= .pointer (ah (ad ((pY σ c ps).P (dK p 900)).blk 0));rw[(s9 (z5 hp hb)).1];exact h2
  ·obtain⟨b,hv,hf⟩:=hh.fb (p-ps.length) cs B_;rw[show ps.length+(p-ps.length)=p by omega]at hv;exact⟨_,hv,b,rfl,hf.frame (λ_ _=>rfl) (λb hb=> .inl hb)⟩
 ·rintro b ⟨m,ob,h,hf⟩;obtain⟨n,o,p,pa,_,hp,hn,ho,_,pd,_⟩:=v7 b7 hh h;exact⟨n,Hy hp hn,o,ho,pd b hf⟩
end
end Go.FG

namespace Go.FG
def sK(p j:aE)(a:AA):AV:=match a with| .kp _=> .own (dK p j)|a=>kK (dK p (100+j)) a
def nC(p:aE):aE->ay AA->ay AV
 |_,[]=>[]|j,a::r=>sK p j a::nC p (j+1) r
def HI(p j:aE)(a b:AA):ay (aE×eA):=
 match b with
 | .kp ys=>(match a with| .ow e ex _=>[(cR (dK p j), .o (.row e ex ys))]|_=>[])
 | .ow e ex ys=>[(cR (dK p (100+j)), .o (.row e ex ys))]
 |_=>[]
def sL(p:aE):aE->ay AA->ay AA->ay (aE×eA)
 |_,_,[]=>[]|j,as,b::r=>HI p j (as.headD .nl) b++sL p (j+1) as.tail r
def Bz(p:aE)(a:eQ)(l:ay AA):ay (aE×eA):=
 match a with
 | .v _ xs=>sL p 0 xs l
 | .pt xs=>(cR (dK p 900), .o (.box (nC p 0 l)))::sL p 0 xs l
 | .fb _=>[]
def JV:aE->ay eQ->ay (ay AA)->ay (aE×eA)
 |_,[],_=>[]|p,a::r,l=>Bz p a (l.headD [])++JV (p+1) r l.tail
def J4:aE->ay eQ->ay (aE×eA)
 |_,[]=>[]|q,a::r=>uk q a++J4 (q+1) r
def nL(args:ay eQ)(r:dE):St:=fN (J4 500 r.rs++JV 0 args r.outs)
def EM(q:aE)(a:eQ):aW×ay AV:=match a with| .v g xs=>(g,gf (dK q 0) xs)| .pt _=>(ak,[.bp (dK q 900) 0])| .fb xs=>(ak,[.fp xs 0])
def kL:aE->ay eQ->ay (aW×ay AV)
 |_,[]=>[]|q,a::r=>EM q a::kL (q+1) r
def WY(rs:ay eQ):SV:=rD (kL 500 rs)
def PF(T:Tab)(args:ay eQ)(r:dE)(c1:eJ)(w:bD)(v:bf)(w':bD):Prop:=
 ∃c3,Ok T (nL args r) w' c3/\nO (inj args) c1 w (nL args r) c3 w'/\(∀m,inj args (cR m)≠ .jq->c3.P m=c1.P m/\c3.G m=c1.G m)/\iW T w' c3 (WY r.rs) v
def k_(P:cM)(T:Tab)(g:aE)(spec:ay eQ->aC (aW×dE)):Prop:=
 ∀args r,spec args=ah (ai,r)->∀(w:bD) (c1:eJ) (vs:c_ bf),Ok T (inj args) w c1->vs.size=args.length->(∀(p:aE) (x:eQ),args[p]? =ah x->∃v,vs[p]? =ah v/\iW T w c1 (sF p x) v)->
  (∃fn,P.funcs[g]? =ah fn/\fn.body.isSome=ai/\(fn.name== "runtime.NumGoroutine")=ak)/\Calls P g vs w (λ| .returned v,w'=>PF T args r c1 w v w'|_,_=>False)
abbrev Cf:=aE×aC aE×Obj
def find(L:ay Cf)(m:aE):aC aE:=
 match L with
 |[]=>aj
 |(n,t,_)::r=>if m=n then t else find r m
theorem G5{L:ay Cf}{m x:aE}(h:find L m=ah x):∃ob,(m,ah x,ob)∈L:=by
 induction L with
 |nil=>cases h
 |cons d L ih=>
  obtain⟨n,t,ob⟩:=d;unfold find at h;split at h
  ·rename_i hm;subst hm;rw[h];exact⟨ob,dA ..⟩
  ·obtain⟨ob,h⟩:=ih h;exact⟨ob,cU _ h⟩
theorem UN{L:ay Cf}{m:aE}{t:aC aE}{ob:Obj}(h:(m,t,ob)∈L)(hn:(L.map (·.1)).Nodup):find L m=t:=by
 induction L with
 |nil=>cases h
 |cons d L ih=>
  obtain⟨n,t',ob'⟩:=d;rw[eW,jY]at hn;unfold find;rcases cz.1 h with h'|h'
  ·cases h';rw[bw rfl]
  ·have il:m≠n:=λe=>hn.1 (cO.2 ⟨_,h',e⟩);rw[bH il];exact ih h' hn.2
def lA(ok:aW)(L:ay Cf)(v v3:AV):Prop:=
 (v=v3/\match v with| .i _ _=>True| .b _=>True| .s _=>True| .nl=>True| .sh _ _=>ok=ai|_=>False)\/∃n x ob,v= .own n/\v3= .own x/\(n,ah x,ob)∈L
def Xy(L:ay Cf)(v v3:AV):Prop:=∃n x ob,v= .bp n 0/\v3= .bp x 0/\(n,ah x,ob)∈L
def m7(ok:aW)(L:ay Cf)(vs vs3:ay AV):Prop:=vs.length=vs3.length/\∀(j:aE) (v v3:AV),vs[j]? =ah v->vs3[j]? =ah v3->lA ok L v v3
def ArgRel(ok:aW)(L:ay Cf)(s s3:aW×ay AV):Prop:=s.1=s3.1/\s.2.length=s3.2.length/\∀(j:aE) (v v3:AV),s.2[j]? =ah v->s3.2[j]? =ah v3->lA ok L v v3\/Xy L v v3
def DT(ok:aW)(L:ay Cf)(s s3:ay (aW×ay AV)):Prop:=s.length=s3.length/\∀(j:aE) (x x3:aW×ay AV),s[j]? =ah x->s3[j]? =ah x3->ArgRel ok L x x3
structure XB (σ σ3:St) (c c3:eJ) (ok:aW) (tn:ay aE) (L:ay Cf) (n:aE) (t:aC aE) (ob:Obj):Prop where
 old:σ (cR n)≠ .jq->n∈tn
 new:σ (cR n)= .jq->n<900000000
 dead:t=aj->ob= .dead
 some_:∀x,t=ah x->(σ (cR n)≠ .jq->c3.P x=c.P n/\c3.G x=c.G n)/\
  ((∃e ex ys,ob= .row e ex ys/\σ3 (cR x)= .o (.row e ex ys)/\(ex=ai\/ok=ai))\/∃vs vs3,ob= .box vs/\σ3 (cR x)= .o (.box vs3)/\m7 ok L vs vs3)
section
variable {P:cM} {E:fm} {σ:St} {a:Act} {w:bD} {c:eJ} {o:eV} {nm:aE} {e:rW}
theorem leave(b7:Ok E σ w c)(dp:eS E σ a w c)(hd:∀d,o.dst=ah d->d<a.tmps.size){ps:ay Pa}{zT:ay (ay CV)}{vs:c_ bf}(hh:Handed E σ w c ps zT vs)
  {r:dE} {v:bf} {w':bD} {c3:eJ} (E8:Ok E (nL (jl ps zT) r) w' c3) (wL:nO (inj (jl ps zT)) (pY σ c ps) w (nL (jl ps zT) r) c3 w') (wN:iW E w' c3 (WY r.rs) v)
  {ok:aW} {L:ay Cf} {Fz:ay (aE×Obj)} (hL:∀n t ob,(n,t,ob)∈L->XB σ (nL (jl ps zT) r) c c3 ok (ps.flatMap (·.tn)) L n t ob) (Hh:(L.map (·.1)).Nodup)
  (anK:∀n n' x ob ob',(n,ah x,ob)∈L->(n',ah x,ob')∈L->n=n') (oY:∀n∈ps.flatMap (·.tn),∃t ob,(n,t,ob)∈L)
  (hFz:∀n x,(n,x)∈Fz->ok=ai/\n∈ps.flatMap (·.mV)/\∃el ex xs,σ (cR n)= .o (.row el ex xs)/\x= .fE el xs) (hFa:ok=ai->∀n∈ps.flatMap (·.mV),∃x,(n,x)∈Fz)
  {ss:ay (aW×ay AV)} (hss:DT ok L ss (kL 500 r.rs)):
  ∃c',Ok E (wr σ (jJ (Fz++L.map λt=>(t.1,t.2.2))++dw o (rD ss))) w' c'/\eS E (wr σ (jJ (Fz++L.map λt=>(t.1,t.2.2))++dw o (rD ss))) (a.put o.dst v) w' c'/\nO σ c w (wr σ (jJ (Fz++L.map λt=>(t.1,t.2.2))++dw o (rD ss))) c' w'/\ji σ c c':=by
 obtain⟨Qy,_,af6⟩:=enter b7 hh;let D:ay (aE×Obj):=Fz++L.map λt=>(t.1,t.2.2)
 have Q8:∀n x,(n,x)∈D->(n,x)∈Fz\/∃t,(n,t,x)∈L:=by
  intro n x hm;rcases a_.1 hm with h|h
  ·exact .inl h
  ·obtain⟨⟨n',t,ob⟩,h1,h2⟩:=cO.1 h;cases h2;exact .inr ⟨t,h1⟩
 have inD:∀n t ob,(n,t,ob)∈L->(n,ob)∈D:=λn t ob h=>bK _ (cO.2 ⟨_,h,rfl⟩);have aqk:∀n,n∈ps.flatMap (·.tn)->tG D n:=λn hn=>by obtain⟨t,ob,h⟩:=oY n hn;exact⟨ob,inD n t ob h⟩
 have BB:∀b,uJ (inj (jl ps zT)) (pY σ c ps) b->jA (tG D) σ c b:=λb hb=>by obtain⟨n,hn,ob,h1,h2⟩:=af6 b hb;exact⟨n,ob,aqk n hn,h1,h2⟩
 let K':aE->Prop:=λb=>if ok=ai then c3.K b else c.K b
 let c':eJ:=⟨λm=>match find L m with|some x=>c3.P x|none=>c.P m,λm=>match find L m with|some x=>c3.G x|none=>c.G m,K'⟩
 have at_:∀n x ob,(n,ah x,ob)∈L->c'.P n=c3.P x/\c'.G n=c3.G x:=λn x ob h=>by have:=UN h Hh;simp only[c',this];exact⟨trivial,trivial⟩
 have agE:∀n,find L n=aj->c'.P n=c.P n/\c'.G n=c.G n:=λn h=>by simp only[c',h];exact⟨trivial,trivial⟩
 have hA:ji σ c c':=by
  intro m hm;cases hf:find L m with
  |none=>exact agE m hf
  |some x=>
   obtain⟨ob,hx⟩:=G5 hf;obtain⟨e1,e2⟩:=at_ m x ob hx;have he:=hL m _ ob hx;rw[e1,e2];by_cases hn:σ (cR m)= .jq
   ·have:=he.new hn;rcases hm with h|h
    ·exact cE hn h
    ·omega
   ·exact(he.some_ x rfl).1 hn
 have Kok:ok=ai->∀b,K' b↔c3.K b:=λh b=>by simp only[K',h,if_true]
 have Kno:ok=ak->∀b,K' b↔c.K b:=λh b=>by simp only[K',h];simp
 have K13:∀b,(pY σ c ps).K b->c3.K b:=wL.K;have cK1:∀b,c.K b->(pY σ c ps).K b:=λb hb=> .inl hb;have hK:∀b,c.K b->K' b:=λb hb=>by
  cases h:ok with
  |true=>exact(Kok h b).2 (K13 b (cK1 b hb))
  |false=>exact(Kno h b).2 hb
 have TH:∀b,K' b->c.K b\/jA (tG D) σ c b\/w.heap.size<=b:=λb hb=>by
  cases h:ok with
  |true=>
   rcases wL.kn b ((Kok h b).1 hb)with h1|h1|h1
   ·rcases h1 with h1|⟨n,hn,ob,h2,h3⟩
    ·exact .inl h1
    ·obtain⟨x,hx⟩:=hFa h n hn;exact .inr (.inl ⟨n,ob,⟨x,bU _ hx⟩,h2,h3⟩)
   ·exact .inr (.inl (BB b h1))
   ·exact .inr (.inr h1)
  |false=>exact .inl ((Kno h b).1 hb)
 have E4:∀b,K' b->b<w'.heap.size:=λb hb=>by
  cases h:ok with
  |true=>exact E8.lt b ((Kok h b).1 hb)
  |false=>exact ig (b7.lt b ((Kno h b).1 hb)) wL.size
 have Qi:∀n x ob b,(n,ah x,ob)∈L->e8 c' n ob b->∃o3,nL (jl ps zT) r (cR x)= .o o3/\e8 c3 x o3 b:=by
  intro n x ob b hm hf;obtain⟨e1,e2⟩:=at_ n x ob hm;rcases((hL n _ ob hm).some_ x rfl).2 with ⟨e,ex,ys,rfl,h3,_⟩|⟨us,us3,rfl,h3,_⟩
  ·refine⟨_,h3, ?_⟩
   simp only[e8,e1,e2]at hf⊢;exact hf
  ·refine⟨_,h3, ?_⟩
   simp only[e8,e1]at hf⊢;exact hf
 have P3:∀{v v3:AV} {u:bf},lA ok L v v3->ea E w' c3 v3 u->ea E w' c' v u/\∀n∈bE v,tG D n:=by
  rintro v v3 u (⟨rfl,h⟩|⟨n,x,ob,rfl,rfl,hm⟩) hu
  ·cases v with
   |sh e xs=>exact⟨cT.frame hu (λ_ _=>rfl) (λb hb=>(Kok h b).2 hb),λn hn=>by simp[bE]at hn⟩
   |i=>exact⟨hu,λn hn=>by simp[bE]at hn⟩
   |b=>exact⟨hu,λn hn=>by simp[bE]at hn⟩
   |s=>exact⟨hu,λn hn=>by simp[bE]at hn⟩
   |nl=>exact⟨hu,λn hn=>by simp[bE]at hn⟩
   |_=>exact h.elim
  ·refine⟨?_,λm uZ=> ?_⟩
   ·show u=kY (c'.P n);rw[(at_ n x ob hm).1];exact hu
   ·have:m=n:=by simpa [bE]using uZ
    subst this;exact⟨ob,inD _ _ _ hm⟩
 have am6:∀{v v3:AV} {u:bf},Xy L v v3->ea E w' c3 v3 u->ea E w' c' v u/\∀n∈bE v,tG D n:=by
  rintro v v3 u ⟨n,x,ob,rfl,rfl,hm⟩ hu;refine⟨?_,λm uZ=> ?_⟩
  ·show u= .pointer (ah (ad (c'.P n).blk 0));rw[(at_ n x ob hm).1];exact hu
  ·have:m=n:=by simpa [bE]using uZ
   subst this;exact⟨ob,inD _ _ _ hm⟩
 have X5:∀{s s3:aW×ay AV} {u:bf},ArgRel ok L s s3->pD E w' c3 s3.1 s3.2 u->pD E w' c' s.1 s.2 u/\∀n∈s.2.flatMap bE,tG D n:=by
  rintro ⟨g,xs⟩ ⟨g3,xs3⟩ u ⟨h1,h2,h3⟩ hu;have h1:g=g3:=h1;subst h1;have one:∀(j:aE) (y:AV) (uu:bf),xs[j]? =ah y->(∀y3,xs3[j]? =ah y3->ea E w' c3 y3 uu)->ea E w' c' y uu/\∀n∈bE y,tG D n:=by
   intro j y uu hj hu3;have js:j<xs3.length:=by rw[<-h2];exact(aT.1 hj).1
   have Li:=h3 j y xs3[j] hj (by simp[js]);have rA:=hu3 xs3[j] (by simp[js]);rcases Li with h|h
   ·exact P3 h rA
   ·exact am6 h rA
  replace hu:pD E w' c3 g xs3 u:=hu;unfold pD at hu;split at hu
  ·rename_i y3;obtain⟨y,rfl⟩:=gG.1 (show xs.length=1 from h2);obtain⟨k1,k2⟩:=one 0 y u rfl (λy3' h=>by cases h;exact hu);exact⟨k1,λn hn=>k2 n (by simpa using hn)⟩
  ·obtain⟨vals,rfl,hs,hv⟩:=hu;have cell:∀(j:aE) (y:AV),xs[j]? =ah y->∃uu:bf,vals[j]? =ah uu/\ea E w' c' y uu/\∀n∈bE y,tG D n:=by
    intro j y hj;have js:j<xs3.length:=by rw[<-h2];exact(aT.1 hj).1
    obtain⟨uu,hu,ha⟩:=hv j xs3[j] (by simp[js]);obtain⟨k1,k2⟩:=one j y uu hj (λy3' h=>by simp[js]at h;rw[<-h];exact ha);exact⟨uu,hu,k1,k2⟩
   refine⟨⟨vals,rfl,by rw[hs];exact h2.symm,λj y hj=> ?_⟩,λn hn=> ?_⟩
   ·obtain⟨uu,k1,k2,_⟩:=cell j y hj;exact⟨uu,k1,k2⟩
   ·obtain⟨y,hy,hn⟩:=bG.1 hn;obtain⟨j,hj⟩:=bX hy;obtain⟨uu,_,_,k3⟩:=cell j y hj;exact k3 n hn
  ·exact hu.elim
 have aiK:iW E w' c' (rD ss) v/\∀n∈cw (rD ss),tG D n:=by
  obtain⟨hl,hr⟩:=hss;have jE:∀(l l3:ay (aW×ay AV)),l=ss->l3=kL 500 r.rs->iW E w' c3 (.jE l3) v->iW E w' c' (.jE l) v/\∀n∈cw (.jE l),tG D n:=by
   rintro l l3 rfl rfl ⟨us,rfl,hs,hv⟩;have cell:∀(j:aE) (x:aW×ay AV),l[j]? =ah x->∃u:bf,us[j]? =ah u/\pD E w' c' x.1 x.2 u/\∀n∈x.2.flatMap bE,tG D n:=by
    intro j x hj;have js:j<(kL 500 r.rs).length:=by rw[<-hl];exact(aT.1 hj).1
    have h3:(kL 500 r.rs)[j]? =ah ((kL 500 r.rs)[j].1,(kL 500 r.rs)[j].2):=by simp[js]
    obtain⟨u,hu,ha⟩:=hv j _ _ h3;obtain⟨k1,k2⟩:=X5 (hr j x _ hj h3) ha;exact⟨u,hu,k1,k2⟩
   refine⟨⟨us,rfl,by rw[hs];exact hl.symm,λj g xs hj=> ?_⟩,λn hn=> ?_⟩
   ·obtain⟨u,k1,k2,_⟩:=cell j (g,xs) hj;exact⟨u,k1,k2⟩
   ·obtain⟨x,hx,hn⟩:=bG.1 hn;obtain⟨j,hj⟩:=bX hx;obtain⟨u,_,_,k3⟩:=cell j x hj;exact k3 n hn
  unfold WY at wN;cases h3:kL 500 r.rs with
  |nil=>rw[h3]at wN hl;have:ss=[]:=fV hl;subst this;exact jE [] [] rfl h3.symm wN
  |cons x l=>
   cases l with
   |nil=>obtain⟨g,xs⟩:=x;rw[h3]at wN hl;obtain⟨⟨g',Km⟩,rfl⟩:=gG.1 (show ss.length=1 from hl);exact X5 (s3:=(g,xs)) (hr 0 _ _ rfl (by rw[h3];rfl)) wN
   |cons y l=>
    rw[h3]at wN hl;match ss,hl with
    |s1::s2::st,_=>exact jE _ (x::y::l) rfl h3.symm wN
    |[_],hl=>simp at hl
    |[],hl=>simp at hl
 refine⟨c', ?_⟩
 have:=GN b7 dp hd (D:=D) (s:=rD ss) (v:=v) (w':=w') (c':=c') hA ?_ ?_ ?_ ?_ hK TH E4 ?_ wL.size wL.os wL.tape wL.output aiK.1 (λn hn=> .inr (aiK.2 n hn))
 ·exact⟨this.1,this.2.1,this.2.2,hA⟩
 ·intro n x hm;rcases Q8 n x hm with hm|⟨t,hm⟩
  ·obtain⟨Qz,hn,el,ex,xs,hg,rfl⟩:=hFz n x hm;have af3:find L n=none:=by
    cases hf:find L n with
    |none=>rfl
    |some x=>obtain⟨ob,hx⟩:=G5 hf;have:=(hL n _ ob hx).old (by rw[hg];simp);exact cE hn (hh.ap n this)
   obtain⟨e1,_⟩:=agE n af3;obtain⟨h1,h2,ti,h3,h4⟩:=kG b7 hg;show cT E w' K' (kY (c'.P n)) _/\(c'.P n).n=_/\_;rw[e1];refine⟨?_,h1,ti,h3,h4.1⟩
   have:=qW b7 hg (K:=(pY σ c ps).K) cK1 (λb hb=> .inr ⟨n,hn,_,hg,hb⟩);exact this.frame (wL.XF Qy) (λb hb=>(Kok Qz b).2 (K13 b hb))
  ·have he:=hL n t x hm;cases t with
   |none=>rw[he.dead rfl];trivial
   |some y=>
    obtain⟨e1,e2⟩:=at_ n y x hm;rcases(he.some_ y rfl).2 with ⟨el,ex,ys,rfl,h3,hor⟩|⟨us,us3,rfl,h3,hl,hc⟩
    ·obtain⟨⟨t2,r1,r2,r3⟩,r4,r5⟩:=E8.obj y _ h3;refine⟨⟨t2,r1,by rw[e1];exact r2,r3⟩, ?_,λhx=>by rw[e1,e2];exact r5 hx⟩
     rw[e1,e2];refine r4.frame (λ_=>rfl) (λi j yy xx u hy hx hr=> ?_);split at hr
     ·rename_i oH;rw[bw oH];exact hr
     ·rename_i oH;rw[bH oH];have Qz:=hor.resolve_left oH;exact hr.frame (λ_ _=>rfl) (λb hb=>(Kok Qz b).2 hb)
    ·obtain⟨vals,hb,hs,hv⟩:=E8.obj y _ h3;refine⟨vals,by rw[e1];exact hb,by rw[hs];exact hl.symm,λj yy hj=> ?_⟩
     have js:j<us3.length:=by rw[<-hl];exact(aT.1 hj).1
     obtain⟨u,hu,ha⟩:=hv j us3[j] (by simp[js]);exact⟨u,hu,(P3 (hc j yy us3[j] hj (by simp[js])) ha).1⟩
 ·intro n x b hm hf;rcases Q8 n x hm with hm|⟨t,hm⟩
  ·obtain⟨_,_,el,ex,xs,_,rfl⟩:=hFz n x hm;exact hf.elim
  ·cases t with
   |none=>rw[(hL n _ x hm).dead rfl]at hf;exact hf.elim
   |some y=>
    obtain⟨o3,h3,hf3⟩:=Qi n y x b hm hf;have u0:jA (tG D) σ c b\/w.heap.size<=b:=(wL.own b ⟨y,o3,h3,hf3⟩).imp (BB b) id;refine⟨u0,λhk=> ?_⟩
    cases h:ok with
    |true=>exact E8.kk y o3 b h3 hf3 ((Kok h b).1 hk)
    |false=>
     have hk:=(Kno h b).1 hk;rcases u0 with u0|u0
     ·exact b7.Fp u0.own hk
     ·have:=b7.lt b hk;omega
 ·intro n x n' x' b hm uZ hf vZ;rcases Q8 n x hm with hm|⟨t,hm⟩
  ·obtain⟨_,_,el,ex,xs,_,rfl⟩:=hFz n x hm;exact hf.elim
  ·rcases Q8 n' x' uZ with uZ|⟨t',uZ⟩
   ·obtain⟨_,_,el,ex,xs,_,rfl⟩:=hFz n' x' uZ;exact vZ.elim
   ·cases t with
    |none=>rw[(hL n _ x hm).dead rfl]at hf;exact hf.elim
    |some y=>
     cases t' with
     |none=>rw[(hL n' _ x' uZ).dead rfl]at vZ;exact vZ.elim
     |some y'=>obtain⟨o3,h3,hf3⟩:=Qi n y x b hm hf;obtain⟨o3',Li,anw⟩:=Qi n' y' x' b uZ vZ;have:=E8.sep y o3 y' o3' b h3 Li hf3 anw;subst this;exact anK n n' y x x' hm uZ
 ·intro n xs hm y hy m Ym;rcases Q8 n _ hm with hm|⟨t,hm⟩
  ·obtain⟨_,_,el,ex,zs,_,h⟩:=hFz n _ hm;cases h
  ·have he:=hL n t _ hm;cases t with
   |none=>have:=he.dead rfl;cases this
   |some z=>
    rcases(he.some_ z rfl).2 with ⟨el,ex,ys,h,_⟩|⟨us,us3,h,h3,hl,hc⟩
    ·cases h
    ·cases h;obtain⟨j,hj⟩:=bX hy;have js:j<us3.length:=by rw[<-hl];exact(aT.1 hj).1
     rcases hc j y us3[j] hj (by simp[js])with ⟨h1,h2⟩|⟨n',x',ob',h1,_,h2⟩
     ·exfalso;subst h1;cases h:us3[j]<;>rw[h]at Ym h2<;>first|(simp[bE]at Ym;done)|exact h2
     ·rw[h1]at Ym;have:m=n':=by simpa [bE]using Ym
      subst this;exact .inr ⟨ob',inD _ _ _ h2⟩
 ·intro b hb Qw;exact wL.same b hb (λho=>Qw (BB b ho))
end
end Go.FG

namespace Go.FG
def Kq(a:eQ)(xs:ay AA):Prop:=(∃g,a= .v g xs)\/a= .pt xs
inductive Aj (args:ay eQ) (r:dE):aE->eA->Prop
 |rb (q xs):r.rs[q]? =ah (.pt xs)->Aj args r (dK (500+q) 900) (.o (.box (gf (dK (500+q) 0) xs)))
 |rr (q a xs j e ex ys):r.rs[q]? =ah a->Kq a xs->xs[j]? =ah (.ow e ex ys)->Aj args r (dK (500+q) j) (.o (.row e ex ys))
 |ob (p xs):args[p]? =ah (.pt xs)->Aj args r (dK p 900) (.o (.box (nC p 0 (r.outs.getD p []))))
 |kp (p a xs j e ex z ys):args[p]? =ah a->Kq a xs->xs[j]? =ah (.ow e ex z)->(r.outs.getD p [])[j]? =ah (.kp ys)->Aj args r (dK p j) (.o (.row e ex ys))
 |nw (p a xs j e ex ys):args[p]? =ah a->Kq a xs->(r.outs.getD p [])[j]? =ah (.ow e ex ys)->Aj args r (dK p (100+j)) (.o (.row e ex ys))
theorem Hw:∀{l:ay eQ} {q:aE} {k:aE} {c:eA},(k,c)∈J4 q l↔∃i a,l[i]? =ah a/\(k,c)∈uk (q+i) a:=by
 intro l;induction l with
 |nil=>intro q k c;simp[J4]
 |cons a l ih=>
  intro q k c;simp only[J4,a_,ih];constructor
  ·rintro (h|⟨i,b,h0,h⟩)
   ·exact⟨0,a,rfl,h⟩
   ·exact⟨i+1,b,h0,by rw[show q+(i+1)=q+1+i by omega];exact h⟩
  ·rintro ⟨i,b,h0,h⟩;cases i with
   |zero=>cases h0;exact .inl h
   |succ i=>exact .inr ⟨i,b,h0,by rw[show q+1+i=q+(i+1)by omega];exact h⟩
theorem Hv:∀{l:ay eQ} {p:aE} {os:ay (ay AA)} {k:aE} {c:eA},(k,c)∈JV p l os↔∃i a,l[i]? =ah a/\(k,c)∈Bz (p+i) a (os.getD i []):=by
 intro l;induction l with
 |nil=>intro p os k c;simp[JV]
 |cons a l ih=>
  intro p os k c;have h0:os.headD []=os.getD 0 []:=by cases os<;>rfl
  have h1:∀i,os.tail.getD i []=os.getD (i+1) []:=λi=>by cases os<;>simp
  simp only[JV,a_,ih,h0,h1];constructor
  ·rintro (h|⟨i,b,hb,h⟩)
   ·exact⟨0,a,rfl,h⟩
   ·exact⟨i+1,b,hb,by rw[show p+(i+1)=p+1+i by omega];exact h⟩
  ·rintro ⟨i,b,hb,h⟩;cases i with
   |zero=>cases hb;exact .inl h
   |succ i=>exact .inr ⟨i,b,hb,by rw[show p+1+i=p+(i+1)by omega];exact h⟩
theorem yw{p j:aE}{a b:AA}{k:aE}{c:eA}:(k,c)∈HI p j a b↔(∃e ex z ys,a= .ow e ex z/\b= .kp ys/\k=cR (dK p j)/\c= .o (.row e ex ys))\/∃e ex ys,b= .ow e ex ys/\k=cR (dK p (100+j))/\c= .o (.row e ex ys):=by
 cases b with
 |kp ys=>
  cases a with
  |ow e ex z=>
   constructor
   ·intro h;have h:=aX.1 h;cases h;exact .inl ⟨e,ex,z,ys,rfl,rfl,rfl,rfl⟩
   ·rintro (⟨e',tc,z',Ce,h1,h2,h3,h4⟩|⟨_,_,_,h,_⟩)
    ·cases h1;cases h2;rw[h3,h4];exact aX.2 rfl
    ·cases h
  |_=>simp[HI]
 |ow e ex ys=>
  constructor
  ·intro h;have h:=aX.1 h;cases h;exact .inr ⟨e,ex,ys,rfl,rfl,rfl⟩
  ·rintro (⟨_,_,_,_,_,h,_⟩|⟨e',tc,Ce,h2,h3,h4⟩)
   ·cases h
   ·cases h2;rw[h3,h4];exact aX.2 rfl
 |_=>simp[HI]
theorem JI{p:aE}:∀{l:ay AA} {j:aE} {as:ay AA} {k:aE} {c:eA},(k,c)∈sL p j as l↔∃i b,l[i]? =ah b/\(k,c)∈HI p (j+i) (as.getD i .nl) b:=by
 intro l;induction l with
 |nil=>intro j as k c;simp[sL]
 |cons b l ih=>
  intro j as k c;have h0:as.headD .nl=as.getD 0 .nl:=by cases as<;>rfl
  have h1:∀i,as.tail.getD i .nl=as.getD (i+1) .nl:=λi=>by cases as<;>simp
  simp only[sL,a_,ih,h0,h1];constructor
  ·rintro (h|⟨i,b',hb,h⟩)
   ·exact⟨0,b,rfl,h⟩
   ·exact⟨i+1,b',hb,by rw[show j+(i+1)=j+1+i by omega];exact h⟩
  ·rintro ⟨i,b',hb,h⟩;cases i with
   |zero=>cases hb;exact .inl h
   |succ i=>exact .inr ⟨i,b',hb,by rw[show j+1+i=j+(i+1)by omega];exact h⟩
theorem E2{xs:ay AA}{i e:aE}{ex:aW}{z:aU}:xs.getD i .nl= .ow e ex z↔xs[i]? =ah (.ow e ex z):=by
 rw[cL];cases h:xs[i]? with
 |none=>simp
 |some x=>simp
theorem qa{p:aE}{a:eQ}{l:ay AA}{k:aE}{c:eA}:(k,c)∈Bz p a l↔(∃xs,a= .pt xs/\k=cR (dK p 900)/\c= .o (.box (nC p 0 l)))\/∃xs,Kq a xs/\((∃j e ex z ys,xs[j]? =ah (.ow e ex z)/\l[j]? =ah (.kp ys)/\k=cR (dK p j)/\c= .o (.row e ex ys))\/∃j e ex ys,l[j]? =ah (.ow e ex ys)/\k=cR (dK p (100+j))/\c= .o (.row e ex ys)):=by
 have cells:∀xs,(k,c)∈sL p 0 xs l↔((∃j e ex z ys,xs[j]? =ah (.ow e ex z)/\l[j]? =ah (.kp ys)/\k=cR (dK p j)/\c= .o (.row e ex ys))\/∃j e ex ys,l[j]? =ah (.ow e ex ys)/\k=cR (dK p (100+j))/\c= .o (.row e ex ys)):=by
  intro xs;rw[JI];constructor
  ·rintro ⟨i,b,hb,h⟩;rw[bT]at h;rcases yw.1 h with ⟨e,ex,z,ys,h1,rfl,h2,h3⟩|⟨e,ex,ys,rfl,h2,h3⟩
   ·exact .inl ⟨i,e,ex,z,ys,E2.1 h1,hb,h2,h3⟩
   ·exact .inr ⟨i,e,ex,ys,hb,h2,h3⟩
  ·rintro (⟨i,e,ex,z,ys,h1,hb,h2,h3⟩|⟨i,e,ex,ys,hb,h2,h3⟩)
   ·exact⟨i,_,hb,yw.2 (.inl ⟨e,ex,z,ys,E2.2 h1,rfl,by rw[bT];exact h2,h3⟩)⟩
   ·exact⟨i,_,hb,yw.2 (.inr ⟨e,ex,ys,rfl,by rw[bT];exact h2,h3⟩)⟩
 cases a with
 |v g xs=>
  simp only[Bz,cells];constructor
  ·intro h;exact .inr ⟨xs, .inl ⟨g,rfl⟩,h⟩
  ·rintro (⟨ys,h,_⟩|⟨ys,h|h,h'⟩)
   ·cases h
   ·obtain⟨g',h⟩:=h;cases h;exact h'
   ·cases h
 |pt xs=>
  simp only[Bz,cz,cells,iU];constructor
  ·rintro (⟨h1,h2⟩|h)
   ·exact .inl ⟨xs,rfl,h1,h2⟩
   ·exact .inr ⟨xs, .inr rfl,h⟩
  ·rintro (⟨ys,h,h1,h2⟩|⟨ys,h|h,h'⟩)
   ·exact .inl ⟨h1,h2⟩
   ·obtain⟨g',h⟩:=h;cases h
   ·cases h;exact .inr h'
 |fb xs=>
  simp only[Bz,rH,false_iff];rintro (⟨ys,h,_⟩|⟨ys,h|h,_⟩)
  ·cases h
  ·obtain⟨g',h⟩:=h;cases h
  ·cases h
theorem vP{args:ay eQ}{r:dE}{m:aE}{c:eA}:(cR m,c)∈J4 500 r.rs++JV 0 args r.outs↔Aj args r m c:=by
 rw[a_,Hw,Hv];constructor
 ·rintro (⟨q,a,h0,h⟩|⟨p,a,h0,h⟩)
  ·rcases hZ.1 h with ⟨xs,rfl,h1,rfl⟩|⟨xs,j,e,ex,ys,hx,hj,h1,rfl⟩
   ·rw[jw h1];exact .rb q xs h0
   ·rw[jw h1];exact .rr q a xs j e ex ys h0 hx hj
  ·rw[bT]at h;rcases qa.1 h with ⟨xs,rfl,h1,rfl⟩|⟨xs,hx,⟨j,e,ex,z,ys,h2,h3,h1,rfl⟩|⟨j,e,ex,ys,h3,h1,rfl⟩⟩
   ·rw[jw h1];exact .ob p xs h0
   ·rw[jw h1];exact .kp p a xs j e ex z ys h0 hx h2 h3
   ·rw[jw h1];exact .nw p a xs j e ex ys h0 hx h3
 ·intro h;cases h with
  |rb q xs h0=>exact .inl ⟨q,_,h0,hZ.2 (.inl ⟨xs,rfl,rfl,rfl⟩)⟩
  |rr q a xs j e ex ys h0 hx hj=>exact .inl ⟨q,a,h0,hZ.2 (.inr ⟨xs,j,e,ex,ys,hx,hj,rfl,rfl⟩)⟩
  |ob p xs h0=>exact .inr ⟨p,_,h0,qa.2 (.inl ⟨xs,rfl,by rw[bT],by rw[bT]⟩)⟩
  |kp p a xs j e ex z ys h0 hx h2 h3=>exact .inr ⟨p,a,h0,qa.2 (.inr ⟨xs,hx, .inl ⟨j,e,ex,z,ys,h2,h3,by rw[bT],rfl⟩⟩)⟩
  |nw p a xs j e ex ys h0 hx h3=>exact .inr ⟨p,a,h0,qa.2 (.inr ⟨xs,hx, .inr ⟨j,e,ex,ys,h3,by rw[bT],rfl⟩⟩)⟩
def W4:aC AA->aC eA
 |some (.ow e ex ys)=>ah (.o (.row e ex ys))|_=>aj
def kpC(a b:aC AA):aC eA:=
 match a,b with|some (.ow e ex _),ah (.kp ys)=>ah (.o (.row e ex ys))|_,_=>aj
def PO:eQ->ay AA| .v _ xs=>xs| .pt xs=>xs| .fb _=>[]
theorem Kq.eq{a:eQ}{xs:ay AA}(h:Kq a xs):PO a=xs:=by rcases h with ⟨g,rfl⟩|rfl<;>rfl
def Dl(args:ay eQ)(r:dE)(P J:aE):aC eA:=
 if 500<=P then(match r.rs[P-500]? with
  |some a=>if J=900 then ah (.o (.box (gf (dK P 0) (PO a))))else W4 (PO a)[J]?
  |none=>aj)
 else(match args[P]? with
  |some a=>if J=900 then ah (.o (.box (nC P 0 (r.outs.getD P []))))else if J<100 then kpC (PO a)[J]? (r.outs.getD P [])[J]? else W4 (r.outs.getD P [])[J-100]?
  |none=>aj)
structure Small (args:ay eQ) (r:dE):Prop where
 a:∀(p:aE) (a:eQ) (xs:ay AA),args[p]? =ah a->Kq a xs->p<500
 rl:∀(q:aE) (a:eQ) (xs:ay AA),r.rs[q]? =ah a->Kq a xs->xs.length<=100
 o:∀p:aE,(r.outs.getD p []).length<=100
theorem G0{args:ay eQ}{r:dE}(hs:Small args r){m:aE}{c:eA}(h:Aj args r m c):∃P J,m=dK P J/\J<1000/\Dl args r P J=ah c:=by
 cases h with
 |rb q xs h0=>exact⟨500+q,900,rfl,by omega,by simp[Dl,h0,PO]⟩
 |rr q a xs j e ex ys h0 hx hj=>
  have:=hs.rl q a xs h0 hx;have js:=(aT.1 hj).1;refine⟨500+q,j,rfl,by omega, ?_⟩
  have:j≠900:=by omega
  simp[Dl,h0,hx.eq,hj,this,W4]
 |ob p xs h0=>
  have:=hs.a p _ xs h0 (.inr rfl);have:¬500<=p:=by omega
  exact⟨p,900,rfl,by omega,by simp[Dl,h0,this]⟩
 |kp p a xs j e ex z ys h0 hx h2 h3=>
  have:=hs.a p _ xs h0 hx;have h5:¬500<=p:=by omega
  have js:=(aT.1 h3).1;have:=hs.o p;have M3:j≠900:=by omega
  have TN:j<100:=by omega
  refine⟨p,j,rfl,by omega, ?_⟩
  simp only[Dl,h0,hx.eq,h2,h3,M3,TN,h5,if_false,if_true,kpC]
 |nw p a xs j e ex ys h0 hx h3=>
  have:=hs.a p _ xs h0 hx;have h5:¬500<=p:=by omega
  have js:=(aT.1 h3).1;have:=hs.o p;have M3:¬100+j=900:=by omega
  have TN:¬100+j<100:=by omega
  refine⟨p,100+j,rfl,by omega, ?_⟩
  have hj3:100+j-100=j:=by omega
  simp only[Dl,h0,h3,M3,TN,hj3,h5,if_false,W4]
theorem yH:∀{l:ay (aE×eA)} {k:aE} {c:eA},(k,c)∈l->(∀c',(k,c')∈l->c'=c)->fN l k=c:=by
 intro l;induction l with
 |nil=>intro k c h;cases h
 |cons d l ih=>
  obtain⟨k',c'⟩:=d;intro k c h hu;unfold fN;cases hb:bn k k' with
  |true=>have:=aR hb;subst this;exact hu c' (dA ..)
  |false=>
   rcases cz.1 h with h|h
   ·cases h;simp at hb
   ·exact ih h (λc'' h''=>hu c'' (cU _ h''))
theorem vO{args:ay eQ}{r:dE}(hs:Small args r){m:aE}{c:eA}(h:Aj args r m c):nL args r (cR m)=c:=by refine yH (vP.2 h) (λc' h'=> ?_);obtain⟨P,J,h1,h2,h3⟩:=G0 hs h;obtain⟨P',J',Js,MX,Li⟩:=G0 hs (vP.1 h');obtain⟨rfl,rfl⟩:=tq h2 MX (h1.symm.trans Js);rw[h3]at Li;cases Li;rfl
theorem pZ{args:ay eQ}{r:dE}{m:aE}{o:Obj}(h:nL args r (cR m)= .o o):Aj args r m (.o o):=vP.1 (np h (by simp))
theorem ve{p:aE}:∀{xs:ay AA} {j i:aE},(nC p j xs)[i]? =(xs[i]?).map (sK p (j+i)):=by
 intro xs;induction xs with
 |nil=>intro j i;simp[nC]
 |cons a xs ih=>
  intro j i;cases i with
  |zero=>rfl
  |succ i=>simp only[nC,dD,ih];congr 2;omega
theorem um{p:aE}:∀{xs:ay AA} {j:aE},(nC p j xs).length=xs.length:=by
 intro xs;induction xs with
 |nil=>intro j;rfl
 |cons a xs ih=>intro j;simp[nC,ih]
theorem DJ:∀{l:ay eQ} {q i:aE},(kL q l)[i]? =(l[i]?).map (EM (q+i)):=by
 intro l;induction l with
 |nil=>intro q i;simp[kL]
 |cons a l ih=>
  intro q i;cases i with
  |zero=>rfl
  |succ i=>simp only[kL,dD,ih];congr 2;omega
theorem v_:∀{l:ay eQ} {q:aE},(kL q l).length=l.length:=by
 intro l;induction l with
 |nil=>intro q;rfl
 |cons a l ih=>intro q;simp[kL,ih]
end Go.FG

namespace Go.FG
def lO(L:ay Cf):ay (aE×eA):=jJ (L.map λt=>(t.1,t.2.2))
theorem ir(L R:ay Cf):lO (L++R)=lO L++lO R:=by simp[lO,jJ]
def Oa(ok:aW)(σ:St)(n:aE)(a:AA):Prop:=
 match a with
 | .ow _ ex _=>(ex=ai\/ok=ai)/\σ (cR n)= .jq/\n<900000000
 | .sh _ _=>ok=ai| .kp _=>False| .fn _ _=>False|_=>True
def Nj(n x:aE)(a:AA):ay Cf:=match a with| .ow e ex ys=>[(n,ah x, .row e ex ys)]|_=>[]
theorem Hu{n x:aE}{a:AA}{m:aE}{t:aC aE}{ob:Obj}:(m,t,ob)∈Nj n x a↔∃e ex ys,a= .ow e ex ys/\m=n/\t=ah x/\ob= .row e ex ys:=by
 cases a with
 |ow e ex ys=>
  constructor
  ·intro h;have h:=aX.1 h;cases h;exact⟨e,ex,ys,rfl,rfl,rfl,rfl⟩
  ·rintro ⟨e',tc,Ce,h,rfl,rfl,rfl⟩;cases h;exact aX.2 rfl
 |_=>simp[Nj]
theorem lA.mono{ok:aW}{L L':ay Cf}{v v3:AV}(h:lA ok L v v3)(hs:∀e∈L,e∈L'):lA ok L' v v3:=h.imp id (λ⟨n,x,ob,h1,h2,h3⟩=>⟨n,x,ob,h1,h2,hs _ h3⟩)
theorem m7.mono{ok:aW}{L L':ay Cf}{v v3:ay AV}(h:m7 ok L v v3)(hs:∀e∈L,e∈L'):m7 ok L' v v3:=⟨h.1,λj x y hx hy=>(h.2 j x y hx hy).mono hs⟩
section
variable {P:cM} {E:fm} {σ:St} {a:Act} {w:bD} {c:eJ} {o:eV} {nm:aE} {e:rW}
theorem De{ok:aW}{n:aE}{a:AA}{v:AV}{ws:ay (aE×eA)}(h:(qJ ok n a).val σ=ah (v,ws)):Oa ok σ n a/\v=kK n a/\∀x,ws=lO (Nj n x a)/\lA ok (Nj n x a) v (kK x a):=by
 cases a with
 |i=>obtain⟨rfl,rfl⟩:=bS (aD h);exact⟨trivial,rfl,λx=>⟨rfl, .inl ⟨rfl,trivial⟩⟩⟩
 |b=>obtain⟨rfl,rfl⟩:=bS (aD h);exact⟨trivial,rfl,λx=>⟨rfl, .inl ⟨rfl,trivial⟩⟩⟩
 |s=>obtain⟨rfl,rfl⟩:=bS (aD h);exact⟨trivial,rfl,λx=>⟨rfl, .inl ⟨rfl,trivial⟩⟩⟩
 |nl=>obtain⟨rfl,rfl⟩:=bS (aD h);exact⟨trivial,rfl,λx=>⟨rfl, .inl ⟨rfl,trivial⟩⟩⟩
 |sh e xs=>obtain⟨h1,h⟩:=cy h;obtain⟨rfl,rfl⟩:=bS (aD h);exact⟨h1,rfl,λx=>⟨rfl, .inl ⟨rfl,h1⟩⟩⟩
 |ow e ex xs=>obtain⟨h1,h⟩:=cy h;obtain⟨u,h2,h⟩:=Rd.bind_some h;obtain⟨rfl,rfl⟩:=bS (aD h);obtain⟨f1,f2⟩:=j4 h2;exact⟨⟨by simpa using h1,f1,f2⟩,rfl,λx=>⟨rfl, .inr ⟨n,x,_,rfl,rfl,aX.2 rfl⟩⟩⟩
 |kp=>simp[qJ]at h
 |fn=>simp[qJ]at h
theorem AL{ok:aW}{P:aE}:∀{xs:ay AA} {n j:aE} {vs:ay AV} {ws:ay (aE×eA)},(zM ok n xs).val σ=ah (vs,ws)->vs=gf n xs/\(∀(i:aE) (a:AA),xs[i]? =ah a->Oa ok σ (n+i) a)/\
  ∃L,ws=lO L/\(∀m t ob,(m,t,ob)∈L↔∃i e ex ys,xs[i]? =ah (.ow e ex ys)/\m=n+i/\t=ah (dK P (j+i))/\ob= .row e ex ys)/\∀(i:aE) (v:AV) (a:AA),vs[i]? =ah v->xs[i]? =ah a->lA ok L v (kK (dK P (j+i)) a):=by
 intro xs;induction xs with
 |nil=>intro n j vs ws h;obtain⟨rfl,rfl⟩:=bS (aD h);exact⟨rfl,λi a h=>by simp at h,[],rfl,λm t ob=>by simp,λi v a h=>by simp at h⟩
 |cons a xs ih=>
  intro n j vs ws h;obtain⟨⟨v,w1⟩,h1,h⟩:=Rd.bind_some h;obtain⟨⟨vr,w2⟩,h2,h⟩:=Rd.bind_some h;obtain⟨rfl,rfl⟩:=bS (aD h);obtain⟨b1,rfl,b2⟩:=De h1;obtain⟨rfl,b3⟩:=b2 (dK P j);obtain⟨i1,i2,L,rfl,i3,i4⟩:=ih (j:=j+1) h2;refine⟨by rw[i1];rfl,λi a' hi=> ?_,Nj n (dK P j) a++L,by rw[ir],λm t ob=> ?_,λi v' a' hv ha=> ?_⟩
  ·cases i with
   |zero=>cases hi;exact b1
   |succ i=>have:=i2 i a' hi;rwa[show n+1+i=n+(i+1)by omega]at this
  ·rw[a_,Hu,i3];constructor
   ·rintro (⟨e,ex,ys,rfl,rfl,rfl,rfl⟩|⟨i,e,ex,ys,h1,rfl,rfl,rfl⟩)
    ·exact⟨0,e,ex,ys,rfl,rfl,rfl,rfl⟩
    ·exact⟨i+1,e,ex,ys,h1,by omega,by rw[show j+1+i=j+(i+1)by omega],rfl⟩
   ·rintro ⟨i,e,ex,ys,h1,rfl,rfl,rfl⟩;cases i with
    |zero=>cases h1;exact .inl ⟨e,ex,ys,rfl,rfl,rfl,rfl⟩
    |succ i=>exact .inr ⟨i,e,ex,ys,h1,by omega,by rw[show j+1+i=j+(i+1)by omega],rfl⟩
  ·cases i with
   |zero=>cases hv;cases ha;exact b3.mono (λe he=>bU _ he)
   |succ i=>have:=(i4 i v' a' hv ha).mono (L':=Nj n (dK P j) a++L) (λe he=>bK _ he);rwa[show j+1+i=j+(i+1)by omega]at this
def Gr(σ:St)(ok:aW)(b P:aE)(x:eQ)(L:ay Cf)(n:aE)(t:aC aE)(ob:Obj):Prop:=
 (∃xs j e ex ys,Kq x xs/\xs[j]? =ah (.ow e ex ys)/\n=b+j/\t=ah (dK P j)/\ob= .row e ex ys/\(ex=ai\/ok=ai)/\σ (cR n)= .jq/\n<900000000)\/
 ∃xs,x= .pt xs/\n=b+30/\t=ah (dK P 900)/\ob= .box (gf b xs)/\σ (cR n)= .jq/\n<900000000/\m7 ok L (gf b xs) (gf (dK P 0) xs)
theorem IV{ok:aW}{b P:aE}{x:eQ}{s:aW×ay AV}{ws:ay (aE×eA)}(h:(EO ok b x).val σ=ah (s,ws)):∃L,ws=lO L/\(∀n t ob,(n,t,ob)∈L->Gr σ ok b P x L n t ob)/\ArgRel ok L s (EM P x):=by
 have sH:∀j,dK P (0+j)=dK P 0+j:=λj=>by unfold dK;omega
 cases x with
 |v g xs=>
  obtain⟨⟨vs,w1⟩,h1,h⟩:=Rd.bind_some h;obtain⟨rfl,rfl⟩:=bS (aD h);obtain⟨rfl,i2,L,rfl,i3,i4⟩:=AL (P:=P) (j:=0) h1;refine⟨L,rfl,λn t ob hm=> ?_,rfl,by simp[EM,iB],λj v v3 hv CI=> .inl ?_⟩
  ·obtain⟨i,e,ex,ys,h1,rfl,rfl,rfl⟩:=(i3 n t ob).1 hm;have:=i2 i _ h1;exact .inl ⟨xs,i,e,ex,ys, .inl ⟨g,rfl⟩,h1,rfl,by rw[bT],rfl,this⟩
  ·have CI:(gf (dK P 0) xs)[j]? =ah v3:=CI;rw[ie]at CI;cases hx:xs[j]? with
   |none=>rw[hx]at CI;cases CI
   |some a=>rw[hx]at CI;cases CI;have:=i4 j v a hv hx;rwa[sH]at this
 |pt xs=>
  obtain⟨⟨vs,w1⟩,h1,h⟩:=Rd.bind_some h;obtain⟨u,h2,h⟩:=Rd.bind_some h;obtain⟨rfl,rfl⟩:=bS (aD h);obtain⟨f1,f2⟩:=j4 h2;obtain⟨rfl,i2,L,rfl,i3,i4⟩:=AL (P:=P) (j:=0) h1;have cr:m7 ok L (gf b xs) (gf (dK P 0) xs):=by
   refine⟨by rw[iB,iB],λj v v3 hv CI=> ?_⟩
   rw[ie]at CI;cases hx:xs[j]? with
   |none=>rw[hx]at CI;cases CI
   |some a=>rw[hx]at CI;cases CI;have:=i4 j v a hv hx;rwa[sH]at this
  refine⟨L++[(b+30,ah (dK P 900), .box (gf b xs))],by rw[ir];rfl,λn t ob hm=> ?_,rfl,rfl,λj v v3 hv CI=> .inr ?_⟩
  ·rcases a_.1 hm with hm|hm
   ·obtain⟨i,e,ex,ys,h1,rfl,rfl,rfl⟩:=(i3 n t ob).1 hm;have:=i2 i _ h1;exact .inl ⟨xs,i,e,ex,ys, .inr rfl,h1,rfl,by rw[bT],rfl,this⟩
   ·rw[aX]at hm;cases hm;exact .inr ⟨xs,rfl,rfl,rfl,rfl,f1,f2,cr.mono (λe he=>bU _ he)⟩
  ·cases j with
   |zero=>cases hv;cases CI;exact⟨_,_,_,rfl,rfl,bK _ (aX.2 rfl)⟩
   |succ j=>simp at hv
 |fb xs=>simp[EO]at h
theorem ArgRel.mono{ok:aW}{L L':ay Cf}{s s3:aW×ay AV}(h:ArgRel ok L s s3)(hs:∀e∈L,e∈L'):ArgRel ok L' s s3:=⟨h.1,h.2.1,λj x y hx hy=>(h.2.2 j x y hx hy).imp (λh=>h.mono hs) (λ⟨n,x,ob,h1,h2,h3⟩=>⟨n,x,ob,h1,h2,hs _ h3⟩)⟩
theorem Gr.mono{ok:aW}{b P:aE}{x:eQ}{L L':ay Cf}{n:aE}{t:aC aE}{ob:Obj}(h:Gr σ ok b P x L n t ob)(hs:∀e∈L,e∈L'):Gr σ ok b P x L' n t ob:=h.imp id (λ⟨xs,h1,h2,h3,h4,h5,h6,h7⟩=>⟨xs,h1,h2,h3,h4,h5,h6,h7.mono hs⟩)
theorem GD{ok:aW}:∀{l:ay eQ} {b P:aE} {ss:ay (aW×ay AV)} {ws:ay (aE×eA)},(AM ok b l).val σ=ah (ss,ws)->∃L,ws=lO L/\(∀n t ob,(n,t,ob)∈L->∃q x,l[q]? =ah x/\Gr σ ok (b+40*q) (P+q) x L n t ob)/\DT ok L ss (kL P l):=by
 intro l;induction l with
 |nil=>intro b P ss ws h;obtain⟨rfl,rfl⟩:=bS (aD h);exact⟨[],rfl,λn t ob h=>(by cases h),rfl,λj x x3 h=>by simp at h⟩
 |cons x l ih=>
  intro b P ss ws h;obtain⟨⟨v,w1⟩,h1,h⟩:=Rd.bind_some h;obtain⟨⟨vr,w2⟩,h2,h⟩:=Rd.bind_some h;obtain⟨rfl,rfl⟩:=bS (aD h);obtain⟨L1,rfl,a1,a2⟩:=IV (P:=P) h1;obtain⟨L2,rfl,b1,b2,b3⟩:=ih (P:=P+1) h2;refine⟨L1++L2,by rw[ir],λn t ob hm=> ?_,by simp[kL,b2],λj s s3 hs hs3=> ?_⟩
  ·rcases a_.1 hm with hm|hm
   ·exact⟨0,x,rfl,(a1 n t ob hm).mono (λe he=>bU _ he)⟩
   ·obtain⟨q,y,hq,hr⟩:=b1 n t ob hm;refine⟨q+1,y,hq, ?_⟩
    rw[show b+40*(q+1)=b+40+40*q by omega,show P+(q+1)=P+1+q by omega];exact hr.mono (λe he=>bK _ he)
  ·cases j with
   |zero=>cases hs;cases hs3;exact a2.mono (λe he=>bU _ he)
   |succ j=>exact(b3 j s s3 hs hs3).mono (λe he=>bK _ he)
end
end Go.FG

namespace Go.FG
section
variable {P:cM} {E:fm} {σ:St} {a:Act} {w:bD} {c:eJ} {o:eV} {nm:aE} {e:rW}
def qp(σ:St)(ok bx:aW)(b p j:aE)(k:Pk)(a:AA)(n:aE)(t:aC aE)(ob:Obj):Prop:=
 (∃e ex,k.src= .own n e ex/\t=aj/\ob= .dead)\/
 (∃e ex ys,k.src= .own n e ex/\a= .kp ys/\t=ah (dK p j)/\ob= .row e ex ys/\(ex=ai\/ok=ai))\/
 ∃e ex ys,bx=ai/\a= .ow e ex ys/\n=b+j/\t=ah (dK p (100+j))/\ob= .row e ex ys/\(ex=ai\/ok=ai)/\σ (cR n)= .jq/\n<900000000
theorem RI{ok:aW}{b p j:aE}{k:Pk}{a:AA}{ws:ay (aE×eA)}(h:(DG ok k a).val σ=ah ws):∃L,ws=lO L/\(∀n t ob,(n,t,ob)∈L->qp σ ok ak b p j k a n t ob)/\∀n e ex,k.src= .own n e ex->∃t ob,(n,t,ob)∈L:=by
 cases hs:k.src with
 |no=>
  have h:(Rd.ret []:Rd (ay (aE×eA))).val σ=ah ws:=by unfold DG at h;rw[hs]at h;exact h
  obtain rfl:=aD h;exact⟨[],rfl,λn t ob h=>(by cases h),λn e ex h=>by cases h⟩
 |own n e ex=>
  cases a with
  |kp ys=>
   have h:(bif ex||ok then Rd.ret [(cR n,eA.o (.row e ex ys))]else .fail).val σ=ah ws:=by unfold DG at h;rw[hs]at h;exact h
   obtain⟨h1,h⟩:=cy h;obtain rfl:=aD h;refine⟨[(n,ah (dK p j), .row e ex ys)],rfl,λm t ob hm=> ?_,λm e' tc h=> ?_⟩
   ·rw[aX]at hm;cases hm;exact .inr (.inl ⟨e,ex,ys,hs,rfl,rfl,rfl,by simpa using h1⟩)
   ·cases h;exact⟨_,_,aX.2 rfl⟩
  |nl=>
   have h:(Rd.ret [(cR n,eA.o .dead)]:Rd (ay (aE×eA))).val σ=ah ws:=by unfold DG at h;rw[hs]at h;exact h
   obtain rfl:=aD h;refine⟨[(n,aj, .dead)],rfl,λm t ob hm=> ?_,λm e' tc h=> ?_⟩
   ·rw[aX]at hm;cases hm;exact .inl ⟨e,ex,hs,rfl,rfl⟩
   ·cases h;exact⟨_,_,aX.2 rfl⟩
  |_=>unfold DG at h;rw[hs]at h;simp at h
theorem Ns{ok:aW}{b p:aE}:∀{r:ay Pk} {l:ay AA} {j:aE} {ws:ay (aE×eA)},(JX ok r l).val σ=ah ws->∃L,ws=lO L/\(∀n t ob,(n,t,ob)∈L->∃i k,r[i]? =ah k/\qp σ ok ak b p (j+i) k (l.getD i .nl) n t ob)/\
  ∀(i:aE) (k:Pk) (n e:aE) (ex:aW),r[i]? =ah k->k.src= .own n e ex->∃t ob,(n,t,ob)∈L:=by
 intro r;induction r with
 |nil=>intro l j ws h;obtain rfl:=aD h;exact⟨[],rfl,λn t ob h=>(by cases h),λi k n e ex h=>by simp at h⟩
 |cons k r ih=>
  intro l j ws h;obtain⟨w1,h1,h⟩:=Rd.bind_some h;obtain⟨w2,h2,h⟩:=Rd.bind_some h;obtain rfl:=aD h;obtain⟨L1,rfl,a1,a2⟩:=RI (b:=b) (p:=p) (j:=j) h1;obtain⟨L2,rfl,b1,b2⟩:=ih (j:=j+1) h2;have e0:l.headD .nl=l.getD 0 .nl:=by cases l<;>rfl
  have e1:∀i,l.tail.getD i .nl=l.getD (i+1) .nl:=λi=>by cases l<;>simp
  refine⟨L1++L2,by rw[ir],λn t ob hm=> ?_,λi k' n e ex hk hs=> ?_⟩
  ·rcases a_.1 hm with hm|hm
   ·exact⟨0,k,rfl,by rw[<-e0];exact a1 n t ob hm⟩
   ·obtain⟨i,k',hk,hc⟩:=b1 n t ob hm;rw[e1]at hc;exact⟨i+1,k',hk,by rw[show j+(i+1)=j+1+i by omega];exact hc⟩
  ·cases i with
   |zero=>cases hk;obtain⟨t,ob,h⟩:=a2 n e ex hs;exact⟨t,ob,bU _ h⟩
   |succ i=>obtain⟨t,ob,h⟩:=b2 i k' n e ex hk hs;exact⟨t,ob,bK _ h⟩
theorem Nq{ok:aW}{b p j:aE}{k:Pk}{v v':AV}{a:AA}{ws:ay (aE×eA)}(hv:∀n e ex,k.src= .own n e ex->v= .own n)(h:(Bx ok (b+j) k v a).val σ=ah (v',ws)):
  ∃L,ws=lO L/\(∀n t ob,(n,t,ob)∈L->qp σ ok ai b p j k a n t ob)/\(∀n e ex,k.src= .own n e ex->∃t ob,(n,t,ob)∈L)/\lA ok L v' (sK p j a):=by
 have new:∀{v':AV} {ws:ay (aE×eA)},(qJ ok (b+j) a).val σ=ah (v',ws)->∃L,ws=lO L/\(∀n t ob,(n,t,ob)∈L->qp σ ok ai b p j k a n t ob)/\lA ok L v' (sK p j a):=by
  intro v' ws h;obtain⟨b1,rfl,b2⟩:=De h;obtain⟨rfl,b3⟩:=b2 (dK p (100+j));refine⟨_,rfl,λn t ob hm=> ?_, ?_⟩
  ·obtain⟨e,ex,ys,rfl,rfl,rfl,rfl⟩:=Hu.1 hm;exact .inr (.inr ⟨e,ex,ys,rfl,rfl,rfl,rfl,rfl,b1⟩)
  ·have:sK p j a=kK (dK p (100+j)) a:=by cases a<;>first|rfl|exact b1.elim
   rw[this];exact b3
 cases hs:k.src with
 |no=>
  have h:(qJ ok (b+j) a).val σ=ah (v',ws):=by unfold Bx at h;rw[hs]at h;exact h
  obtain⟨L,rfl,a1,a2⟩:=new h;exact⟨L,rfl,a1,λm e' tc h=>(by cases h),a2⟩
 |own n e ex=>
  have other:((qJ ok (b+j) a).bind λ(x:AV×ay (aE×eA))=>Rd.ret (x.1,(cR n,eA.o .dead)::x.2)).val σ=ah (v',ws)->∃L,ws=lO L/\(∀n t ob,(n,t,ob)∈L->qp σ ok ai b p j k a n t ob)/\(∀n' e' tc,Src.own n e ex= .own n' e' tc->∃t ob,(n',t,ob)∈L)/\lA ok L v' (sK p j a):=by
   intro h;obtain⟨⟨v1,w1⟩,h1,h⟩:=Rd.bind_some h;obtain⟨rfl,rfl⟩:=bS (aD h);obtain⟨L,rfl,a1,a2⟩:=new h1;refine⟨(n,aj, .dead)::L,rfl,λm t ob hm=> ?_,λm e' tc h=> ?_,a2.mono (λe he=>cU _ he)⟩
   ·rcases cz.1 hm with hm|hm
    ·cases hm;exact .inl ⟨e,ex,hs,rfl,rfl⟩
    ·exact a1 m t ob hm
   ·cases h;exact⟨_,_,dA ..⟩
  cases a with
  |kp ys=>
   have h:(bif ex||ok then Rd.ret (v,[(cR n,eA.o (.row e ex ys))])else .fail).val σ=ah (v',ws):=by unfold Bx at h;rw[hs]at h;exact h
   obtain⟨h1,h⟩:=cy h;obtain⟨rfl,rfl⟩:=bS (aD h);refine⟨[(n,ah (dK p j), .row e ex ys)],rfl,λm t ob hm=> ?_,λm e' tc h=> ?_, .inr ⟨n,dK p j,_,hv n e ex hs,rfl,aX.2 rfl⟩⟩
   ·rw[aX]at hm;cases hm;exact .inr (.inl ⟨e,ex,ys,hs,rfl,rfl,rfl,by simpa using h1⟩)
   ·cases h;exact⟨_,_,aX.2 rfl⟩
  |_=>exact other (by unfold Bx at h;rw[hs]at h;exact h)
theorem JU{ok:aW}{b p:aE}:∀{r:ay Pk} {vs:ay AV} {l:ay AA} {j:aE} {Ir:ay AV} {ws:ay (aE×eA)},(∀(i:aE) (k:Pk) (n e:aE) (ex:aW),r[i]? =ah k->k.src= .own n e ex->vs[i]? =ah (.own n))->(qV ok (b+j) r vs l).val σ=ah (Ir,ws)->
  l.length=r.length/\∃L,ws=lO L/\(∀n t ob,(n,t,ob)∈L->∃i k,r[i]? =ah k/\qp σ ok ai b p (j+i) k (l.getD i .nl) n t ob)/\
  (∀(i:aE) (k:Pk) (n e:aE) (ex:aW),r[i]? =ah k->k.src= .own n e ex->∃t ob,(n,t,ob)∈L)/\Ir.length=l.length/\∀(i:aE) (v:AV) (a:AA),Ir[i]? =ah v->l[i]? =ah a->lA ok L v (sK p (j+i) a):=by
 intro r;induction r with
 |nil=>
  intro vs l j Ir ws hv h;cases vs with
  |cons=>cases l<;>simp[qV]at h
  |nil=>
   cases l with
   |cons=>simp[qV]at h
   |nil=>obtain⟨rfl,rfl⟩:=bS (aD h);exact⟨rfl,[],rfl,λn t ob h=>(by cases h),λi k n e ex h=>by simp at h,rfl,λi v a h=>by simp at h⟩
 |cons k r ih=>
  intro vs l j Ir ws hv h;cases vs with
  |nil=>cases l<;>simp[qV]at h
  |cons v vs=>
   cases l with
   |nil=>simp[qV]at h
   |cons a l=>
    obtain⟨⟨v1,w1⟩,h1,h⟩:=Rd.bind_some h;obtain⟨⟨vr,w2⟩,h2,h⟩:=Rd.bind_some h;obtain⟨rfl,rfl⟩:=bS (aD h);obtain⟨L1,rfl,a1,a2,a3⟩:=Nq (p:=p) (λn e ex hs=>by have:=hv 0 k n e ex rfl hs;simpa using this) h1;obtain⟨i0,L2,rfl,b1,b2,b3,b4⟩:=ih (j:=j+1) (λi k' n e ex hk hs=>hv (i+1) k' n e ex hk hs) h2;refine⟨by simp[i0],L1++L2,by rw[ir],λn t ob hm=> ?_,λi k' n e ex hk hs=> ?_,by simp[b3],λi v' a' hv' ha'=> ?_⟩
    ·rcases a_.1 hm with hm|hm
     ·exact⟨0,k,rfl,a1 n t ob hm⟩
     ·obtain⟨i,k',hk,hc⟩:=b1 n t ob hm;exact⟨i+1,k',hk,by rw[show j+(i+1)=j+1+i by omega];exact hc⟩
    ·cases i with
     |zero=>cases hk;obtain⟨t,ob,h⟩:=a2 n e ex hs;exact⟨t,ob,bU _ h⟩
     |succ i=>obtain⟨t,ob,h⟩:=b2 i k' n e ex hk hs;exact⟨t,ob,bK _ h⟩
    ·cases i with
     |zero=>cases hv';cases ha';exact a3.mono (λe he=>bU _ he)
     |succ i=>have:=(b4 i v' a' hv' ha').mono (L':=L1++L2) (λe he=>bK _ he);rwa[show j+1+i=j+(i+1)by omega]at this
def Gp(σ:St)(ok:aW)(b p:aE)(pa:Pa)(l:ay AA)(L:ay Cf)(n:aE)(t:aC aE)(ob:Obj):Prop:=
 (∃i k,pa.cs[i]? =ah k/\qp σ ok pa.box.isSome b p i k (l.getD i .nl) n t ob)\/∃xs Ir,pa.box=ah (n,xs)/\t=ah (dK p 900)/\ob= .box Ir/\m7 ok L Ir (nC p 0 l)
theorem RH{T:Tab}{mV:ay aE}{v:bf}{ok:aW}{b p:aE}{pa:Pa}(Jy:zo T σ w c mV pa v){l:ay AA}{ws:ay (aE×eA)}(h:(RG ok b pa l).val σ=ah ws):
  ∃L,ws=lO L/\(∀n t ob,(n,t,ob)∈L->Gp σ ok b p pa l L n t ob)/\∀n∈pa.tn,∃t ob,(n,t,ob)∈L:=by
 have cs:∀n,n∈pa.cs.flatMap (·.tn)->∃(i:aE) (k:Pk) (e:aE) (ex:aW),pa.cs[i]? =ah k/\k.src= .own n e ex:=by
  intro n hn;obtain⟨k,hk,hn⟩:=bG.1 hn;obtain⟨i,hi⟩:=bX hk;unfold Pk.tn at hn;split at hn
  ·rename_i m e ex hs;have:=aX.1 hn;subst this;exact⟨i,k,e,ex,hi,hs⟩
  ·cases hn
 unfold RG at h;split at h
 ·rename_i n xs hb;obtain⟨⟨Ir,w1⟩,h1,h⟩:=Rd.bind_some h;obtain rfl:=aD h;obtain⟨_,_,_,hl,_,u0⟩:=Jy.box n xs hb;obtain⟨i0,L,rfl,a1,a2,a3,a4⟩:=JU (b:=b) (p:=p) (j:=0) u0 (by rw[wY];exact h1);have cr:m7 ok L Ir (nC p 0 l):=by
   refine⟨by rw[um,a3],λi v v3 hv CI=> ?_⟩
   rw[ve]at CI;cases hx:l[i]? with
   |none=>rw[hx]at CI;cases CI
   |some y=>rw[hx]at CI;cases CI;exact a4 i v y hv hx
  refine⟨L++[(n,ah (dK p 900), .box Ir)],by rw[ir];rfl,λm t ob hm=> ?_,λm hm=> ?_⟩
  ·rcases a_.1 hm with hm|hm
   ·obtain⟨i,k,hk,hc⟩:=a1 m t ob hm;rw[bT]at hc;exact .inl ⟨i,k,hk,by rw[hb];exact hc⟩
   ·rw[aX]at hm;cases hm;exact .inr ⟨xs,Ir,hb,rfl,rfl,cr.mono (λe he=>bU _ he)⟩
  ·unfold Pa.tn at hm;rw[hb]at hm;rcases a_.1 hm with hm|hm
   ·have:=aX.1 hm;subst this;exact⟨_,_,bK _ (aX.2 rfl)⟩
   ·obtain⟨i,k,e,ex,hk,hs⟩:=cs m hm;obtain⟨t,ob,h⟩:=a2 i k m e ex hk hs;exact⟨t,ob,bU _ h⟩
 ·rename_i hb;obtain⟨L,rfl,a1,a2⟩:=Ns (b:=b) (p:=p) (j:=0) h;refine⟨L,rfl,λm t ob hm=> ?_,λm hm=> ?_⟩
  ·obtain⟨i,k,hk,hc⟩:=a1 m t ob hm;rw[bT]at hc;exact .inl ⟨i,k,hk,by rw[hb];exact hc⟩
  ·unfold Pa.tn at hm;rw[hb,gi]at hm;obtain⟨i,k,e,ex,hk,hs⟩:=cs m hm;exact a2 i k m e ex hk hs
theorem Gp.mono{ok:aW}{b p:aE}{pa:Pa}{l:ay AA}{L L':ay Cf}{n:aE}{t:aC aE}{ob:Obj}(h:Gp σ ok b p pa l L n t ob)(hs:∀e∈L,e∈L'):Gp σ ok b p pa l L' n t ob:=
 h.imp id (λ⟨xs,Ir,h1,h2,h3,h4⟩=>⟨xs,Ir,h1,h2,h3,h4.mono hs⟩)
theorem Nr{T:Tab}{mV:ay aE}{ok:aW}:∀{ps:ay Pa} {b p:aE} {os:ay (ay AA)} {ws:ay (aE×eA)},(∀(q:aE) (pa:Pa),ps[q]? =ah pa->∃v,zo T σ w c mV pa v)->(JW ok b ps os).val σ=ah ws->
  ∃L,ws=lO L/\(∀n t ob,(n,t,ob)∈L->∃q pa,ps[q]? =ah pa/\Gp σ ok (b+40*q) (p+q) pa (os.getD q []) L n t ob)/\∀n∈ps.flatMap (·.tn),∃t ob,(n,t,ob)∈L:=by
 intro ps;induction ps with
 |nil=>intro b p os ws _ h;obtain rfl:=aD h;exact⟨[],rfl,λn t ob h=>(by cases h),λn h=>(by cases h)⟩
 |cons pa ps ih=>
  intro b p os ws E_ h;obtain⟨w1,h1,h⟩:=Rd.bind_some h;obtain⟨w2,h2,h⟩:=Rd.bind_some h;obtain rfl:=aD h;obtain⟨v,Jy⟩:=E_ 0 pa rfl;obtain⟨L1,rfl,a1,a2⟩:=RH (p:=p) Jy h1;obtain⟨L2,rfl,b1,b2⟩:=ih (p:=p+1) (λq pa' hq=>E_ (q+1) pa' hq) h2;have e0:os.headD []=os.getD 0 []:=by cases os<;>rfl
  have e1:∀i,os.tail.getD i []=os.getD (i+1) []:=λi=>by cases os<;>simp
  refine⟨L1++L2,by rw[ir],λn t ob hm=> ?_,λn hn=> ?_⟩
  ·rcases a_.1 hm with hm|hm
   ·exact⟨0,pa,rfl,by rw[<-e0];exact(a1 n t ob hm).mono (λe he=>bU _ he)⟩
   ·obtain⟨q,pa',hq,hc⟩:=b1 n t ob hm;rw[e1]at hc;refine⟨q+1,pa',hq, ?_⟩
    rw[show b+40*(q+1)=b+40+40*q by omega,show p+(q+1)=p+1+q by omega];exact hc.mono (λe he=>bK _ he)
  ·rw[wX]at hn;rcases a_.1 hn with hn|hn
   ·obtain⟨t,ob,h⟩:=a2 n hn;exact⟨t,ob,bU _ h⟩
   ·obtain⟨t,ob,h⟩:=b2 n hn;exact⟨t,ob,bK _ h⟩
theorem Ql:∀{l:ay aE} {ws:ay (aE×eA)},(Qk l).val σ=ah ws->∃Fz:ay (aE×Obj),ws=jJ Fz/\(∀n x,(n,x)∈Fz->n∈l/\∃el ex xs,σ (cR n)= .o (.row el ex xs)/\x= .fE el xs)/\∀n∈l,∃x,(n,x)∈Fz:=by
 intro l;induction l with
 |nil=>intro ws h;obtain rfl:=aD h;exact⟨[],rfl,λn x h=>(by cases h),λn h=>(by cases h)⟩
 |cons m l ih=>
  intro ws h;obtain⟨ob,hg,h⟩:=Rd.bind_some h;have hg:=c9 hg;cases ob with
  |row el ex xs=>
   obtain⟨w1,h1,h⟩:=Rd.bind_some h;obtain rfl:=aD h;obtain⟨Fz,rfl,a1,a2⟩:=ih h1;refine⟨(m, .fE el xs)::Fz,rfl,λn x hm=> ?_,λn hn=> ?_⟩
   ·rcases cz.1 hm with hm|hm
    ·cases hm;exact⟨dA ..,el,ex,xs,hg,rfl⟩
    ·obtain⟨h1,h2⟩:=a1 n x hm;exact⟨cU _ h1,h2⟩
   ·rcases cz.1 hn with rfl|hn
    ·exact⟨_,dA ..⟩
    ·obtain⟨x,h⟩:=a2 n hn;exact⟨x,cU _ h⟩
  |_=>simp at h
end
end Go.FG

namespace Go.FG
section
variable {P:cM} {E:fm} {σ:St} {a:Act} {w:bD} {c:eJ} {o:eV} {nm:aE} {e:rW}
theorem ahT{T:Tab}{mV:ay aE}{pa:Pa}{v:bf}(h:zo T σ w c mV pa v):∃xs,Kq pa.arg xs/\xs=pa.cs.map (·.a)/\∀(j:aE) (k:Pk),pa.cs[j]? =ah k->∃u,uK T σ w c mV k u:=by
 have h1:Kq pa.arg (pa.cs.map (·.a)):=by
  cases hb:pa.box with
  |none=>obtain⟨g,h1,_⟩:=h.val hb;exact .inl ⟨g,h1⟩
  |some nx=>obtain⟨n,xs⟩:=nx;exact .inr (h.box n xs hb).1
 exact⟨_,h1,rfl,(RK h h1).2⟩
theorem UQ{l:ay AA}{i:aE}{ys:aU}(h:l.getD i .nl= .kp ys):l[i]? =ah (.kp ys):=by
 rw[cL]at h;cases hx:l[i]? with
 |none=>rw[hx]at h;cases h
 |some x=>rw[hx]at h;rw[<-h];rfl
theorem DL{f:aE}{fn:Func}{vs ZH:c_ bf}{cl:Call}{fx:da}(ho:o.op= .call cl)(hc:cl.callee= .value fx)(hf:P.funcs[f]? =ah fn)(hb:fn.body.isSome=ai)(hn:(fn.name== "runtime.NumGoroutine")=ak)(he:a.eval fx= .func (.func f) #[] ZH):
  (execOp a.eval o).run P w= .ok (.enter f (cl.args.map a.eval++ZH)) w:=by
 have N0:fn.body.isNone=false:=by cases h:fn.body<;>simp_all
 unfold execOp;rw[ho];simp only[resolve,hc,he,Deferred.ofValue,ca,cG,bA,invoke,callFunc,program,mH,hf,hn,N0,dg,if_false,Array.empty_append]
def nameOf(nm:aE)(ps:ay Pa)(P J:aE):aC aE:=
 if 500<=P then ah (if J=900 then nm+1+40*(P-500)+30 else nm+1+40*(P-500)+J)
 else if J<100\/J=900 then loc ps (dK P J)else ah (nm+400+40*P+(J-100))
theorem n9:∀{l r:ay aE},qH l r=ai->∀n∈l,n∉r
 |[],_,_,n,h=>by cases h
 |m::l,r,h,n,hn=>by
  simp only[qH,aJ,dz]at h;rcases cz.1 hn with rfl|hn
  ·exact pI h.1
  ·exact n9 h.2 n hn
theorem HC(hE:d_ P E)(hF:∀g,k_ P E g (E.call g))(b7:Ok E σ w c)(dp:eS E σ a w c)(hd:∀d,o.dst=ah d->d<a.tmps.size){cl:Call}{fx:da}(ho:o.op= .call cl)(hb:cl.callee= .value fx){f:aE}{iC:ay (ay CV)}(ef:ea E w c (.fn f iC) (a.eval fx)){N8:aC (ay aE)}(h:(ER E nm o f cl.args.toList N8 iC).val σ=ah e)(hc:e.cond=ai):gC P E σ a w c o e.ws:=by
  obtain⟨ZH,he,E_,afH⟩:=ef;unfold ER at h;obtain⟨ps,h2,h⟩:=Rd.bind_some h;obtain⟨h3,h⟩:=cy h;simp only[aJ]at h3;obtain⟨hlen,Jy⟩:=PS b7 dp h2;split at h
  ·rename_i cnd r Ha;obtain⟨h4,h⟩:=cy h;simp only[aJ]at h4;obtain⟨w0,h5,h⟩:=Rd.bind_some h;obtain⟨w1,h6,h⟩:=Rd.bind_some h;obtain⟨⟨ss,w2⟩,h7,h⟩:=Rd.bind_some h;obtain⟨h8,h⟩:=cy h;obtain rfl:=aD h;have hc:cnd=true:=hc;subst hc;have auA:=cD h4.1.1;have an9:∀{q:aE} {pa:Pa},ps[q]? =ah pa->∀n∈pa.mV,n∈ps.flatMap (·.mV):=λhq n hn=>bG.2 ⟨_,aP hq,hn⟩;have hh:Handed E σ w c ps iC (cl.args.map a.eval++ZH):=by
    refine⟨by simp[E_,hlen],λq pa hq=> ?_,λq cs hq=> ?_,qb h3.1,n9 h3.2⟩
    ·obtain⟨x,hx,hp⟩:=Jy q pa hq;rw[cF]at hx;have U4:=(dL.1 hx).1;exact⟨a.eval x,by rw[CU (by simpa using U4),Ms,hx];rfl,hp.mono (an9 hq)⟩
    ·obtain⟨b,N0,hf⟩:=afH q cs hq;refine⟨b, ?_,hf⟩
     rw[Array.getElem?_append_right (by simp[hlen]),<-N0];congr 1;simp[hlen]
   have ach:∀(q:aE) (pa:Pa),ps[q]? =ah pa->∃v,zo E σ w c (ps.flatMap (·.mV)) pa v:=λq pa hq=>by obtain⟨v,_,h⟩:=hh.at_ q pa hq;exact⟨v,h⟩
   obtain⟨Qy,an_,_⟩:=enter b7 hh;have fH:(cl.args.map a.eval++ZH).size=(jl ps iC).length:=by simp[jl,E_,hlen]
   have abY:E.call f (jl ps iC)=ah (ai,r):=Ha;obtain⟨⟨fn,g1,g2,g3⟩,Jv⟩:=hF f _ r abY w (pY σ c ps) _ Qy fH an_;obtain⟨Fz,rfl,z1,z2⟩:=Ql h5;obtain⟨Lo,rfl,l1,l2⟩:=Nr (p:=0) ach h6;obtain⟨Lr,rfl,m1,m2⟩:=GD (P:=500) h7;generalize af4:(E.tk nm||(ps.flatMap (·.mV)).isEmpty)=ok at l1 m1 m2;have Yq:Small (jl ps iC) r:=by
    refine⟨λp x xs hp hx=> ?_,λq x xs hq hx=> ?_,λp=> ?_⟩
    ·rcases uU hp with ⟨pa,hq,_⟩|⟨_,cs,_,rfl⟩
     ·have:=(aT.1 hq).1;omega
     ·rcases hx with ⟨g,hx⟩|hx<;>cases hx
    ·have:=bu.1 h4.1.2 x (aP hq);have:=cD this;rcases hx with ⟨g,rfl⟩|rfl<;>(simp only[mL]at this;omega)
    ·rw[cL];cases hx:r.outs[p]? with
     |none=>simp
     |some l=>have:=bu.1 h4.2 l (aP hx);exact cD this
   have GC:∀{q:aE} {pa:Pa},ps[q]? =ah pa->(jl ps iC)[q]? =ah pa.arg:=λ{q} {pa} hq=>by have:=(aT.1 hq).1;unfold jl;rw[dr (by simpa using this),bF,hq];rfl
   have Hy:∀{q:aE} {pa:Pa} {n:aE},ps[q]? =ah pa->n∈pa.tn->n∈ps.flatMap (·.tn):=λhp hn=>bG.2 ⟨_,aP hp,hn⟩;have afr:∀{q i n e:aE} {ex:aW} {pa:Pa} {k:Pk},ps[q]? =ah pa->pa.cs[i]? =ah k->k.src= .own n e ex->n∈ps.flatMap (·.tn):=λhq hk hs=>Hy hq (bK _ (bG.2 ⟨_,aP hk,by simp[Pk.tn,hs]⟩));have small:∀{q i:aE} {pa:Pa} {k:Pk},ps[q]? =ah pa->pa.cs[i]? =ah k->i<100:=λhq hk=>by obtain⟨v,hv⟩:=ach _ _ hq;have:=(aT.1 hk).1;have:=hv.len;omega
   unfold gC;intro K Q hK;unfold Mw;rw[DL (vs:=cl.args.map a.eval++ZH) ho hb g1 g2 g3 he,To];refine Calls.mono Jv (λen w'' hR=> ?_);cases en with
   |panicked=>exact hR.elim
   |outgrown=>exact hR.elim
   |returned v=>
    obtain⟨c3,E8,wL,td,wN⟩:=hR;have fG:∀m,inj (jl ps iC) (cR m)≠ .jq->c3.P m=(pY σ c ps).P m/\c3.G m=(pY σ c ps).G m:=td;have hL:∀n t ob,(n,t,ob)∈Lo++Lr->XB σ (nL (jl ps iC) r) c c3 ok (ps.flatMap (·.tn)) (Lo++Lr) n t ob/\∀x,t=ah x->∃PP J,x=dK PP J/\J<1000/\nameOf nm ps PP J=ah n:=by
     intro n t ob hm;rcases a_.1 hm with hm|hm
     ·obtain⟨q,pa,hq,uj⟩:=l1 n t ob hm;obtain⟨v0,N5⟩:=ach q pa hq;obtain⟨xs,hx1,TR,hx3⟩:=ahT N5;have U4:=(aT.1 hq).1;rw[bT]at uj;rcases uj with ⟨i,k,hk,hco⟩|⟨ys,Ir,hbx,rfl,rfl,hcr⟩
      ·have hi:=small hq hk;rcases hco with ⟨e',ex,hs,rfl,rfl⟩|⟨e',ex,ys,hs,ha,rfl,rfl,hex⟩|⟨e',ex,ys,hbx,ha,rfl,rfl,rfl,hex,hf,jt⟩
       ·refine⟨⟨λ_=>afr hq hk hs,λhn=> ?_,λ_=>rfl,λx hx=>(by cases hx)⟩,λx hx=>(by cases hx)⟩
        obtain⟨u,hu⟩:=hx3 i k hk;unfold uK at hu;rw[hs]at hu;obtain⟨zs,hg,_⟩:=hu;rw[hg]at hn;cases hn
       ·obtain⟨u,hu⟩:=hx3 i k hk;unfold uK at hu;rw[hs]at hu;obtain⟨zs,hg,hka,_⟩:=hu;refine⟨⟨λ_=>afr hq hk hs,λhn=>(by rw[hg]at hn;cases hn),λhx=>(by cases hx),λx hx=> ?_⟩,λx hx=> ?_⟩
        ·cases hx;refine⟨λ_=> ?_, .inl ⟨e',ex,ys,rfl, ?_,hex⟩⟩
         ·obtain⟨q1,q2⟩:=fG (dK q i) ((p_ (GC hq)).2 xs i e' ex zs hx1 (by rw[TR,bF,hk];simp[hka]));obtain⟨q3,q4⟩:=s9 (σ:=σ) (c:=c) (Fk hq hk hs (by omega));exact⟨q1.trans q3,q2.trans q4⟩
         ·exact vO Yq (.kp q pa.arg xs i e' ex zs ys (GC hq) hx1 (by rw[TR,bF,hk];simp[hka]) (UQ ha))
        ·cases hx;refine⟨q,i,rfl,by omega, ?_⟩
         unfold nameOf;rw[bH (by omega),bw (.inl hi)];exact Fk hq hk hs (by omega)
       ·have hla:=E2.1 ha;refine⟨⟨λhn=>cE hf hn,λ_=>jt,λhx=>(by cases hx),λx hx=> ?_⟩,λx hx=> ?_⟩
        ·cases hx;exact⟨λhn=>cE hf hn, .inl ⟨e',ex,ys,rfl,vO Yq (.nw q pa.arg xs i e' ex ys (GC hq) hx1 hla),hex⟩⟩
        ·cases hx;refine⟨q,100+i,rfl,by omega, ?_⟩
         unfold nameOf;rw[bH (by omega),bH (by omega)];congr 1;omega
      ·obtain⟨p1,p2,p3,_⟩:=N5.box n ys hbx;refine⟨⟨λ_=>Hy hq (by simp[Pa.tn,hbx]),λhn=>(by rw[p3]at hn;cases hn),λhx=>(by cases hx),λx hx=> ?_⟩,λx hx=> ?_⟩
       ·cases hx;refine⟨λ_=> ?_, .inr ⟨Ir,_,rfl,vO Yq (.ob q _ (by rw[GC hq,p1])),hcr.mono (λe he=>bU _ he)⟩⟩
        obtain⟨q1,q2⟩:=fG (dK q 900) ((p_ (GC hq)).1 _ p1);obtain⟨q3,q4⟩:=s9 (σ:=σ) (c:=c) (z5 hq hbx);exact⟨q1.trans q3,q2.trans q4⟩
       ·cases hx;refine⟨q,900,rfl,by omega, ?_⟩
        unfold nameOf;rw[bH (by omega),bw (.inr rfl)];exact z5 hq hbx
     ·obtain⟨q,x0,hq,hra⟩:=m1 n t ob hm;rcases hra with ⟨xs,j,e',ex,ys,hx,hj,rfl,rfl,rfl,hex,hf,jt⟩|⟨xs,rfl,rfl,rfl,rfl,hf,jt,hcr⟩
      ·have js:=(aT.1 hj).1;have:=Yq.rl q x0 xs hq hx;refine⟨⟨λhn=>cE hf hn,λ_=>jt,λhx=>(by cases hx),λx oH=> ?_⟩,λx oH=> ?_⟩
       ·cases oH;exact⟨λhn=>cE hf hn, .inl ⟨e',ex,ys,rfl,vO Yq (.rr q x0 xs j e' ex ys hq hx hj),hex⟩⟩
       ·cases oH;refine⟨500+q,j,rfl,by omega, ?_⟩
        unfold nameOf;rw[bw (by omega),bH (by omega),show 500+q-500=q by omega]
      ·refine⟨⟨λhn=>cE hf hn,λ_=>jt,λhx=>(by cases hx),λx oH=> ?_⟩,λx oH=> ?_⟩
       ·cases oH;exact⟨λhn=>cE hf hn, .inr ⟨_,_,rfl,vO Yq (.rb q xs hq),hcr.mono (λe he=>bK _ he)⟩⟩
       ·cases oH;refine⟨500+q,900,rfl,by omega, ?_⟩
        unfold nameOf;rw[bw (by omega),bw rfl,show 500+q-500=q by omega]
    have Hh:((Lo++Lr).map (·.1)).Nodup:=by
     have:=qb h8;rw[<-ir]at this;unfold lO jJ at this;rw[lH,lH]at this;have e1:(Lo++Lr).map (((λx:aE×eA=>x.1)∘λd:aE×Obj=>(cR d.1,eA.o d.2))∘λt:Cf=>(t.1,t.2.2))=((Lo++Lr).map (·.1)).map cR:=by rw[lH];rfl
     rw[e1]at this;exact qS this
    have Qz:ok=ai->∀n∈ps.flatMap (·.mV),∃x,(n,x)∈Fz:=by
     intro hk n hn;rw[<-af4]at hk;cases Fb:E.tk nm with
     |true=>rw[Fb]at z2;exact z2 n hn
     |false=>
      rw[Fb]at hk;have:ps.flatMap (·.mV)=[]:=by simpa using hk
      rw[this]at hn;cases hn
    have hFz:∀n x,(n,x)∈Fz->ok=ai/\n∈ps.flatMap (·.mV)/\∃el ex xs,σ (cR n)= .o (.row el ex xs)/\x= .fE el xs:=by
     intro n x hn;obtain⟨y1,y2⟩:=z1 n x hn;cases Fb:E.tk nm with
     |true=>rw[Fb]at y1;exact⟨by rw[<-af4,Fb];rfl,y1,y2⟩
     |false=>rw[Fb]at y1;cases y1
    have hws:jJ Fz++(lO Lo++lO Lr)++dw o (rD ss)=jJ (Fz++(Lo++Lr).map λt=>(t.1,t.2.2))++dw o (rD ss):=by rw[<-ir];simp only[lO,jJ,c8]
    obtain⟨c',k1,k2,k3,k4⟩:=leave b7 dp hd hh E8 wL wN (L:=Lo++Lr) (Fz:=Fz) (λn t ob hm=>(hL n t ob hm).1) Hh
     (λn n' x ob ob' h1 h2=>by obtain⟨P1,J1,e1,e2,e3⟩:=(hL n _ ob h1).2 x rfl;obtain⟨P2,J2,f1,f2,f3⟩:=(hL n' _ ob' h2).2 x rfl;obtain⟨rfl,rfl⟩:=tq e2 f2 (e1.symm.trans f1);rw[e3]at f3;exact aD f3)
     (λn hn=>by obtain⟨t,ob,h⟩:=l2 n hn;exact⟨t,ob,bU _ h⟩) hFz Qz
     (show DT ok (Lo++Lr) ss (kL 500 r.rs)from⟨m2.1,λj x x3 hx hx3=>(m2.2 j x x3 hx hx3).mono (λe he=>bK _ he)⟩)
    show K (a.put o.dst v) w'';rw[<-hws]at k1 k2 k3;exact hK v w'' c' k1 k2 k3 k4.w
  ·simp at h
theorem Fx(b7:Ok E σ w c)(dp:eS E σ a w c){o:eV}(hd:∀d,o.dst=ah d->d<a.tmps.size){nm:aE}{ob ob':Obj}{s:SV}{v:bf}{w':bD}
  (hn:σ (cR nm)= .o ob) (mh:o7 E w' c nm ob') (pd:∀b,e8 c nm ob' b->e8 c nm ob b)
  (He:∀xs,ob'= .box xs->∀a∈xs,iV σ a)
  (wN:iW E w' c s v) (zE:l_ σ s)
  (hW:∀b,b<w.heap.size->¬e8 c nm ob b->w'.heap[b]? =w.heap[b]?) (fH:w.heap.size<=w'.heap.size) (M8:w'.os=w.os) (U8:w'.tape=w.tape) (U1:w'.output=w.output):
  Ok E (wr σ ([(cR nm, .o ob')]++dw o s)) w' c/\eS E (wr σ ([(cR nm, .o ob')]++dw o s)) (a.put o.dst v) w' c/\nO σ c w (wr σ ([(cR nm, .o ob')]++dw o s)) c w':=by
 let σ1:=oe σ (cR nm) (.o ob');obtain⟨s1,s2,s3⟩:=pn σ1 o s;have key:∀m,wr σ1 (dw o s) (cR m)=if m=nm then .o ob' else σ (cR m):=λm=>by rw[s3];exact nY _ _ _ _
 have il:∀m,σ (cR m)≠ .jq->wr σ1 (dw o s) (cR m)≠ .jq:=λm hm=>by rw[key];split<;>simp_all
 have g9:∀b,e8 c nm ob b->jA (λm=>m=nm) σ c b:=λb hb=>⟨nm,ob,rfl,hn,hb⟩
 have hh:=b7.change (σ':=wr σ1 (dw o s)) (w':=w') (c':=c) (λm=>m=nm) (λm hm=>by rw[key,bH hm]) il (ji.refl _ _)
  (λb hb Qw=>hW b hb (λhf=>Qw (g9 b hf))) fH (λ_ h=>h) (λ_ h=> .inl h) (λb hb=>ig (b7.lt b hb) fH)
  (λm x hm ho=>by subst hm;rw[key,bw rfl]at ho;cases ho;exact mh)
  (λm x b hm ho hf=>by subst hm;rw[key,bw rfl]at ho;cases ho;exact⟨.inl (g9 b (pd b hf)),b7.kk _ _ b hn (pd b hf)⟩)
  (λm x m' x' b hm uZ _ _ _ _=>by rw[hm,uZ])
  (λm xs hm ho y hy n j5=>by subst hm;rw[key,bw rfl]at ho;cases ho;exact il n (He xs rfl y hy n j5)) M8 U8 U1
 refine⟨hh.1, ?_,hh.2⟩
 refine dp.change b7 hh.2 (ji.refl _ _) il o v (λn j5=>by rw[s1 n j5];exact iz _ _ _ _) (λd ho=>⟨hd d ho, ?_, ?_⟩)
 ·rw[s2 d ho];exact wN
 ·rw[s2 d ho];intro n j5;rw[key];split
  ·simp
  ·exact zE n j5
theorem JQ(hE:d_ P E)(hF:∀g,k_ P E g (E.call g))(b7:Ok E σ w c)(dp:eS E σ a w c)(hd:∀d,o.dst=ah d->d<a.tmps.size){cl:Call}{fx x y:da}(ho:o.op= .call cl)(hb:cl.callee= .value fx)(ry:cl.args.toList=[x,y])
  {f n i j:aE} (ef:ea E w c (.fn f []) (a.eval fx)) (hx:ea E w c (.inn n i j) (a.eval x)) (h:(Bi E o f n i j y).val σ=ah e) (hc:e.cond=ai):gC P E σ a w c o e.ws:=by
 unfold Bi at h;obtain⟨⟨k,m⟩,h1,h⟩:=Rd.bind_some h;have ey:=ph dp h1;obtain⟨ob,h2,h⟩:=Rd.bind_some h;have hg:=c9 h2;split at h
 ·rename_i el xs;obtain⟨te,h3,h⟩:=Rd.bind_some h;have h6:=dH h3;split at h
  ·rename_i e2 wM;split at h
   ·rename_i cnd r Ha;split at h
    ·rename_i k2 m2 Ce hrs Hj;obtain rfl:=aD h;have hc:cnd=true:=hc;subst hc;obtain⟨⟨hi,hxv⟩,_⟩:=hx;obtain⟨zs,yy,t2,r1,r2,r3,r4,r5,r6,r7,r8⟩:=v8 b7 hg h6 wM hi;rw[eK r1 r2]at Ha;simp only[iD]at Ha;obtain⟨⟨t1,q1,fH,lj⟩,fG,g9⟩:=b7.obj n _ hg;obtain rfl:te=t1:=aD (h6.symm.trans q1);have kZ:i<xs.length:=(aT.1 r1).1;obtain⟨iR,pv,hpb⟩:=fG.pos hi;have CF:fP xs i j:=⟨yy,_,r1,r2,rfl⟩
     generalize hq:c.G n i j=p at r5 r7 r8 hxv;let c1:eJ:=⟨λ_=>p,λ_ _ _=>⟨ai,0,0,0,0,0⟩,c.K⟩
     let args:ay eQ:=[.v ak [.ow e2 ai zs], .v ak [.i k m]]
     have hO:∀q o',inj args (cR q)= .o o'->q=dK 0 0/\o'= .row e2 ai zs:=by
      intro q o' hq';have hm:=np hq' (by simp);simp only[args,JE,sF,uk,sE,Dy,cz,dN,gi,Ar,rH,or_false,iU]at hm;rcases hm with ⟨hm,_⟩|⟨hm,h⟩|⟨hm,_⟩
      ·exact cE hm (lK _ _)
      ·exact⟨jw hm,eA.o.inj h⟩
      ·exact cE hm (lK _ _)
     have hX:inj args (cR (dK 0 0))= .o (.row e2 ai zs):=rfl;have Bs:∀i j,¬fP zs i j:=by rintro i j ⟨y,x,h1,h2,h3⟩;rw[gJ r4 (r6 y (aP h1)) h2]at h3;cases h3
     have Hb:∀b,e8 c1 (dK 0 0) (.row e2 ai zs) b->p.nil=ak/\b=p.blk:=by
      rintro b (⟨h1,h2⟩|⟨_,i,j,h,_⟩)
      ·exact⟨h1,h2⟩
      ·exact cE h (Bs i j)
     have hpf:p.nil=ak->e8 c n (.row el ai xs) p.blk:=λhn=> .inr ⟨rfl,i,j,CF,by rw[hq];exact hn,by rw[hq]⟩;have Qy:Ok E (inj args) w c1:=by
      refine⟨?_, ?_, ?_, ?_, ?_,b7.gp⟩
      ·intro q o' h;obtain⟨rfl,rfl⟩:=hO q o' h;exact⟨⟨t2,r3,r5,r6⟩,r7.frame (λ_=>rfl) (λi j y x u h1 h2 hr=>by rw[bw rfl];exact tB (gJ r4 (r6 y (aP h1)) h2) hr),λ_=>⟨λi j h=>cE h (Bs i j),λi j i' j' h=>cE h (Bs i j)⟩⟩
      ·intro q o' q' o'' b h h' _ _;rw[(hO q o' h).1,(hO q' o'' h').1]
      ·intro q o' b h hf hk;obtain⟨rfl,rfl⟩:=hO q o' h;obtain⟨hn,rfl⟩:=Hb b hf;exact b7.kk _ _ _ hg (hpf hn) hk
      ·exact b7.lt
      ·intro q bs h;obtain⟨_,h⟩:=hO q _ h;cases h
     have QG:(cl.args.map a.eval).size=args.length:=by
      have:cl.args.size=2:=by rw[<-dm,ry];rfl
      simp[args,this]
     have TJ:cl.args.map a.eval= #[a.eval x,a.eval y]:=by apply rF;rw[zh,ry];rfl
     obtain⟨ZH,he,E_,_⟩:=ef;have an3:ZH= #[]:=zg (by simpa using E_);subst an3;obtain⟨⟨fn,g1,g2,g3⟩,Jv⟩:=hF f args r Ha w c1 #[a.eval x,a.eval y] Qy rfl (by
      intro q arg hqa;match q with
      |0=>cases hqa;exact⟨_,rfl,hxv⟩
      |1=>cases hqa;exact⟨_,rfl,ey⟩
      |q+2=>cases hqa)
     unfold gC;intro K Q hK;unfold Mw;rw[DL (vs:= #[a.eval x,a.eval y]) ho hb g1 g2 g3 he,TJ,Array.append_empty,To];refine Calls.mono Jv (λen w' hR=> ?_);cases en with
     |panicked=>exact hR.elim
     |outgrown=>exact hR.elim
     |returned v=>
      obtain⟨c3,E8,wL,td,wN⟩:=hR;obtain⟨rs,outs⟩:=r;simp only at hrs Hj;subst hrs;subst Hj;have hv:v= .int k2 m2:=wN;have hp3:c3.P (dK 0 0)=p:=(td (dK 0 0) (by rw[hX];simp)).1;have hX3:nL args ⟨[.v ak [.i k2 m2]],[[.kp Ce]]⟩ (cR (dK 0 0))= .o (.row e2 ai Ce):=rfl;obtain⟨⟨t3,u1,u2,u3⟩,u4,_⟩:=E8.obj _ _ hX3;obtain rfl:t2=t3:=aD (r3.symm.trans u1);rw[hp3]at u2 u4;have anm:iP w' p Ce (λ_ _ u x=>Sc u x):=u4.frame (λ_=>rfl) (λi j y x u h1 h2 hr=>by rw[bw rfl]at hr;exact tE hr (gJ r4 (u3 y (aP h1)) h2));have oG:∀b,b<w.heap.size->¬(p.nil=ak/\b=p.blk)->w'.heap[b]? =w.heap[b]? :=λb hb Hg=>wL.same b hb (by rintro ⟨q,o',h1,h2⟩;obtain⟨rfl,rfl⟩:=hO q o' h1;exact Hg (Hb b h2));have hjk:j<te.ks.length:=(aT.1 wM).1;have ab7:[CV.l e2 Ce].map CV.kd=(te.ks.drop j).take [CV.l e2 Ce].length:=by rw[bB,List.take_one,X1,wM];rfl
      have p9:=tC (i:=i) (j:=j) (cs:=[CV.l e2 Ce]) lj ab7 (by simp;omega) kZ;have Hd:=kD lj;have Bd:=kD p9;have same:∀i' j',fP (dV xs i j [CV.l e2 Ce]) i' j'->fP xs i' j':=λi' j' hx=>(Hd i' j').2 (by have:=(Bd i' j').1 hx;rwa[iX]at this);have jt:∀b,e8 c n (.row el ai xs) b->b<w.heap.size:=λb hb=>uJ.lt b7 ⟨n,_,hg,hb⟩;have acg:p.nil=ak->(c.P n).blk≠p.blk:=λhn e=>(g9 rfl).out i j CF (by rw[hq];exact hn) iR (by rw[hq];exact e.symm);have my:iP w' (c.P n) (dV xs i j [CV.l e2 Ce]) (λi1 j1 u1 x1=>if ai=ai then XC E w' (c.G n) i1 j1 u1 x1 else cT E w' c.K u1 x1):=by
       obtain⟨vs,k1,k2,k3,k4,k5⟩:=fG.mem iR;refine⟨by rw[iX];exact fG.n,λhn=>(by rw[iR]at hn;cases hn),λ_=>⟨vs,k1.frame (oG _ (jt _ (.inl ⟨iR,rfl⟩)) (λh=>acg h.1 h.2)),k2,k3,k4,λi1 y1 j1 x1 g1 g2=> ?_⟩⟩
       rw[wv r1]at g1;simp only[if_true]at k5⊢;by_cases Hc:i1=i
       ·subst Hc;rw[bw rfl]at g1;cases g1;have Fc:yy.length=te.ks.length:=by rw[<-lj yy (aP r1)];simp
        rw[oL (by simp;omega)]at g2;by_cases hqq:j<=j1/\j1<j+[CV.l e2 Ce].length
        ·rw[bw hqq]at g2;have:j1=j:=by simp at hqq;omega
         subst this;simp at g2;subst g2;obtain⟨u,hu,hr⟩:=k5 _ _ _ _ r1 r2;refine⟨u,hu,hr.1,t2,r3,r4,by rw[hq];exact r5,u3,by rw[hq];exact anm⟩
        ·rw[bH hqq]at g2;obtain⟨u,hu,hr⟩:=k5 _ _ _ _ r1 g2;refine⟨u,hu,hr.frame (λhl hn=>oG _ (jt _ (.inr ⟨rfl,_,_,⟨yy,x1,r1,g2,hl⟩,hn,rfl⟩)) (λe=> ?_))⟩
         have:=((g9 rfl).one _ _ _ _ ⟨yy,x1,r1,g2,hl⟩ CF hn (by rw[hq];exact e.1) (by rw[hq];exact e.2)).2;simp at hqq;omega
       ·rw[bH Hc]at g1;obtain⟨u,hu,hr⟩:=k5 _ _ _ _ g1 g2;exact⟨u,hu,hr.frame (λhl hn=>oG _ (jt _ (.inr ⟨rfl,_,_,⟨y1,x1,g1,g2,hl⟩,hn,rfl⟩)) (λe=>Hc ((g9 rfl).one _ _ _ _ ⟨y1,x1,g1,g2,hl⟩ CF hn (by rw[hq];exact e.1) (by rw[hq];exact e.2)).1))⟩
      obtain⟨z1,z2,z3⟩:=Fx b7 dp hd hg (ob':= .row el ai (dV xs i j [CV.l e2 Ce])) (w':=w') (s:= .v ak [.i k2 m2]) (v:=v)
       ⟨⟨te,q1,fH,p9⟩,my,λhx=>⟨λi1 j1 hh=>(g9 hx).out i1 j1 (same i1 j1 hh),λi1 j1 i2 j2 h1 h2=>(g9 hx).one i1 j1 i2 j2 (same i1 j1 h1) (same i2 j2 h2)⟩⟩
       (by
        rintro b (hb|⟨hx,i1,j1,hh,hn⟩)
        ·exact .inl hb
        ·exact .inr ⟨hx,i1,j1,same i1 j1 hh,hn⟩)
       (λzs hz=>by cases hz) hv (λn hn=>by simp[cw,bE]at hn)
       (λb hb N3=>oG b hb (λe=>N3 (by rw[e.2];exact hpf e.1))) wL.size wL.os wL.tape wL.output
      exact hK v w' c z1 z2 z3 (ji.refl _ _).w
    ·simp at h
   ·simp at h
  ·simp at h
 ·simp at h
theorem FX{α:Type}{x y:Rd α}{σ:St}{e:α}(h:(x.or y).val σ=ah e):x.val σ=ah e\/y.val σ=ah e:=by
 induction x with
 |ret a=>exact .inl h
 |fail=>exact .inr h
 |get k f ih=>
  have h':((f (σ k)).or y).val σ=ah e:=by rw[<-h];unfold Rd.val;simp only[Rd.or,Rd.run];rw[kI,kI]
  rcases ih (σ k) h' with h|h
  ·refine .inl ?_;rw[<-h];unfold Rd.val;simp only[Rd.run];rw[kI,kI]
  ·exact .inr h
theorem Bt(hE:d_ P E)(hF:∀g,k_ P E g (E.call g))(b7:Ok E σ w c)(dp:eS E σ a w c)(hd:∀d,o.dst=ah d->d<a.tmps.size){cl:Call}{fx:da}(ho:o.op= .call cl)(hb:cl.callee= .value fx){f:aE}{iC:ay (ay CV)}(ef:ea E w c (.fn f iC) (a.eval fx)){N8:ay aE}(h:(KW E nm o f cl.args.toList N8 iC).val σ=ah e)(hc:e.cond=ai):gC P E σ a w c o e.ws:=by
 rcases FX h with h|h
 ·exact HC hE hF b7 dp hd ho hb ef h hc
 ·exact HC hE hF b7 dp hd ho hb ef h hc
theorem WK(hE:d_ P E)(hF:∀g,k_ P E g (E.call g))(b7:Ok E σ w c)(dp:eS E σ a w c)(hd:∀d,o.dst=ah d->d<a.tmps.size){cl:Call}{fx:da}(ho:o.op= .call cl)(hb:cl.callee= .value fx)(h:(lE E nm o).val σ=ah e)(hc:e.cond=ai):gC P E σ a w c o e.ws:=by
 simp only[lE,ho,hb]at h;obtain⟨fv,h1,h⟩:=Rd.bind_some h;have ef:=(iM dp h1).1;cases fv with
 |fn f iC=>
  simp only at h;split at h
  ·rename_i x y ry;obtain⟨sx,h2,h⟩:=Rd.bind_some h;split at h
   ·rename_i n i j;cases hm:E.mode f 0 with
    |true=>rw[hm,au]at h;exact JQ hE hF b7 dp hd ho hb ry ef (lL dp h2).1 h hc
    |false=>rw[hm,aA]at h;exact Bt hE hF b7 dp hd ho hb ef h hc
   ·exact Bt hE hF b7 dp hd ho hb ef h hc
  ·exact Bt hE hF b7 dp hd ho hb ef h hc
 |_=>simp at h
end
end Go.FG

namespace Go.FG
section
variable {P:cM} {E:fm} {σ:St} {a:Act} {w:bD} {c:eJ} {o:eV} {nm:aE} {e:rW}
theorem ahS(hE:d_ P E)(hF:∀g,k_ P E g (E.call g))(b7:Ok E σ w c)(dp:eS E σ a w c)(hd:∀d,o.dst=ah d->d<a.tmps.size)(h:(lE E nm o).val σ=ah e)(hc:e.cond=ai):gC P E σ a w c o e.ws:=by
 cases ho:o.op with
 |move x=>exact LL b7 dp hd (.inl ho) h
 |assign x=>exact LL b7 dp hd (.inr ho) h
 |nilCheck x=>exact HE b7 dp hd ho h
 |pick x y z=>exact WM b7 dp hd ho h hc
 |alloc t=>exact Rx hE b7 dp hd ho h
 |box t x=>exact ac_ b7 dp hd ho h
 |build t ps=>exact Rz hE b7 dp hd ho h
 |buildSlice t n ps=>exact CL hE b7 dp hd ho h hc
 |load t p=>exact WL hE b7 dp hd ho h
 |store t p x=>exact RE hE b7 dp hd ho h
 |fieldAddr t p f=>exact Fq hE b7 dp hd ho h
 |field t x f=>exact RB hE b7 dp hd ho h
 |indexAddr t x i=>exact Fs hE b7 dp hd ho h hc
 |index t x i=>exact RC hE b7 dp hd ho h hc
 |binOp op t x y ty=>exact Ry hE b7 dp hd ho h hc
 |unOp op t x=>exact WN b7 dp hd ho h
 |convert s d x=>exact JR hE b7 dp hd ho h hc
 |makeSlice t l m=>exact Ft hE b7 dp hd ho h hc
 |slice t x lo hi mx=>exact RD hE b7 dp hd ho h hc
 |extract x i=>exact JS b7 dp hd ho h
 |makeFunc f first iC=>exact HD b7 dp hd ho h
 |call cl=>
  cases hb:cl.callee with
  |value f=>exact WK hE hF b7 dp hd ho hb h hc
  |builtin b=>
   cases b with
   |len=>exact adb hE b7 dp hd ho hb h
   |cap=>exact ada hE b7 dp hd ho hb h
   |min=>exact DF ak b7 dp hd ho hb h
   |max=>exact DF ai b7 dp hd ho hb h
   |clear=>exact RA hE b7 dp hd ho hb h
   |append=>exact Nm hE b7 dp hd ho hb h hc
   |_=>simp[lE,ho,hb]at h
  |_=>simp[lE,ho,hb]at h
 |_=>simp[lE,ho]at h
end
end Go.FG

namespace Go.FG
theorem BX{σ:St}{k:aE}{c:eA}(h:σ k=c):oe σ k c=σ:=by
 funext n;by_cases hn:n=k
 ·subst hn;rw[sS,h]
 ·rw[yI σ c hn]
def Tl(c c':eJ):Prop:=∀m,900000000<=m->c'.P m=c.P m/\c'.G m=c.G m
theorem Tl.refl(c:eJ):Tl c c:=λ_ _=>⟨rfl,rfl⟩
theorem Tl.trans{c c1 c2:eJ}(h:Tl c c1)(k:Tl c1 c2):Tl c c2:=λm hm=>⟨(k m hm).1.trans (h m hm).1,(k m hm).2.trans (h m hm).2⟩
theorem Vl{m:aE}(h:900000000<=m):vl m=false:=by
 unfold vl;cases hb:pO m 900000000 with
 |true=>have:m<900000000:=by simpa [zn]using hb
        omega
 |false=>simp
theorem pq.aga{σ:St}{c c':eJ}(h:pq σ c c'):Tl c c':=λm hm=>⟨(h m (.inr hm)).1,(h m (.inr hm)).2 (Vl hm)⟩
def lM(all:c_ eV)(o:eV)(σ:St):aC aW:=
 match o.guard with
 |none=>ah ai
 |some (g,want)=>match (all.getD g default).dst with
  |none=>aj
  |some d=>match σ (pJ d)with| .v (.v ak [.b x])=>ah (x==want)| .v (.jE [])=>ah ak|_=>aj
def pc(all:c_ eV)(o:eV):ay aE:=
 match o.guard with
 |none=>[]
 |some (g,_)=>match (all.getD g default).dst with|none=>[]|some d=>[pJ d]
def uf(E:fm)(all:c_ eV)(nm:aE)(o:eV)(σ:St)(ws:ay (aE×eA))(lg:Lg):Prop:=
 (lM all o σ=ah ai/\∃e l,(lE E nm o).run σ []=ah (e,l)/\e.cond=ai/\ws=e.ws/\lg=⟨pc all o++l,e.ws.map (·.1)⟩)\/
 (lM all o σ=ah ak/\ws=dw o (.jE [])/\lg=⟨pc all o,(dw o (.jE [])).map (·.1)⟩)
def JM(nD i:aE):aE:=(nD+1)*1000000+i*1000
abbrev Tr:=ay (ay (aE×eA)×Lg)
def vt(E:fm)(all:c_ eV)(nD:aE):aE->ay eV->St->Tr->St->Prop
 |_,[],σ,tr,σ'=>tr=[]/\σ'=σ
 |i,o::os,σ,tr,σ'=>∃ws lg tr',tr=(ws,lg)::tr'/\uf E all (JM nD i) o σ ws lg/\vt E all nD (i+1) os (wr σ ws) tr' σ'
theorem Np{R:Type}(E:fm)(all:c_ eV)(nD:aE):∀(os:ay eV) (i:aE) (σ:St) (lg:ay Lg) (K:St->ay Lg->aC R) (r:R),ops E all nD i os σ lg K=ah r->
  ∃tr σ',vt E all nD i os σ tr σ'/\K σ' ((tr.map (·.2)).reverse++lg)=ah r:=by
 intro os;induction os with
 |nil=>intro i σ lg K r h;exact⟨[],σ,⟨rfl,rfl⟩,by simpa [ops]using h⟩
 |cons o os ih=>
  intro i σ lg K r h;have next:∀ws l,uf E all (JM nD i) o σ ws l->ops E all nD (i+1) os (wr σ ws) (l::lg) K=ah r->∃tr σ',vt E all nD i (o::os) σ tr σ'/\K σ' ((tr.map (·.2)).reverse++lg)=ah r:=by intro ws l hs h;obtain⟨tr,σ',h1,h2⟩:=ih _ _ _ _ _ h;exact⟨(ws,l)::tr,σ',⟨ws,l,tr,rfl,hs,h1⟩,by simpa using h2⟩
  have ahU:∀rs,rs=pc all o->lM all o σ=ah ai->(match (lE E (JM nD i) o).run σ []with
    |some (e,l)=>bif e.cond then ops E all nD (i+1) os (wr σ e.ws) (⟨rs++l,e.ws.map (·.1)⟩::lg) K else aj
    |none=>aj)=ah r->∃tr σ',vt E all nD i (o::os) σ tr σ'/\K σ' ((tr.map (·.2)).reverse++lg)=ah r:=by
   intro rs hrs hw h
   cases hr:(lE E (JM nD i) o).run σ []with
   |none=>rw[hr]at h;cases h
   |some el=>
    obtain⟨e,l⟩:=el;rw[hr]at h;cases hc:e.cond with
    |false=>simp[hc]at h
    |true=>simp only[hc,au]at h;exact next e.ws _ (.inl ⟨hw,e,l,hr,hc,rfl,by rw[hrs]⟩) h
  unfold ops at h;simp(config:={zeta:=false}) only[Dt]at h;cases hg:o.guard with
  |none=>rw[hg]at h;exact ahU [] (by simp[pc,hg]) (by simp[lM,hg]) h
  |some gw=>
   obtain⟨g,want⟩:=gw;rw[hg]at h;dsimp only at h;cases hd:(all.getD g default).dst with
   |none=>rw[hd]at h;cases h
   |some d=>
    rw[hd]at h;dsimp only at h;have wL:pc all o=[pJ d]:=by unfold pc;rw[hg];dsimp only;rw[hd]
    cases hs:σ (pJ d)with
    |v sv=>
     rw[hs]at h;cases sv with
     |v agg xs=>
      cases agg with
      |true=>cases h
      |false=>
       match xs with
       |[]=>cases h
       |_::_::_=>simp at h
       |[av]=>
        cases av with
        |b x=>
         have hwa:lM all o σ=ah (x==want):=by unfold lM;rw[hg];dsimp only;rw[hd];dsimp only;rw[hs]
         have hup:oe σ (pJ d) (.v (.v ak [.b x]))=σ:=BX hs;have skip:lM all o σ=ah ak->ops E all nD (i+1) os (wr (oe σ (pJ d) (.v (.v ak [.b x]))) (dw o (.jE []))) (⟨[pJ d],(dw o (.jE [])).map (·.1)⟩::lg) K=ah r->∃tr σ',vt E all nD i (o::os) σ tr σ'/\K σ' ((tr.map (·.2)).reverse++lg)=ah r:=by intro hw h;rw[hup]at h;exact next (dw o (.jE [])) _ (.inr ⟨hw,rfl,by rw[wL]⟩) h
         have ZG:lM all o σ=ah ai->(match (lE E (JM nD i) o).run (oe σ (pJ d) (.v (.v ak [.b x]))) []with
           |some (e,l)=>bif e.cond then ops E all nD (i+1) os (wr (oe σ (pJ d) (.v (.v ak [.b x]))) e.ws) (⟨pJ d::l,e.ws.map (·.1)⟩::lg) K else aj
           |none=>aj)=ah r->∃tr σ',vt E all nD i (o::os) σ tr σ'/\K σ' ((tr.map (·.2)).reverse++lg)=ah r:=by
          intro hw h
          rw[hup]at h
          exact ahU [pJ d] wL.symm hw h
         cases x with
         |true=>
          cases want with
          |true=>exact ZG (by rw[hwa];rfl) h
          |false=>exact skip (by rw[hwa];rfl) h
         |false=>
          cases want with
          |true=>exact skip (by rw[hwa];rfl) h
          |false=>exact ZG (by rw[hwa];rfl) h
        |_=>simp at h
     |jE l=>cases l with
      |nil=>
       have hwa:lM all o σ=ah false:=by unfold lM;rw[hg];dsimp only;rw[hd];dsimp only;rw[hs]
       exact next (dw o (.jE [])) _ (.inr ⟨hwa,rfl,by rw[wL]⟩) h
      |cons=>simp at h
     |un=>simp at h
    |o x=>rw[hs]at h;cases h
    |jq=>rw[hs]at h;cases h
section
variable {P:cM} {E:fm} {σ:St} {a:Act} {w:bD} {c:eJ} {o:eV} {nm:aE} {e:rW}
theorem DQ(dp:eS E σ a w c){all:c_ eV}{x:aW}(h:lM all o σ=ah x):ud o (yielded all a.tmps)=x:=by
 unfold lM at h;unfold ud;cases hg:o.guard with
 |none=>rw[hg]at h;simp at h;simp[<-h]
 |some gw=>
  obtain⟨g,want⟩:=gw;rw[hg]at h;simp only at h⊢;cases hd:(all.getD g default).dst with
  |none=>rw[hd]at h;cases h
  |some d=>
   rw[hd]at h;have hgo:(all[g]?).bind (·.dst)=ah d:=by
    rw[ej]at hd;cases hq:all[g]? with
    |none=>rw[hq]at hd;cases hd
    |some og=>rw[hq]at hd;exact hd
   simp only at h;split at h
   ·rename_i y hy;have h1:=dp.ok d;have:slot σ d= .v ak [.b y]:=by unfold slot;rw[hy]
    rw[this]at h1;have h1:a.eval (.tmp d)= .bool y:=h1;have ht:a.tmps[d]? =ah (.bool y):=by
     have h2:a.tmps.getD d undef= .bool y:=h1;rw[ej]at h2;cases hq:a.tmps[d]? with
     |none=>rw[hq]at h2;cases h2
     |some v=>rw[hq]at h2;rw[show v=_ from h2]
    have Fc:yielded all a.tmps g=ah y:=by unfold yielded;rw[hgo];simp[ht]
    rw[Fc];simp at h;rw[<-h];cases y<;>cases want<;>rfl
   ·rename_i hy;have h1:=dp.ok d;have:slot σ d= .jE []:=by unfold slot;rw[hy]
    rw[this]at h1;obtain⟨vs,h1,h3,_⟩:=h1;have h4:vs= #[]:=by simpa using h3
    subst h4;have ht:a.tmps.getD d undef= .tuple #[]:=h1;have Fc:yielded all a.tmps g=none:=by
     unfold yielded;rw[hgo];rw[ej]at ht;cases hq:a.tmps[d]? with
     |none=>simp[hq]
     |some v=>rw[hq]at ht;simp at ht;simp[hq,ht]
    rw[Fc];have h5:ak=x:=by simpa using h
    rw[<-h5];cases want<;>rfl
   ·cases h
theorem Act.R9(a:Act)(d:aC Tmp)(v:bf):(a.put d v).tmps.size=a.tmps.size:=by cases d<;>simp[Tm]
theorem Ab(hE:d_ P E)(hF:∀g,k_ P E g (E.call g))(b7:Ok E σ w c)(dp:eS E σ a w c)(hd:∀d,o.dst=ah d->d<a.tmps.size){all:c_ eV}{i:aE}(hi:all[i]? =ah o){ws:ay (aE×eA)}{lg:Lg}(h:uf E all nm o σ ws lg)
  {K:Act->bD->Prop} {Q:Exit->Act->bD->Prop} (hK:∀v w' c',Ok E (wr σ ws) w' c'->eS E (wr σ ws) (a.put o.dst v) w' c'->nO σ c w (wr σ ws) c' w'->pq σ c c'->K (a.put o.dst v) w'):wpOp P all Q i K a w:=by
 unfold wpOp;rw[hi];simp only;rcases h with ⟨hw,e,l,hr,hc,rfl,_⟩|⟨hw,rfl,_⟩
 ·rw[bw (DQ dp hw)];exact .inl (ahS hE hF b7 dp hd (Rd.Ki hr) hc K Q hK)
 ·rw[bH (by rw[DQ dp hw];simp)];obtain⟨s1,s2,s3⟩:=pn σ o (.jE []);obtain⟨h1,h2⟩:=b7.slot s3;refine hK undef w c h1 ?_ h2 (ji.refl _ _).w;refine dp.change b7 h2 (ji.refl _ _) (λnm hn=>by rw[s3];exact hn) o undef s1 (λd ho=>⟨hd d ho, ?_, ?_⟩)
  ·rw[s2 d ho];exact⟨#[],rfl,rfl,λj agg xs hj=>by simp at hj⟩
  ·rw[s2 d ho];intro n hn;simp[cw]at hn
structure At (P:cM) (E:fm) (N:aE) (σ0:St) (c0:eJ) (w0:bD) (σ:St) (a:Act) (w:bD) (c:eJ):Prop where
 ok:Ok E σ w c
 sl:eS E σ a w c
 sz:a.tmps.size=N
 gr:nO σ0 c0 w0 σ c w
 ag:Tl c0 c
theorem At.step{N:aE}{σ0:St}{c0:eJ}{w0:bD}(h:At P E N σ0 c0 w0 σ a w c){d:aC Tmp}{v:bf}{w':bD}{c':eJ}{σ':St}(h1:Ok E σ' w' c')(h2:eS E σ' (a.put d v) w' c')(h3:nO σ c w σ' c' w')(h4:pq σ c c'):At P E N σ0 c0 w0 σ' (a.put d v) w' c':=
 ⟨h1,h2,by rw[Act.R9];exact h.sz,h.gr.trans h3,h.ag.trans h4.aga⟩
theorem I8(hE:d_ P E)(hF:∀g,k_ P E g (E.call g)){N:aE}{σ0:St}{c0:eJ}{w0:bD}{all:c_ eV}{nD:aE}{Q:Exit->Act->bD->Prop}:∀(os:ay eV) (i:aE) (σ:St) (tr:Tr) (σ':St),vt E all nD i os σ tr σ'->(∀j o,os[j]? =ah o->all[i+j]? =ah o)->(∀o∈os,∀d,o.dst=ah d->d<N)->
  (∀a w c,At P E N σ0 c0 w0 σ' a w c->Q .normal a w)->∀a w c,At P E N σ0 c0 w0 σ a w c->wpOps P all Q (lI i os.length) a w:=by
 intro os;induction os with
 |nil=>intro i σ tr σ' h _ _ hQ a w c fG;obtain⟨_,rfl⟩:=h;exact hQ a w c fG
 |cons o os ih=>intro i σ tr σ' h oY Bc hQ a w c fG;obtain⟨ws,lg,tr',rfl,hs,TK⟩:=h;have hi:all[i]? =ah o:=oY 0 o rfl;rw[cY,List.range'_succ,wpOps_cons];refine Ab hE hF fG.ok fG.sl (λd hd=>by rw[fG.sz];exact Bc o (dA ..) d hd) hi hs (λv w' c' h1 h2 h3 h4=> ?_);exact ih (i+1) _ _ _ TK (λj o' hj=>by have:=oY (j+1) o' hj;rwa[show i+(j+1)=i+1+j by omega]at this) (λo' uj=>Bc o' (cU _ uj)) hQ _ _ _ (fG.step h1 h2 h3 h4)
end
end Go.FG

namespace Go.FG
theorem Rd.W5{α:Type}(m:Rd α):∀{σ:St} {l l':ay aE} {a:α},m.run σ l=ah (a,l')->∀k∈l,k∈l':=by
 induction m with
 |ret a=>intro σ l l' b h k hk;cases h;exact hk
 |fail=>intro σ l l' b h;cases h
 |get k f ih=>intro σ l l' b h k' ui;exact ih _ h k' (cU _ ui)
theorem Rd.NI{α:Type}(m:Rd α):∀{σ σ':St} {l l':ay aE} {a:α},m.run σ l=ah (a,l')->(∀k∈l',σ' k=σ k)->m.run σ' l=ah (a,l'):=by
 induction m with
 |ret a=>intro σ σ' l l' b h _;exact h
 |fail=>intro σ σ' l l' b h;cases h
 |get k f ih=>intro σ σ' l l' b h hk;have h:(f (σ k)).run σ (k::l)=ah (b,l'):=h;have ui:σ' k=σ k:=hk k (Rd.W5 _ h k (dA ..));show(f (σ' k)).run σ' (k::l)=ah (b,l');rw[ui];exact ih _ h hk
theorem wD{all:c_ eV}{o:eV}{σ σ':St}(h:∀k∈pc all o,σ' k=σ k):lM all o σ'=lM all o σ:=by
 unfold lM pc at*
 cases hg:o.guard with
 |none=>rfl
 |some gw=>
  obtain⟨g,want⟩:=gw;rw[hg]at h;dsimp only at h⊢;cases hd:(all.getD g default).dst with
  |none=>rfl
  |some d=>rw[hd]at h;dsimp only at h⊢;rw[h (pJ d) (aX.2 rfl)]
theorem uf.congr{E:fm}{all:c_ eV}{nm:aE}{o:eV}{σ σ':St}{ws:ay (aE×eA)}{lg:Lg}(h:uf E all nm o σ ws lg)(hk:∀k∈lg.rs,σ' k=σ k):uf E all nm o σ' ws lg:=by
 rcases h with ⟨h1,e,l,h2,h3,rfl,rfl⟩|⟨h1,rfl,rfl⟩
 ·refine .inl ⟨by rw[wD (λk ui=>hk k (bU _ ui))];exact h1,e,l,Rd.NI _ h2 (λk ui=>hk k (bK _ ui)),h3,rfl,rfl⟩
 ·exact .inr ⟨by rw[wD (λk ui=>hk k ui)];exact h1,rfl,rfl⟩
theorem uf.keys{E:fm}{all:c_ eV}{nm:aE}{o:eV}{σ:St}{ws:ay (aE×eA)}{lg:Lg}(h:uf E all nm o σ ws lg):lg.ws=ws.map (·.1):=by rcases h with ⟨h1,e,l,h2,h3,rfl,rfl⟩|⟨h1,rfl,rfl⟩<;>rfl
theorem oN:∀{ws:ay (aE×eA)} {σ:St} {k:aE},k∉ws.map (·.1)->wr σ ws k=σ k:=by
 intro ws;induction ws with
 |nil=>intro σ k _;rfl
 |cons d ws ih=>obtain⟨k',c⟩:=d;intro σ k h;rw[eW,cz,not_or]at h;show wr (oe σ k' c) ws k=σ k;rw[ih h.2,yI σ c h.1]
theorem S_:∀{ws:ay (aE×eA)} {σ σ':St} {k:aE},k∈ws.map (·.1)->wr σ ws k=wr σ' ws k:=by
 intro ws;induction ws with
 |nil=>intro σ σ' k h;cases h
 |cons d ws ih=>
  obtain⟨k',c⟩:=d;intro σ σ' k h;show wr (oe σ k' c) ws k=wr (oe σ' k' c) ws k;by_cases hk:k∈ws.map (·.1)
  ·exact ih hk
  ·have:k=k':=by
    rcases cz.1 h with h|h
    ·exact h
    ·exact cE h hk
   subst this;rw[oN hk,oN hk,sS,sS]
theorem S9{ws:ay (aE×eA)}{σ σ':St}{k:aE}(h:σ k=σ' k):wr σ ws k=wr σ' ws k:=by
 by_cases hk:k∈ws.map (·.1)
 ·exact S_ hk
 ·rw[oN hk,oN hk];exact h
def Cc:Tr->aE->(aE->aW)->St->St
 |[],_,_,σ=>σ
 |(ws,_)::tr,i,S,σ=>Cc tr (i+1) S (bif S i then wr σ ws else σ)
theorem tD:∀{tr:Tr} {i:aE} {S S':aE->aW} {σ σ':St} {k:aE},σ k=σ' k->(∀j ws lg,tr[j]? =ah (ws,lg)->S (i+j)≠S' (i+j)->k∉ws.map (·.1))->Cc tr i S σ k=Cc tr i S' σ' k:=by
 intro tr;induction tr with
 |nil=>intro i S S' σ σ' k h _;exact h
 |cons d tr ih=>
  obtain⟨ws,lg⟩:=d;intro i S S' σ σ' k h hd;refine ih ?_ (λj CS Cb hj il=>hd (j+1) CS Cb hj (by rwa[show i+(j+1)=i+1+j by omega]));by_cases hS:S i=S' i
  ·rw[hS];cases S' i
   ·exact h
   ·exact S9 h
  ·have hk:=hd 0 ws lg rfl hS;cases hs:S i<;>cases hs':S' i
   ·exact cE (hs.trans hs'.symm) hS
   ·show σ k=wr σ' ws k;rw[oN hk];exact h
   ·show wr σ ws k=σ' k;rw[oN hk];exact h
   ·exact cE (hs.trans hs'.symm) hS
theorem BT:∀{tr:Tr} {i:aE} {S:aE->aW} {σ:St},(∀j,i<=j->S j=ak)->Cc tr i S σ=σ:=by
 intro tr;induction tr with
 |nil=>intro i S σ _;rfl
 |cons d tr ih=>obtain⟨ws,lg⟩:=d;intro i S σ h;show Cc tr (i+1) S (bif S i then wr σ ws else σ)=σ;rw[h i (cu _)];exact ih (λj hj=>h j (by omega))
theorem SW:∀{tr:Tr} {i j:aE} {S:aE->aW} {σ:St} {ws:ay (aE×eA)} {lg:Lg},tr[j]? =ah (ws,lg)->S (i+j)=ai->(∀q,i+j<q->S q=ak)->∃τ,Cc tr i S σ=wr τ ws:=by
 intro tr;induction tr with
 |nil=>intro i j S σ ws lg h;simp at h
 |cons d tr ih=>
  obtain⟨CS,Cb⟩:=d;intro i j S σ ws lg h hS hn;cases j with
  |zero=>
   cases h;refine⟨σ, ?_⟩
   show Cc tr (i+1) S (bif S i then wr σ CS else σ)=wr σ CS;rw[show S i=ai from hS];exact BT (λq hq=>hn q (by omega))
  |succ j=>exact ih (i:=i+1) h (by rwa[show i+1+j=i+(j+1)by omega]) (λq hq=>hn q (by omega))
theorem P4{E:fm}{all:c_ eV}{nD:aE}:∀{os:ay eV} {i:aE} {σ σ':St} {tr:Tr},vt E all nD i os σ tr σ'->tr.length=os.length/\Cc tr i (λ_=>ai) σ=σ'/\
  ∀(j:aE) (o:eV),os[j]? =ah o->∃ws lg,tr[j]? =ah (ws,lg)/\uf E all (JM nD (i+j)) o (Cc tr i (λq=>decide (q<i+j)) σ) ws lg:=by
 intro os;induction os with
 |nil=>intro i σ σ' tr h;obtain⟨rfl,rfl⟩:=h;exact⟨rfl,rfl,λj o h=>by simp at h⟩
 |cons o os ih=>
  intro i σ σ' tr h;obtain⟨ws,lg,tr',rfl,hs,TK⟩:=h;obtain⟨h1,h2,h3⟩:=ih TK;refine⟨by simp[h1],h2,λj o' hj=> ?_⟩
  cases j with
  |zero=>
   cases hj;refine⟨ws,lg,rfl, ?_⟩
   rw[show Cc ((ws,lg)::tr') i (λq=>decide (q<i+0)) σ=σ from BT (λq hq=>by simp;omega)];exact hs
  |succ j=>
   obtain⟨CS,Cb,q1,q2⟩:=h3 j o' hj;refine⟨CS,Cb,q1, ?_⟩
   have e1:Cc ((ws,lg)::tr') i (λq=>decide (q<i+(j+1))) σ=Cc tr' (i+1) (λq=>decide (q<i+1+j)) (wr σ ws):=by show Cc tr' (i+1) (λq=>decide (q<i+(j+1))) (bif decide (i<i+(j+1))then wr σ ws else σ)=_;rw[aF (by omega:i<i+(j+1))];rw[show i+(j+1)=i+1+j by omega];rfl
   rw[e1,show i+(j+1)=i+1+j by omega];exact q2
theorem sq{a b:Lg}(h:AW a b=ak):(∀k∈a.ws,k∉b.ws)/\(∀k∈a.ws,k∉b.rs)/\∀k∈b.ws,k∉a.rs:=by simp only[AW,lY,aJ]at h;exact⟨n9 h.1.1,n9 h.1.2,n9 h.2⟩
theorem yv{l:ay aE}{n:aE}(h:lX n l=ai):n∈l:=by
 induction l with
 |nil=>cases h
 |cons m r ih=>
  simp only[lX,dB]at h;rcases h with h|h
  ·rw[aR h];exact dA ..
  ·exact cU _ (ih h)
theorem IZ{an:ay aE}{j:aE}{a:Lg}:∀{l:ay Lg} {i:aE},zP an j a i l=ai->∀(q:aE) (b:Lg),l[q]? =ah b->i+q∈an\/AW a b=false:=by
 intro l;induction l with
 |nil=>intro i _ q b h;simp at h
 |cons d l ih=>
  intro i h q b hq;simp only[zP,aJ,dB,dz]at h;cases q with
  |zero=>cases hq;exact h.1.imp yv id
  |succ q=>have:=ih h.2 q b hq;rwa[show i+1+q=i+(q+1)by omega]at this
theorem KY{an:ay (ay aE)}:∀{rest:ay Lg} {j:aE} {done:ay Lg},done.length=j->calm j an done rest=ai->∀(i J:aE) (a b:Lg),i<J->j<=J->(done++rest)[i]? =ah b->(done++rest)[J]? =ah a->i∈an.getD J []\/AW a b=false:=by
 intro rest;induction rest with
 |nil=>intro j done hd _ i J a b _ hJ _ hb;rw[dN,km (by omega)]at hb;cases hb
 |cons d rest ih=>
  intro j done hd h i J a b M1 hJ hi hb;simp only[calm,aJ]at h;by_cases hJj:J=j
  ·subst hJj;rw[cX (by omega),hd,Nat.sub_self]at hb;cases hb;rw[dr (by omega)]at hi;have:=IZ h.1 i b hi;rwa[bT]at this
  ·refine ih (done:=done++[d]) (by simp[hd]) h.2 i J a b M1 (by omega) ?_ ?_
   ·rw[ch];exact hi
   ·rw[ch];exact hb
theorem Up:∀{os:ay eV} {acc:ay (ay aE)},∃rest,EK acc os=acc++rest/\rest.length=os.length/\
  ∀(t:aE) (o:eV),os[t]? =ah o->rest[t]? =ah (ddA [] (o.after.toList.flatMap λe=>bif l8 .any e then e.on::((acc++rest).take (acc.length+t)).getD e.on []else [])):=by
 intro os;induction os with
 |nil=>intro acc;exact⟨[],by simp[EK],rfl,λt o h=>by simp at h⟩
 |cons o os ih=>
  intro acc;let x:=ddA [] (o.after.toList.flatMap λe=>bif l8 .any e then e.on::acc.getD e.on []else []);obtain⟨rest,h1,h2,h3⟩:=ih (acc:=acc++[x]);refine⟨x::rest, ?_,by simp[h2],λt o' ht=> ?_⟩
  ·show mf x (λx=>EK (acc++[x]) os)=_;rw[oa,h1,ch];rfl
  ·cases t with
   |zero=>cases ht;rw[rG,wY,B4 (cu _),g8]
   |succ t=>rw[dD,h3 t o' ht];simp only[bW,bB,ch,tM,show acc.length+1+t=acc.length+(t+1)by omega]
theorem LM:∀{os:ay eV} {i:aE},HF i os=ai->∀(t:aE) (o:eV),os[t]? =ah o->∀e∈o.after,l8 .any e=ai->e.on<i+t:=by
 intro os;induction os with
 |nil=>intro i _ t o h;simp at h
 |cons o os ih=>
  intro i h t o' ht e he hb;simp only[HF,aJ]at h;cases t with
  |zero=>
   cases ht;have:=bu.1 h.1 e (by simpa using he);rw[hb]at this;have:pO e.on i=true:=by simpa using this
   simpa [zn]using this
  |succ t=>have:=ih h.2 t o' ht e he hb;omega
theorem AG{os:ay eV}{S:aE->aW}(hS:∀(j:aE) (o:eV),S j=ai->os[j]? =ah o->∀e∈o.after,l8 .any e=ai->S e.on=ai)(QA:HF 0 os=ai):
  ∀j,S j=ai->∀i∈(EK [] os).getD j [],S i=true:=by
 obtain⟨rest,h1,h2,h3⟩:=Up (os:=os) (acc:=[]);rw[gi]at h1;intro j;induction j using Nat.strongRecOn with
 |_ j ih=>
  intro hj i hi;rw[h1,cL]at hi;cases ho:os[j]? with
  |none=>rw[km (by rw[h2];exact List.getElem?_eq_none_iff.1 ho)]at hi;cases hi
  |some o=>
   rw[h3 j o ho]at hi;simp only[wZ,jo,bT,gi]at hi;have hi:=(ES _ _ _ hi).elim (λh=>by cases h) id;obtain⟨e,he,hi⟩:=bG.1 hi;have he:e∈o.after:=by simpa using he
   cases hb:l8 .any e with
   |false=>rw[hb]at hi;cases hi
   |true=>
    rw[hb]at hi;have jt:=LM QA j o ho e he hb;rw[bT]at jt;have hSe:=hS j o hj ho e he hb;rcases cz.1 hi with rfl|hi
    ·exact hSe
    ·refine ih e.on jt hSe i ?_;rw[h1,cL];rw[cL,dR,bw jt]at hi;exact hi
end Go.FG

namespace Go.FG
theorem GR{p p':aE->aW}{i:aE}(hp:p i=ai)(mA:p' i=ak)(il:∀j,j≠i->p' j=p j):∀{l:ay aE},l.Nodup->i∈l->l.countP p'+1=l.countP p:=by
 have same:∀{l:ay aE},i∉l->l.countP p'=l.countP p:=by
  intro l;induction l with
  |nil=>intro _;rfl
  |cons m l ih=>intro h;rw[cz,not_or]at h;rw[kR,kR,ih h.2,il m (λe=>h.1 e.symm)]
 intro l;induction l with
 |nil=>intro _ h;cases h
 |cons m l ih=>
  intro hn h;rw[jY]at hn;rcases cz.1 h with rfl|h
  ·rw[kR,kR,same hn.1,hp,mA];simp
  ·have hm:m≠i:=λe=>hn.1 (e▸h);rw[kR,kR,il m hm,<-ih hn.2 h];omega
theorem pH{dI:c_ aW}{i:aE}(h:i<dI.size)(d:aW):(dI.setIfInBounds i ai).getD i d=true:=by simp[h]
section
variable {P:cM} {E:fm}
theorem ML(hE:d_ P E)(hF:∀g,k_ P E g (E.call g)){N:aE}{σ0:St}{c0:eJ}{w0:bD}{all:c_ eV}{nD:aE}{Q:Exit->Act->bD->Prop}{σ σ':St}{tr:Tr}(TK:vt E all nD 0 all.toList σ tr σ')(Ye:calm 0 (EK [] all.toList) [] (tr.map (·.2))=ai)(QA:HF 0 all.toList=ai)
  (Bc:∀o∈all.toList,∀d,o.dst=ah d->d<N) (hQ:∀a w c,At P E N σ0 c0 w0 σ' a w c->Q .normal a w):
  ∀(fuel:aE) (dI:c_ aW) (a:Act) (w:bD) (c:eJ),dI.size=all.size->(∀(j:aE) (o:eV),dI.getD j ak=ai->all.toList[j]? =ah o->∀e∈o.after,l8 .any e=ai->dI.getD e.on ak=ai)->
   (cJ all.size).countP (λj=> !dI.getD j ak)<=fuel->At P E N σ0 c0 w0 (Cc tr 0 (λj=>dI.getD j ak) σ) a w c->wpAny P .any all Q fuel dI a w:=by
 obtain⟨t1,t2,t3⟩:=P4 TK;have hlen:all.toList.length=all.size:=dm;have done:∀(dI:c_ aW) (a:Act) (w:bD) (c:eJ),(∀j,j<all.size->dI.getD j ak=ai)->At P E N σ0 c0 w0 (Cc tr 0 (λj=>dI.getD j ak) σ) a w c->Q .normal a w:=by
  intro dI a w c oY fG;refine hQ a w c ?_;have:Cc tr 0 (λj=>dI.getD j ak) σ=σ':=by
   rw[<-t2];funext k;refine tD rfl (λj ws lg hj il=> ?_);have js:j<all.size:=by rw[<-hlen,<-t1];exact(aT.1 hj).1
   rw[bT]at il;exact cE (oY j js) il
  rw[<-this];exact fG
 have abE:∀(dI:c_ aW) (j:aE),dI.size=all.size->j<all.size->dI.getD j ai=dI.getD j false:=by
  intro dI j hs hj;rw[ej,ej];have:j<dI.size:=by omega
  simp[this]
 have full:∀dI:c_ aW,dI.size=all.size->vx .any all dI=[]->∀j,j<all.size->dI.getD j ak=true:=by
  intro dI hs hr j;induction j using Nat.strongRecOn with
  |_ j ih=>
   intro hj;cases h:dI.getD j ak with
   |true=>rfl
   |false=>
    have ho:all[j]? =ah all[j]:=by simp[hj]
    have:j∈vx .any all dI:=by
     rw[mem_ready];refine⟨by rw[abE dI j hs hj];exact h,all[j],ho,λe he hb=> ?_⟩
     have:=LM QA j all[j] (by rw[cF];exact ho) e he hb;rw[bT]at this;exact ih e.on this (by omega)
    rw[hr]at this;cases this
 intro fuel;induction fuel with
 |zero=>
  intro dI a w c hs _ afJ fG;have oY:∀j,j<all.size->dI.getD j ak=true:=by intro j hj;have h0:=List.countP_eq_zero.1 (Nat.le_zero.1 afJ) j (by simpa using hj);simpa using h0
  refine⟨?_,done dI a w c oY fG⟩
  cases hr:vx .any all dI with
  |nil=>rfl
  |cons i r=>
   have:i∈vx .any all dI:=by rw[hr];exact dA ..
   obtain⟨h0,o,ho,_⟩:=mem_ready.1 this;have hi:i<all.size:=(dL.1 ho).1;rw[abE dI i hs hi,oY i hi]at h0;cases h0
 |succ fuel ih=>
  intro dI a w c hs nM afJ fG;refine⟨λhr=>done dI a w c (full dI hs hr) fG,λi hi=> ?_⟩
  obtain⟨h0,o,ho,an2⟩:=mem_ready.1 hi;have hil:i<all.size:=(dL.1 ho).1;rw[abE dI i hs hil]at h0;have Gc:all.toList[i]? =ah o:=by rw[cF];exact ho
  obtain⟨ws,lg,q1,q2⟩:=t3 i o Gc;rw[bT]at q2;have Q3:∀{j:aE} {CS:ay (aE×eA)} {Cb:Lg},tr[j]? =ah (CS,Cb)->(tr.map (·.2))[j]? =ah Cb/\Cb.ws=CS.map (·.1):=by
   intro j CS Cb hj;have js:j<all.toList.length:=by rw[<-t1];exact(aT.1 hj).1
   obtain⟨ws2,lg2,r1,r2⟩:=t3 j all.toList[j] (by simp[js]);rw[hj]at r1;cases r1;exact⟨by rw[bF,hj];rfl,r2.keys⟩
  obtain⟨lgi,kwi⟩:=Q3 q1;have ab0:∀(j:aE) (o':eV),(dI.setIfInBounds i ai).getD j ak=ai->all.toList[j]? =ah o'->∀e∈o'.after,l8 .any e=ai->(dI.setIfInBounds i ai).getD e.on ak=true:=by
   intro j o' hj uj e he hb;by_cases M4:i=j
   ·subst M4;rw[Gc]at uj;cases uj;exact getD_set_true (an2 e he hb)
   ·rw[getD_set_ne ak M4]at hj;exact getD_set_true (nM j o' hj uj e he hb)
  have before:∀j,j<i->dI.getD j ak=ak->∀{CS:ay (aE×eA)} {Cb:Lg},tr[j]? =ah (CS,Cb)->AW lg Cb=false:=by
   intro j hj hn CS Cb hjt;rcases KY (done:=[]) rfl Ye j i lg Cb hj (bz _) (Q3 hjt).1 lgi with h|h
   ·have:=AG ab0 QA i (pH (by omega) ak) j h;rw[getD_set_ne ak (by omega:i≠j)]at this;rw[hn]at this;cases this
   ·exact h
  have after:∀j,i<j->dI.getD j ak=ai->∀{CS:ay (aE×eA)} {Cb:Lg},tr[j]? =ah (CS,Cb)->AW Cb lg=false:=by
   intro j hj hn CS Cb hjt;rcases KY (done:=[]) rfl Ye i j Cb lg hj (bz _) lgi (Q3 hjt).1 with h|h
   ·have:=AG nM QA j hn i h;rw[h0]at this;cases this
   ·exact h
  have agc:uf E all (JM nD i) o (Cc tr 0 (λj=>dI.getD j ak) σ) ws lg:=by
   refine q2.congr (λk hk=>tD rfl (λj CS Cb hj il Yk=> ?_));rw[bT]at il;rw[<-(Q3 hj).2]at Yk;by_cases M4:j<i
   ·rw[aF M4]at il;have hn:dI.getD j ak=false:=by simpa using il
    exact(sq (before j M4 hn hj)).2.2 k Yk hk
   ·rw[aK M4]at il;have hn:dI.getD j ak=true:=by simpa using il
    have anM:i<j:=by
     rcases ql i j with h|h
     ·exact h
     ·have:j=i:=by omega
      subst this;rw[h0]at hn;cases hn
    exact(sq (after j anM hn hj)).2.1 k Yk hk
  have tV:wr (Cc tr 0 (λj=>dI.getD j ak) σ) ws=Cc tr 0 (λj=>(dI.setIfInBounds i ai).getD j ak) σ:=by
   funext k;by_cases hk:k∈ws.map (·.1)
   ·have e1:Cc tr 0 (λj=>(dI.setIfInBounds i ai).getD j ak) σ k=Cc tr 0 (λj=>(dI.setIfInBounds i ai).getD j ak&&decide (j<=i)) σ k:=by
     refine tD rfl (λj CS Cb hj il Yk=> ?_);rw[bT]at il;rw[<-(Q3 hj).2]at Yk;have M4:i<j:=by
      rcases ql i j with h|h
      ·exact h
      ·rw[aF h,o0]at il;exact cE rfl il
     rw[aK (by omega:¬j<=i),vp,getD_set_ne ak (by omega:i≠j)]at il;have hn:dI.getD j ak=true:=by simpa using il
     rw[<-kwi]at hk;exact(sq (after j M4 hn hj)).1 k Yk hk
    obtain⟨τ,hτ⟩:=SW (i:=0) (S:=λj=>(dI.setIfInBounds i ai).getD j ak&&decide (j<=i)) (σ:=σ) q1 (by rw[bT,pH (by omega) ak];simp) (λq hq=>by rw[aK (by omega:¬q<=i),vp]);rw[e1,hτ];exact S_ hk
   ·rw[oN hk];refine tD rfl (λj CS Cb hj il Yk=> ?_);rw[bT]at il;by_cases M4:i=j
    ·subst M4;rw[q1]at hj;cases hj;exact hk Yk
    ·rw[getD_set_ne ak M4]at il;exact cE rfl il
  refine Ab hE hF fG.ok fG.sl (λd Yg=>by rw[fG.sz];exact Bc o (aP Gc) d Yg) ho agc (λv w' c' h1 h2 h3 h4=> ?_);have vW:=fG.step h1 h2 h3 h4;rw[tV]at vW;refine ih (dI.setIfInBounds i ai) _ _ c' (by simp[hs]) ab0 ?_ vW;have:=GR (p:=λj=> !dI.getD j ak) (p':=λj=> !(dI.setIfInBounds i ai).getD j ak) (i:=i) (by rw[h0];rfl) (by rw[pH (by omega) ak];rfl) (λj hj=>by rw[getD_set_ne ak (λe=>hj e.symm)]) (l:=cJ all.size) List.nodup_range (by simpa using hil);omega
theorem At.drawn{N:aE}{σ0 σ:St}{c0 c:eJ}{w0 w:bD}{a:Act}(h:At P E N σ0 c0 w0 σ a w c)(n:aE):At P E N σ0 c0 w0 σ a {w with drawn:=n} c:=by have hh:=h.ok.change (σ':=σ) (w':={w with drawn:=n}) (c':=c) (λ_=>False) (λ_ _=>rfl) (λ_ h=>h) (ji.refl _ _) (λ_ _ _=>rfl) (cu _) (λ_ h=>h) (λ_ h=> .inl h) h.ok.lt (λ_ _ h=>h.elim) (λ_ _ _ h=>h.elim) (λ_ _ _ _ _ h=>h.elim) (λ_ _ h=>h.elim) rfl rfl rfl;refine⟨hh.1,⟨λn'=>(h.sl.ok n').frame (λ_ _=>rfl) (λ_ h=>h) (λ_ _=>⟨rfl,rfl⟩),h.sl.kn,h.sl.df⟩,h.sz,h.gr.trans hh.2,h.ag⟩
theorem Nz(hE:d_ P E)(hF:∀g,k_ P E g (E.call g))(hm:P.follows .mixedOrders=ai){R:Type}{N:aE}{σ0:St}{c0:eJ}{w0:bD}{os:c_ eV}{nD:aE}{draw:aW}{Q:Exit->Act->bD->Prop}{σ:St}{K:Ex->St->aC R}{r:R}
  (h:ops E os nD 0 os.toList σ [] (λσ lg=>bif !draw||(HF 0 os.toList&&KX (EK [] os.toList) lg.reverse)then K .normal σ else aj)=ah r) (Bc:∀o∈os.toList,∀d,o.dst=ah d->d<N)
  (hQ:∀σ' a w c,K .normal σ'=ah r->At P E N σ0 c0 w0 σ' a w c->Q .normal a w) {a:Act} {w:bD} {c:eJ} (fG:At P E N σ0 c0 w0 σ a w c):(Code.region nD os draw).wp P Q a w:=by
 obtain⟨tr,σ',TK,hk⟩:=Np E os nD _ _ _ _ _ _ h;simp only[dN,List.reverse_reverse,PY]at hk;cases draw with
 |false=>simp only[bV,zi,au]at hk;refine wp_region ?_;rw[PC,<-dm];exact I8 hE hF os.toList 0 σ tr σ' TK (λj o hj=>by rw[bT,<-cF];exact hj) Bc (λa w c h=>hQ σ' a w c hk h) a w c fG
 |true=>
  cases hc:(HF 0 os.toList&&calm 0 (EK [] os.toList) [] (tr.map (·.2)))with
  |false=>simp[hc]at hk
  |true=>
   simp only[hc,Iz,au]at hk;simp only[aJ]at hc;refine wp_region_any hm ?_;refine ML hE hF TK hc.2 hc.1 Bc (λa w c h=>hQ σ' a w c hk h) os.size _ a _ c (by simp) (λj o hj=> ?_) ?_ ?_
   ·exfalso;rw[ej,CW]at hj;split at hj<;>cases hj
   ·exact c6 (List.countP_le_length) (by simp)
   ·have:Cc tr 0 (λj=>(zG os.size ak).getD j ak) σ=σ:=BT (λj _=>by rw[ej,CW];split<;>rfl);rw[this];exact fG.drawn _
end
end Go.FG

namespace Go.FG
theorem QI:∀{l:ay aE} {n i:aE},n∈l->∃k,idx n i l=ah k/\i<=k/\k<i+l.length/\l[k-i]? =ah n:=by
 intro l;induction l with
 |nil=>intro n i h;cases h
 |cons m l ih=>
  intro n i h;unfold idx;cases hb:bn n m with
  |true=>have:=aR hb;subst this;exact⟨i,rfl,cu _,by simp,by simp⟩
  |false=>
   rcases cz.1 h with rfl|h
   ·simp at hb
   ·obtain⟨k,h1,h2,h3,h4⟩:=ih (i:=i+1) h;refine⟨k,h1,by omega,by simp;omega, ?_⟩
    rw[show k-i=(k-(i+1))+1 by omega,dD];exact h4
theorem Vg:∀{l:ay aE} {n i k:aE},idx n i l=ah k->i<=k/\k<i+l.length/\l[k-i]? =ah n:=by
 intro l;induction l with
 |nil=>intro n i k h;cases h
 |cons m l ih=>
  intro n i k h;unfold idx at h;cases hb:bn n m with
  |true=>rw[hb]at h;have:=aR hb;subst this;cases h;exact⟨cu _,by simp,by simp⟩
  |false=>
   rw[hb]at h;obtain⟨h2,h3,h4⟩:=ih h;refine⟨by omega,by simp;omega, ?_⟩
   rw[show k-i=(k-(i+1))+1 by omega,dD];exact h4
theorem Jd{f:aW}{k:aE}(h:k<900):enc f k<900000000:=by unfold enc;cases f<;>simp<;>omega
theorem Vm{f:aW}{k:aE}(h:k<900):vl (enc f k)=f:=by
 cases f with
 |false=>
  show(bn (k%1000) 999&&pO k 900000000)=ak;have:bn (k%1000) 999=false:=by
   cases hb:bn (k%1000) 999 with
   |false=>rfl
   |true=>have:=aR hb;omega
  rw[this];rfl
 |true=>show(bn ((k*1000+999)%1000) 999&&pO (k*1000+999) 900000000)=ai;rw[show(k*1000+999)%1000=999 by omega,show pO (k*1000+999) 900000000=ai from IG (by omega)];rfl
theorem UF{f f':aW}{k k':aE}(h:k<900)(h':k'<900)(he:enc f k=enc f' k'):k=k':=by unfold enc at he;cases f<;>cases f'<;>simp at he<;>omega
theorem RY{l:ay aE}{n:aE}(h:n∈l):∃k,uq l n=ah k:=by
 unfold uq;cases e9 900000000 n with
 |true=>exact⟨n,by simp[Ht h]⟩
 |false=>obtain⟨k,hk,_⟩:=QI (i:=0) h;exact⟨enc (vl n) k,by simp[hk]⟩
theorem wi{l:ay aE}{n k:aE}(h:uq l n=ah k):n∈l/\((900000000<=n/\k=n)\/(n<900000000/\∃k0,k=enc (vl n) k0/\k0<l.length/\l[k0]? =ah n)):=by
 unfold uq at h;cases hb:e9 900000000 n with
 |true=>
  rw[hb]at h;cases hm:lX n l with
  |true=>simp only[hm,au]at h;cases h;exact⟨yv hm, .inl ⟨cD hb,rfl⟩⟩
  |false=>simp[hm]at h
 |false=>
  rw[hb,aA]at h;cases hi:idx n 0 l with
  |none=>rw[hi]at h;cases h
  |some k0=>
   rw[hi]at h;cases h;obtain⟨_,h3,h4⟩:=Vg hi;rw[Cm]at h4;refine⟨aP h4, .inr ⟨?_,k0,rfl,by simpa using h3,h4⟩⟩
   rcases ql n 900000000 with h|h
   ·exact h
   ·rw[IG h]at hb;cases hb
theorem FE{l:ay aE}(hl:l.length<=900){n k:aE}(h:uq l n=ah k):vl k=vl n:=by
 obtain⟨_,⟨_,rfl⟩|⟨_,k0,rfl,h3,_⟩⟩:=wi h
 ·rfl
 ·exact Vm (by omega)
theorem WX{l:ay aE}(hl:l.length<=900){n n' k:aE}(h:uq l n=ah k)(h':uq l n'=ah k):n=n':=by
 obtain⟨_,h1⟩:=wi h;obtain⟨_,h2⟩:=wi h';rcases h1 with ⟨a,b⟩|⟨a,k0,b,d,e⟩<;>rcases h2 with ⟨a',b'⟩|⟨a',k0',b',d',e'⟩
 ·omega
 ·have:=Jd (f:=vl n') (k:=k0') (by omega);omega
 ·have:=Jd (f:=vl n) (k:=k0) (by omega);omega
 ·have:=UF (f:=vl n) (f':=vl n') (k:=k0) (k':=k0') (by omega) (by omega) (b.symm.trans b');subst this;rw[e]at e';cases e';rfl
def inv(l:ay aE)(m:aE):aC aE:=l.find? λn=>decide (uq l n=ah m)
theorem acr{l:ay aE}(hl:l.length<=900){n k:aE}(h:uq l n=ah k):inv l k=ah n:=by
 unfold inv;cases hf:l.find? (λn=>decide (uq l n=ah k))with
 |none=>have:=Uh.1 hf n (wi h).1;simp[h]at this
 |some n'=>have:=List.find?_some hf;rw[WX hl h (cg this)]
theorem QL{l:ay aE}{m n:aE}(h:inv l m=ah n):uq l n=ah m:=cg (List.find?_some (p:=λn=>decide (uq l n=ah m)) h)
theorem DB{l ns:ay aE}(h:yu l ns=ai):∀n∈ns,n∈l:=λn hn=>yv (bu.1 h n hn)
theorem qQ{σ:St}{l:ay aE}:∀{r:ay aE} {k:aE} {x:eA},(k,x)∈u_ σ l r↔∃n∈r,∃m,uq l n=ah m/\k=cR m/\x=NA l (σ (cR n)):=by
 intro r;induction r with
 |nil=>intro k x;simp[u_]
 |cons n r ih=>
  intro k x;unfold u_;cases hr:uq l n with
  |none=>
   simp only;rw[ih];constructor
   ·rintro ⟨n',h1,h2⟩;exact⟨n',cU _ h1,h2⟩
   ·rintro ⟨n',h1,m,h2,h3⟩;rcases cz.1 h1 with rfl|h1
    ·rw[hr]at h2;cases h2
    ·exact⟨n',h1,m,h2,h3⟩
  |some m=>
   simp only[cz,ih];constructor
   ·rintro (h|⟨n',h1,h2⟩)
    ·cases h;exact⟨n, .inl rfl,m,hr,rfl,rfl⟩
    ·exact⟨n', .inr h1,h2⟩
   ·rintro ⟨n',h1|h1,m',h2,rfl,rfl⟩
    ·subst h1;rw[hr]at h2;cases h2;exact .inl rfl
    ·exact .inr ⟨n',h1,m',h2,rfl,rfl⟩
section
variable {P:cM} {E:fm} {σ:St} {a:Act} {w:bD} {c:eJ} {o:eV} {nm:aE} {e:rW}
def wg(c:eJ)(l:ay aE):eJ:=
 ⟨λm=>match inv l m with|some n=>c.P n|none=>c.P m,λm=>match inv l m with|some n=>c.G n|none=>c.G m,c.K⟩
theorem wh{l:ay aE}(hl:l.length<=900){n m:aE}(h:uq l n=ah m):(wg c l).P m=c.P n/\(wg c l).G m=c.G n:=by have:=acr hl h;unfold wg;simp only[this];exact⟨trivial,trivial⟩
theorem sO{T:Tab}{l:ay aE}(hl:l.length<=900){x:AV}{u:bf}(hx:ea T w c x u)(hk:∀n∈bE x,n∈l):ea T w (wg c l) (oK l x) u/\∀m∈bE (oK l x),∃n∈l,uq l n=ah m:=by
 have named:∀n,n∈bE x->∃k,uq l n=ah k/\(wg c l).P k=c.P n/\(wg c l).G k=c.G n:=λn hn=>by obtain⟨k,h⟩:=RY (hk n hn);exact⟨k,h,wh hl h⟩
 have nn:∀m,m∈([]:ay aE)->∃n∈l,uq l n=ah m:=λm h=>by cases h
 cases x with
 |i=>exact⟨hx,nn⟩
 |b=>exact⟨hx,nn⟩
 |s=>exact⟨hx,nn⟩
 |nl=>exact⟨hx,nn⟩
 |sh=>exact⟨hx,nn⟩
 |sp=>exact⟨hx,nn⟩
 |fn=>exact⟨hx,nn⟩
 |fp=>exact⟨hx,nn⟩
 |own n=>obtain⟨k,h,e1,e2⟩:=named n (by simp[bE]);simp only[oK,h];exact⟨by simp only[ea,e1]at hx⊢;exact hx,λm hm=>⟨n,hk n (by simp[bE]),by rw[show m=k by simpa [bE]using hm];exact h⟩⟩
 |vw n lo hi=>obtain⟨k,h,e1,e2⟩:=named n (by simp[bE]);simp only[oK,h];exact⟨by simp only[ea,e1]at hx⊢;exact hx,λm hm=>⟨n,hk n (by simp[bE]),by rw[show m=k by simpa [bE]using hm];exact h⟩⟩
 |bp n j=>obtain⟨k,h,e1,e2⟩:=named n (by simp[bE]);simp only[oK,h];exact⟨by simp only[ea,e1]at hx⊢;exact hx,λm hm=>⟨n,hk n (by simp[bE]),by rw[show m=k by simpa [bE]using hm];exact h⟩⟩
 |rp n i j=>obtain⟨k,h,e1,e2⟩:=named n (by simp[bE]);simp only[oK,h];exact⟨by simp only[ea,e1]at hx⊢;exact hx,λm hm=>⟨n,hk n (by simp[bE]),by rw[show m=k by simpa [bE]using hm];exact h⟩⟩
 |inn n i j=>obtain⟨k,h,e1,e2⟩:=named n (by simp[bE]);simp only[oK,h];exact⟨by simp only[ea,e1,e2,FE hl h]at hx⊢;exact hx,λm hm=>⟨n,hk n (by simp[bE]),by rw[show m=k by simpa [bE]using hm];exact h⟩⟩
 |ip n i j i2 j2=>obtain⟨k,h,e1,e2⟩:=named n (by simp[bE]);simp only[oK,h];exact⟨by simp only[ea,e1,e2,FE hl h]at hx⊢;exact hx,λm hm=>⟨n,hk n (by simp[bE]),by rw[show m=k by simpa [bE]using hm];exact h⟩⟩
 |iv n i j lo hi=>obtain⟨k,h,e1,e2⟩:=named n (by simp[bE]);simp only[oK,h];exact⟨by simp only[ea,e1,e2,FE hl h]at hx⊢;exact hx,λm hm=>⟨n,hk n (by simp[bE]),by rw[show m=k by simpa [bE]using hm];exact h⟩⟩
theorem J3{T:Tab}{l:ay aE}(hl:l.length<=900){g:aW}{xs:ay AV}{u:bf}(hx:pD T w c g xs u)(hk:∀n∈xs.flatMap bE,n∈l):pD T w (wg c l) g (xs.map (oK l)) u/\∀m∈(xs.map (oK l)).flatMap bE,∃n∈l,uq l n=ah m:=by
 have kx:∀x∈xs,∀n∈bE x,n∈l:=λx hx n hn=>hk n (bG.2 ⟨x,hx,hn⟩);unfold pD at hx;split at hx
 ·rename_i y;obtain⟨h1,h2⟩:=sO hl hx (kx y (by simp));exact⟨h1,λm hm=>h2 m (by simpa using hm)⟩
 ·obtain⟨vals,rfl,hs,hv⟩:=hx;refine⟨⟨vals,rfl,by simp[hs],λj y hj=> ?_⟩,λm hm=> ?_⟩
  ·rw[bF]at hj;cases Vc:xs[j]? with
   |none=>rw[Vc]at hj;cases hj
   |some x=>rw[Vc]at hj;cases hj;obtain⟨u,hu,ha⟩:=hv j x Vc;exact⟨u,hu,(sO hl ha (kx x (aP Vc))).1⟩
  ·obtain⟨y,hy,hm⟩:=bG.1 hm;obtain⟨x,Ys,rfl⟩:=cO.1 hy;obtain⟨j,hj⟩:=bX Ys;obtain⟨u,hu,ha⟩:=hv j x hj;exact(sO hl ha (kx x Ys)).2 m hm
 ·exact hx.elim
theorem HJ{T:Tab}{l:ay aE}(hl:l.length<=900){s:SV}{u:bf}(hx:iW T w c s u):iW T w (wg c l) (DI l s) u/\∀m∈cw (DI l s),∃n∈l,uq l n=ah m:=by
 unfold DI;cases hk:yu l (cw s)with
 |false=>exact⟨trivial,λm hm=>by simp[cw]at hm⟩
 |true=>
  have hk:=DB hk;simp only[au];cases s with
  |un=>exact⟨trivial,λm hm=>by simp[cw]at hm⟩
  |v g xs=>exact J3 hl hx hk
  |jE r=>
   obtain⟨vs,rfl,hs,hv⟩:=hx;have kr:∀x∈r,∀n∈x.2.flatMap bE,n∈l:=λx hx n hn=>hk n (bG.2 ⟨x,hx,hn⟩);refine⟨⟨vs,rfl,by simp[hs],λj g xs hj=> ?_⟩,λm hm=> ?_⟩
   ·rw[bF]at hj;cases Vc:r[j]? with
    |none=>rw[Vc]at hj;cases hj
    |some x=>rw[Vc]at hj;cases hj;obtain⟨u,hu,ha⟩:=hv j x.1 x.2 Vc;exact⟨u,hu,(J3 hl ha (kr x (aP Vc))).1⟩
   ·obtain⟨y,hy,hm⟩:=bG.1 hm;obtain⟨x,Ys,rfl⟩:=cO.1 hy;obtain⟨j,hj⟩:=bX Ys;obtain⟨u,hu,ha⟩:=hv j x.1 x.2 hj;exact(J3 hl ha (kr x Ys)).2 m hm
theorem RX{l:ay aE}{x:eA}:NA l x≠ .jq:=by
 unfold NA;split
 ·intro h;revert h;cases yu l _<;>simp
 ·simp
 ·simp
theorem MK{N:aE}{σ0:St}{c0:eJ}{w0:bD}{keep:ay aE}(h:At P E N σ0 c0 w0 σ a w c):∃c',At P E N σ0 c0 w0 (fN (mf (I6 keep σ) λl=>I5 keep σ l)) a w c':=by
 rw[oa];generalize I6 keep σ=l;unfold I5;cases hle:e9 l.length 900 with
 |false=>
  simp only[aA];have hn:∀k,fN [] k= .jq:=λk=>rfl;have no:∀{k:aE} {x:Obj},fN [] k≠ .o x:=λh=>by rw[hn]at h;cases h
  refine⟨c,⟨λnm o ho=>cE ho no,λnm o wb o' b ho=>cE ho no,λnm o b ho=>cE ho no,h.ok.lt,λnm xs ho=>cE ho no,h.ok.gp⟩,⟨λn=>trivial,λn m hm=>(by simp[slot,fN,cw]at hm),h.sl.df⟩,h.sz,h.gr.trans ⟨rfl,rfl,rfl,cu _,λ_ h=>h,λ_ _ _=>rfl,λb hb=> ?_,λ_ h=> .inl h⟩,h.ag⟩
  obtain⟨nm,o,ho,_⟩:=hb;exact cE ho no
 |true=>
  have hl:=cD hle;simp only[au];generalize hT:keep.map (λn=>(pJ n,eA.v (DI l (slot σ n))))++u_ σ l l=T;have aqp:∀d∈T,d.2≠ .jq:=by
   rintro ⟨k,x⟩ hd;rw[<-hT]at hd;rcases a_.1 hd with hd|hd
   ·obtain⟨n,_,hd⟩:=cO.1 hd;cases hd;simp
   ·obtain⟨n,_,m,_,_,rfl⟩:=qQ.1 hd;exact RX
  have aqq:∀{m:aE} {ob:Obj},fN T (cR m)= .o ob->∃n∈l,uq l n=ah m/\NA l (σ (cR n))= .o ob:=by
   intro m ob ho;have:=np ho (by simp);rw[<-hT]at this;rcases a_.1 this with hd|hd
   ·obtain⟨n,_,hd⟩:=cO.1 hd;injection hd with h1 h2;exact cE h1 (qY n m)
   ·obtain⟨n,hn,m',hr,h1,h2⟩:=qQ.1 hd;have:=jw h1;subst this;exact⟨n,hn,hr,h2.symm⟩
  have QZ:∀{m n:aE},n∈l->uq l n=ah m->fN T (cR m)≠ .jq:=λhn hr=>qZ (l:=T) (by rw[<-hT];exact bK _ (qQ.2 ⟨_,hn,_,hr,rfl,rfl⟩)) aqp;have ZL:∀n,slot (fN T) n=DI l (slot σ n)\/slot (fN T) n= .un:=by
   intro n;unfold slot;cases hs:fN T (pJ n)with
   |v x=>
    have:=np hs (by simp);rw[<-hT]at this;rcases a_.1 this with hd|hd
    ·obtain⟨n',_,hd⟩:=cO.1 hd;injection hd with h1 h2;have:=FL h1;subst this;cases h2;exact .inl rfl
    ·obtain⟨n',hn,m',hr,h1,h2⟩:=qQ.1 hd;exact cE h1 (qY _ _)
   |o=>exact .inr rfl
   |jq=>exact .inr rfl
  have was:∀{m:aE} {ob:Obj},fN T (cR m)= .o ob->ob= .dead\/∃n∈l,uq l n=ah m/\((σ (cR n)= .o ob/\∀xs,ob≠ .box xs)\/∃xs,σ (cR n)= .o (.box xs)/\ob= .box (xs.map (oK l))/\∀k∈xs.flatMap bE,k∈l):=by
   intro m ob ho;obtain⟨n,hn,hr,he⟩:=aqq ho;unfold NA at he;split at he
   ·rename_i xs hx;cases hk:yu l (xs.flatMap bE)with
    |true=>rw[hk]at he;cases he;exact .inr ⟨n,hn,hr, .inr ⟨xs,hx,rfl,DB hk⟩⟩
    |false=>rw[hk]at he;cases he;exact .inl rfl
   ·rename_i x il hx;cases he;exact .inr ⟨n,hn,hr, .inl ⟨hx,λxs e=>il xs e⟩⟩
   ·cases he;exact .inl rfl
  have Ld:∀{m:aE} {ob:Obj} {b:aE},fN T (cR m)= .o ob->e8 (wg c l) m ob b->∃n o,uq l n=ah m/\σ (cR n)= .o o/\e8 c n o b:=by
   intro m ob b ho hf;rcases was ho with rfl|⟨n,hn,hr,⟨h1,_⟩|⟨xs,h1,rfl,_⟩⟩
   ·exact hf.elim
   ·obtain⟨e1,e2⟩:=wh (c:=c) hl hr;refine⟨n,ob,hr,h1, ?_⟩
    cases ob<;>simp only[e8,e1,e2]at hf⊢ <;>exact hf
   ·obtain⟨e1,e2⟩:=wh (c:=c) hl hr;refine⟨n,_,hr,h1, ?_⟩
    simp only[e8,e1]at hf⊢;exact hf
  refine⟨wg c l,⟨?_, ?_, ?_,h.ok.lt, ?_,h.ok.gp⟩,⟨?_, ?_,h.sl.df⟩,h.sz,h.gr.trans ⟨rfl,rfl,rfl,cu _,λ_ h=>h,λ_ _ _=>rfl, ?_,λ_ h=> .inl h⟩,h.ag.trans ?_⟩
  ·intro m ob ho;rcases was ho with rfl|⟨n,hn,hr,⟨h1,h2⟩|⟨xs,h1,rfl,hk⟩⟩
   ·trivial
   ·obtain⟨e1,e2⟩:=wh (c:=c) hl hr;have mh:=h.ok.obj n ob h1;cases ob with
    |box xs=>exact cE rfl (h2 xs)
    |dead=>trivial
    |nB cs=>show FB E w c.K ((wg c l).P m).blk cs;rw[e1];exact mh
    |fE e' xs=>show cT E w c.K (kY ((wg c l).P m)) _/\((wg c l).P m).n=_/\_;rw[e1];exact mh
    |row e' ex xs=>obtain⟨q1,q2,q3⟩:=mh;exact⟨by rw[e1];exact q1,by rw[e1,e2];exact q2,by rw[e1,e2];exact q3⟩
   ·obtain⟨e1,e2⟩:=wh (c:=c) hl hr;obtain⟨vals,hb,hs,hv⟩:=h.ok.obj n _ h1;refine⟨vals,by rw[e1];exact hb,by simp[hs],λj y hj=> ?_⟩
    rw[bF]at hj;cases hx:xs[j]? with
    |none=>rw[hx]at hj;cases hj
    |some x=>rw[hx]at hj;cases hj;obtain⟨u,hu,ha⟩:=hv j x hx;exact⟨u,hu,(sO hl ha (λk ui=>hk k (bG.2 ⟨x,aP hx,ui⟩))).1⟩
  ·intro m ob m' ob' b ho uj hf vZ;obtain⟨n,o1,r1,s1,f1⟩:=Ld ho hf;obtain⟨n',o2,r2,s2,f2⟩:=Ld uj vZ;have:=h.ok.sep n o1 n' o2 b s1 s2 f1 f2;subst this;rw[r1]at r2;cases r2;rfl
  ·intro m ob b ho hf;obtain⟨n,o1,r1,s1,f1⟩:=Ld ho hf;exact h.ok.kk n o1 b s1 f1
  ·intro m xs ho y hy k hk;rcases was ho with h'|⟨n,hn,hr,⟨h1,h2⟩|⟨zs,h1,he,He⟩⟩
   ·cases h'
   ·exact cE rfl (h2 xs)
   ·cases he;obtain⟨x,Ys,rfl⟩:=cO.1 hy;obtain⟨vals,hb,hs,hv⟩:=h.ok.obj n _ h1;obtain⟨j,hj⟩:=bX Ys;obtain⟨u,hu,ha⟩:=hv j x hj;obtain⟨n',j5,CG⟩:=(sO hl ha (λk ui=>He k (bG.2 ⟨x,Ys,ui⟩))).2 k hk;exact QZ j5 CG
  ·intro n;rcases ZL n with hs|hs
   ·rw[hs];exact(HJ hl (h.sl.ok n)).1
   ·rw[hs];trivial
  ·intro n m hm;rcases ZL n with hs|hs
   ·rw[hs]at hm;obtain⟨n',j5,CG⟩:=(HJ hl (h.sl.ok n)).2 m hm;exact QZ j5 CG
   ·rw[hs]at hm;simp[cw]at hm
  ·rintro b ⟨m,ob,ho,hf⟩;obtain⟨n,o1,r1,s1,f1⟩:=Ld ho hf;exact .inl ⟨n,o1,s1,f1⟩
  ·intro m hm;unfold wg;cases hi:inv l m with
   |none=>simp only[hi];exact⟨trivial,trivial⟩
   |some n=>
    have:=(wi (QL hi)).2;have:n=m:=by
     rcases this with ⟨_,h⟩|⟨_,k0,h,hk0,_⟩
     ·exact h.symm
     ·have:=Jd (f:=vl n) (k:=k0) (by omega);omega
    subst this;simp only[hi];exact⟨trivial,trivial⟩
theorem agH{N:aE}{σ0:St}{c0:eJ}{w0:bD}{nm F j e:aE}{xs:ay AV}{ti:TI}(hx:E.ty e=ah ti)(jt:F<900000000)(mh:σ (cR nm)= .o (.box xs))(hF:σ (cR F)= .jq)(hc:xs[j]? =ah .nl)(h:At P E N σ0 c0 w0 σ a w c):
  ∃c',At P E N σ0 c0 w0 (oe (oe σ (cR nm) (.o (.box (xs.set j (.own F))))) (cR F) (.o (.row e ai []))) a w c':=by
 let c':eJ:=⟨λn=>if n=F then⟨ai,0,0,0,0,ti.ks.length⟩else c.P n,λn=>if n=F then(λ_ _=>⟨ai,0,0,0,0,0⟩)else c.G n,c.K⟩
 have hP:c'.P F=⟨ai,0,0,0,0,ti.ks.length⟩:=bw rfl;have hA:ji σ c c':=λm hm=>by
  have:m≠F:=by rintro rfl;rcases hm with h|h;exact h hF;omega
  exact⟨bH this,bH this⟩
 have hnF:nm≠F:=by rintro rfl;rw[mh]at hF;cases hF
 have hPn:c'.P nm=c.P nm:=bH hnF;let σ':=oe (oe σ (cR nm) (.o (.box (xs.set j (.own F))))) (cR F) (.o (.row e ai []));have key:∀m,σ' (cR m)=if m=F then .o (.row e ai [])else if m=nm then .o (.box (xs.set j (.own F)))else σ (cR m):=λm=>by show oe _ _ _ _=_;rw[nY,nY]
 have il:∀m,σ (cR m)≠ .jq->σ' (cR m)≠ .jq:=λm hm=>by
  rw[key];by_cases h1:m=F
  ·rw[bw h1];simp
  ·rw[bH h1];by_cases h2:m=nm
   ·rw[bw h2];simp
   ·rw[bH h2];exact hm
 have noI:∀i j,¬fP [] i j:=λi j ⟨y,x,hy,_⟩=>by simp at hy
 have foF:∀b,¬e8 c' F (.row e ai []) b:=by
  rintro b (⟨h1,_⟩|⟨_,i,j,h1,_⟩)
  ·rw[hP]at h1;cases h1
  ·exact noI i j h1
 obtain⟨vals,hb,fH,hv⟩:=h.ok.obj nm _ mh
 have hh:=h.ok.change (σ':=σ') (w':=w) (c':=c') (λm=>m=F\/m=nm)
  (λm hm=>by rw[key,bH (λe=>hm (.inl e)),bH (λe=>hm (.inr e))]) il hA (λ_ _ _=>rfl) (cu _) (λ_ h=>h) (λ_ h=> .inl h) h.ok.lt
  (λm o hm ho=>by
   rw[key]at ho;by_cases Hf:m=F
   ·rw[bw Hf]at ho;cases ho;subst Hf;refine⟨⟨ti,hx,by rw[hP],λy hy=>by cases hy⟩,⟨by rw[hP];rfl,λ_=>⟨rfl,by rw[hP]⟩,λhn=>by rw[hP]at hn;cases hn⟩,λ_=>⟨λi j hi=>cE hi (noI i j),λi j _ _ hi=>cE hi (noI i j)⟩⟩
   ·have hmn:=hm.resolve_left Hf;subst hmn;rw[bH Hf,bw rfl]at ho;cases ho;refine⟨vals,by rw[hPn];exact hb,by rw[cm];exact fH,λk y hk=> ?_⟩
    by_cases hkj:j=k
    ·subst hkj;have hl:j<xs.length:=(aT.1 hc).1;rw[List.getElem?_set_self hl]at hk;cases hk;obtain⟨u,hu,TJ⟩:=hv j _ hc;exact⟨u,hu,by show u=kY (c'.P F);rw[hP];exact TJ⟩
    ·rw[List.getElem?_set_ne hkj]at hk;obtain⟨u,hu,TJ⟩:=hv k y hk;exact⟨u,hu,TJ.frame (λ_ _=>rfl) (λ_ h=>h) (λn hn=>hA n (.inl (h.ok.kn m xs mh y (aP hk) n hn)))⟩)
  (λm o b hm ho hf=>by
   rw[key]at ho;by_cases Hf:m=F
   ·rw[bw Hf]at ho;cases ho;subst Hf;exact cE hf (foF b)
   ·have hmn:=hm.resolve_left Hf;subst hmn;rw[bH Hf,bw rfl]at ho;cases ho;have hf:b=(c'.P m).blk:=hf;rw[hPn]at hf;exact⟨.inl ⟨m,_, .inr rfl,mh,hf⟩,λhk=>h.ok.kk m _ b mh hf hk⟩)
  (λm o m' o' b hm uZ ho uj hf vZ=>by
   rw[key]at ho uj;by_cases Hf:m=F
   ·rw[bw Hf]at ho;cases ho;subst Hf;exact cE hf (foF b)
   ·by_cases ab_:m'=F
    ·rw[bw ab_]at uj;cases uj;subst ab_;exact cE vZ (foF b)
    ·rw[hm.resolve_left Hf,uZ.resolve_left ab_])
  (λm ys hm ho y hy n hn=>by
   rw[key]at ho;by_cases Hf:m=F
   ·rw[bw Hf]at ho;cases ho
   ·have hmn:=hm.resolve_left Hf;subst hmn;rw[bH Hf,bw rfl]at ho;cases ho;rcases je hy with hy|hy
    ·exact il n (h.ok.kn m xs mh y hy n hn)
    ·subst hy;rw[show n=F from by simpa [bE]using hn,key,bw rfl];simp) rfl rfl rfl
 have sl:=h.sl.change h.ok hh.2 hA il ({(default:eV)with dst:=none}) undef (λn _=>by show slot (oe _ _ _) n=_;rw[iz,iz]) (λd hd=>by cases hd);exact⟨c',hh.1,sl,h.sz,h.gr.trans hh.2,h.ag.trans hA.w.aga⟩
theorem Rc{α:Type}{N:aE}{σ0:St}{c0:eJ}{w0:bD}{x:aE}(hx:∃ti,E.ty (kTy x)=ah ti)(h:At P E N σ0 c0 w0 σ a w c):∃σ' c',At P E N σ0 c0 w0 σ' a w c'/\∀f:St->α,zb x σ f=f σ':=by
 obtain⟨ti,hx⟩:=hx;have jt:kNm x<900000000:=by unfold kNm;have:=B6 (x/1000) (show 1000000>0 by omega);omega
 have no:(∀f:St->α,zb x σ f=f σ)->∃σ' c',At P E N σ0 c0 w0 σ' a w c'/\∀f:St->α,zb x σ f=f σ':=λe=>⟨σ,c,h,e⟩
 cases hs:slot σ (Y9 x)with
 |v g l=>
  by_cases hm:∃nm xs,g=ak/\l=[.bp nm 0]/\σ (cR nm)= .o (.box xs)/\σ (cR (kNm x))= .jq/\xs[QV x]? =ah .nl
  ·obtain⟨nm,xs,rfl,rfl,mh,hF,hc⟩:=hm;obtain⟨c',h'⟩:=agH hx jt mh hF hc h;exact⟨_,c',h',λf=>by unfold zb;rw[hs];simp only[mh,hF,hc,ni]⟩
  ·refine no λf=> ?_;unfold zb;rw[hs];split
   ·rename_i nm he;cases he;split
    ·rename_i xs h1 h2;split
     ·rename_i h3;exact cE ⟨nm,xs,rfl,rfl,h1,h2,h3⟩ hm
     ·rfl
    ·rfl
   ·rfl
 |jE l=>exact no λf=>by unfold zb;rw[hs]
 |un=>exact no λf=>by unfold zb;rw[hs]
theorem Bp{α:Type}{N:aE}{σ0:St}{c0:eJ}{w0:bD}:∀(keep:ay aE) (σ:St) (c:eJ) (hk:∀x∈keep,Vp x=ai->∃ti,E.ty (kTy x)=ah ti) (h:At P E N σ0 c0 w0 σ a w c),∃σ' c',At P E N σ0 c0 w0 σ' a w c'/\∀f:St->α,LA keep σ f=f σ'
 |[],σ,c,_,h=>⟨σ,c,h,λ_=>rfl⟩
 |x::r,σ,c,hk,h=>by
  cases hx:Vp x with
  |false=>obtain⟨σ',c',h',e⟩:=Bp r σ c (λy hy=>hk y (cU _ hy)) h;exact⟨σ',c',h',λf=>by show(bif Vp x then _ else _)=_;rw[hx];exact e f⟩
  |true=>obtain⟨σ1,c1,h1,e1⟩:=Rc (α:=α) (hk x (dA ..) hx) h;obtain⟨σ',c',h',e⟩:=Bp r σ1 c1 (λy hy=>hk y (cU _ hy)) h1;exact⟨σ',c',h',λf=>by show(bif Vp x then _ else _)=_;rw[hx,au,e1,e]⟩
theorem GL{N:aE}{σ0:St}{c0:eJ}{w0:bD}{keep:ay aE}(hk:∀x∈keep,Vp x=ai->∃ti,E.ty (kTy x)=ah ti)(h:At P E N σ0 c0 w0 σ a w c):∃c',At P E N σ0 c0 w0 (canon keep σ) a w c':=by obtain⟨σ',c1,h1,e⟩:=Bp (α:=ay (aE×eA)) keep σ c hk h;unfold canon I7;rw[e,oa];exact MK h1
theorem QY{n:aE}:∀x∈E.y_ n,Vp x=ai->∃ti,E.ty (kTy x)=ah ti:=by
 intro x hx hk;have:=(dt.1 hx).2;rw[hk,au]at this;cases h:E.ty (kTy x)with
 |some ti=>exact⟨ti,rfl⟩
 |none=>rw[h]at this;cases this
end
end Go.FG

namespace Go.FG
def abH:Ex->Exit| .normal=> .normal| .exit id=> .exit id| .ret=> .ret
def sr(N:aE):Code->aW
 | .region _ os _=>os.toList.all λo=>match o.dst with|some d=>pO d N|none=>ai
 | .seq a b=>sr N a&&sr N b
 | .cond _ a b=>sr N a&&sr N b
 | .block _ c=>sr N c
 | .loop c=>sr N c
 |_=>ai
theorem least{p:aE->Prop}(h:∃n,p n):∃n,p n/\∀k,p k->n<=k:=by
 obtain⟨n,hn⟩:=h;induction n using Nat.strongRecOn with
 |_ n ih=>
  by_cases hm:∃m,m<n/\p m
  ·obtain⟨m,h1,h2⟩:=hm;exact ih m h1 h2
  ·exact⟨n,hn,λk hk=>by
    rcases ql k n with h|h
    ·exact cE ⟨k,h,hk⟩ hm
    ·exact h⟩
section
variable {P:cM} {E:fm}
def cq(E:fm){R:Type}(it:It R)(c:Code):Prop:=∀L K r,it (gk c) (sA E it c) (canon (E.y_ (gk c))) L K=ah r->∃n,iter (sA E it c) (canon (E.y_ (gk c))) n (fN L) K=ah r
theorem abG(hE:d_ P E)(hF:∀g,k_ P E g (E.call g))(hm:P.follows .mixedOrders=ai){R:Type}{N:aE}{σ0:St}{c0:eJ}{w0:bD}{it:It R}{r:R}:∀(code:Code),(∀c∈jv code,cq E it c)->∀(σ:St) (K:Ex->St->aC R) (Q:Exit->Act->bD->Prop),sA E it code σ K=ah r->sr N code=ai->
  (∀e σ' a w c,K e σ'=ah r->At P E N σ0 c0 w0 σ' a w c->Q (abH e) a w)->∀a w c,At P E N σ0 c0 w0 σ a w c->code.wp P Q a w:=by
 intro code;induction code with
 |skip=>intro _ σ K Q h _ hQ a w c fG;exact wp_skip (hQ .normal σ a w c h fG)
 |region id os draw=>intro Be σ K Q h hb hQ a w c fG;refine Nz hE hF hm h (λo ho d hd=> ?_) (λσ' a w c hk fG=>hQ .normal σ' a w c hk fG) fG;have:=bu.1 hb o ho;rw[hd]at this;have this:pO d N=true:=this;simpa [zn]using this
 |seq x y ihx ihy=>
  intro Be σ K Q h hb hQ a w c fG;simp only[sr,aJ]at hb;refine wp_seq (ihx (λc hc=>Be c (bU _ hc)) σ _ _ h hb.1 (λe σ' a w c hk fG=> ?_) a w c fG);cases e with
  |normal=>exact ihy (λc hc=>Be c (bK _ hc)) σ' K Q hk hb.2 hQ a w c fG
  |exit id=>exact hQ (.exit id) σ' a w c hk fG
  |ret=>exact hQ .ret σ' a w c hk fG
 |cond cnd x y ihx ihy=>
  intro Be σ K Q h hb hQ a w c fG;simp only[sr,aJ]at hb;cases cnd with
  |tmp t=>
   unfold sA at h;dsimp only at h;split at h
   ·rename_i b hs;have h1:=fG.sl.ok t;have:slot σ t= .v ak [.b b]:=by unfold slot;rw[hs]
    rw[this]at h1;have h1:a.eval (.tmp t)= .bool b:=h1;cases b with
    |true=>have h:sA E it x (oe σ (pJ t) (.v (.v ak [.b ai]))) K=ah r:=h;rw[BX hs]at h;exact wp_cond_true h1 (ihx (λc hc=>Be c (bU _ hc)) σ K Q h hb.1 hQ a w c fG)
    |false=>have h:sA E it y (oe σ (pJ t) (.v (.v ak [.b ak]))) K=ah r:=h;rw[BX hs]at h;exact wp_cond_false h1 (ihy (λc hc=>Be c (bK _ hc)) σ K Q h hb.2 hQ a w c fG)
   ·cases h
  |_=>simp[sA]at h
 |block id x ih=>
  intro Be σ K Q h hb hQ a w c fG;refine wp_block (ih Be σ _ _ h hb (λe σ' a w c hk fG=> ?_) a w c fG);cases e with
  |normal=>exact hQ .normal σ' a w c hk fG
  |ret=>exact hQ .ret σ' a w c hk fG
  |exit j=>
   have hk:(bif bn j id then K .normal σ' else K (.exit j) σ')=ah r:=hk;show Gl id Q (.exit j) a w;cases hj:bn j id with
   |true=>rw[hj]at hk;have M4:=aR hj;have h1:Q .normal a w:=hQ .normal σ' a w c hk fG;simp only[Gl,M4,if_true];exact h1
   |false=>
    rw[hj]at hk;have il:j≠id:=λe=>by subst e;simp at hj
    have h1:Q (.exit j) a w:=hQ (.exit j) σ' a w c hk fG;simp only[Gl,il,if_false];exact h1
 |loop x ih=>
  intro Be σ K Q h hb hQ a w c fG;obtain⟨n,h⟩:∃n,iter (sA E it x) (canon (E.y_ (gk x))) n (canon (E.y_ (gk x)) σ) K=ah r:=Be x (dA ..) _ K r h;let f:=sA (R:=R) E it x;let cn:=canon (E.y_ (gk x));let p:Act->bD->aE->Prop:=λa w m=>∃σ c,iter f cn m σ K=ah r/\At P E N σ0 c0 w0 σ a w c;let mu:Act->bD->aE:=λa w=>open Classical in if h:∃m,p a w m then(least h).choose else 0
  have hmu:∀a w,(∃m,p a w m)->p a w (mu a w)/\∀k,p a w k->mu a w<=k:=by
   intro a w h;have:mu a w=(least h).choose:=by simp only[mu];rw[dif_pos h]
   rw[this];exact(least h).choose_spec
  obtain⟨c1,anl⟩:=GL (keep:=E.y_ (gk x)) QY fG;refine wp_loop (λa w=>∃m,p a w m) mu ⟨n,_,c1,h,anl⟩ (λa w hI=> ?_);obtain⟨⟨σ1,c2,h1,my⟩,hle⟩:=hmu a w hI;cases hm0:mu a w with
  |zero=>rw[hm0]at h1;cases h1
  |succ m=>
   rw[hm0]at h1;refine ih (λc hc=>Be c (cU _ hc)) σ1 _ _ h1 hb (λe σ' a' w' c' hk vW=> ?_) a w c2 my;obtain⟨c3,abS⟩:=GL (keep:=E.y_ (gk x)) QY vW;cases e with
   |normal=>
    have hp:p a' w' m:=⟨_,c3,hk,abS⟩
    refine⟨⟨m,hp⟩, ?_⟩
    have:=(hmu a' w' ⟨m,hp⟩).2 m hp;omega
   |exit id=>exact hQ (.exit id) _ a' w' c3 hk abS
   |ret=>exact hQ .ret _ a' w' c3 hk abS
 |exit id=>intro _ σ K Q h _ hQ a w c fG;exact wp_exit (hQ (.exit id) σ a w c h fG)
 |ret=>intro _ σ K Q h _ hQ a w c fG;exact wp_ret (hQ .ret σ a w c h fG)
 |_=>intro _ σ K Q h;simp[sA]at h
end
end Go.FG

namespace Go.FG
structure jj where
 aa:AA
 tk:ay aE
 fz:ay aE
 p:Pl
 g:aE->aE->Pl
 u:bf
section
variable {P:cM} {E:fm} {σ:St} {a:Act} {w:bD} {c:eJ}
def ju(T:Tab)(σ:St)(w:bD)(c:eJ)(r:jj):Prop:=
 (∃e ex ys te,r.aa= .ow e ex ys/\r.fz=[]/\T.ty e=ah te/\r.u=kY r.p/\r.p.sz=te.ks.length/\(∀y∈ys,y.map CV.kd=te.ks)/\iP w r.p ys (λi j u x=>if ex=ai then XC T w r.g i j u x else cT T w c.K u x)/\(ex=ai->D3 r.p r.g ys)/\
  (r.p.nil=ak->∃n ob,n∈r.tk/\σ (cR n)= .o ob/\e8 c n ob r.p.blk)/\(ex=ai->∀i j,fP ys i j->(r.g i j).nil=ak->∃n ob,n∈r.tk/\σ (cR n)= .o ob/\e8 c n ob (r.g i j).blk))\/
 (r.tk=[]/\(∀n∈r.fz,∃el ex xs,σ (cR n)= .o (.row el ex xs))/\(∀e ex xs,r.aa≠ .ow e ex xs)/\(∀xs,r.aa≠ .kp xs)/\∀c3:eJ,(∀b,K1r σ c r.fz b->c3.K b)->∀nm,ea T w c3 (kK nm r.aa) r.u)
theorem G3(b7:Ok E σ w c){om:Om}{k:Ck}{x:AV}{u:bf}{aa:AA}{tk fz:ay aE}(h:yX E om σ k x=ah (aa,tk,fz))(hx:ea E w c x u):∃p g,ju E σ w c ⟨aa,tk,fz,p,g,u⟩:=by
 let nl:Pl:=⟨ai,0,0,0,0,0⟩
 have OW:∀e ex ys tk,(vK e x).val σ=ah (ex,ys,tk)->(∃te,E.ty e=ah te)->∃p g,ju E σ w c ⟨.ow e ex ys,tk,[],p,g,u⟩:=by rintro e ex ys tk hb ⟨te,ht⟩;obtain⟨p,g,hB⟩:=AO b7 ht hx hb;exact⟨p,g, .inl ⟨e,ex,ys,te,rfl,rfl,ht,hB.v,hB.sz,hB.sh,hB.at_,hB.inn,hB.own,hB.owni⟩⟩
 have SH:∀aa fz,(∀n∈fz,∃el ex xs,σ (cR n)= .o (.row el ex xs))->(∀e ex xs,aa≠ .ow e ex xs)->(∀xs,aa≠ .kp xs)->(∀c3:eJ,(∀b,K1r σ c fz b->c3.K b)->∀nm,ea E w c3 (kK nm aa) u)->∃p g,ju E σ w c ⟨aa,[],fz,p,g,u⟩:=
  λaa fz h1 h2 h3 h4=>⟨nl,λ_ _=>nl, .inr ⟨rfl,h1,h2,h3,h4⟩⟩
 have Rf:∀n∈([]:ay aE),∃el ex xs,σ (cR n)= .o (.row el ex xs):=λn hn=>by cases hn
 have HT:∀e,yY E e=ai->∃te,E.ty e=ah te:=λe he=>by
  unfold yY at he;cases ht:E.ty e with
  |none=>rw[ht]at he;cases he
  |some te=>exact⟨te,rfl⟩
 have frz:∀{n el:aE} {ex:aW} {xs:aU},σ (cR n)= .o (.row el ex xs)->∀c3:eJ,(∀b,K1r σ c [n] b->c3.K b)->(∀b,c.K b->c3.K b)/\∀b,e8 c n (.row el ex xs) b->c3.K b:=λhg c3 h=>⟨λb hb=>h b (.inl hb),λb hb=>h b (.inr ⟨_,aX.2 rfl,_,hg,hb⟩)⟩
 have fst:∀{n el:aE} {ex:aW} {xs:aU},σ (cR n)= .o (.row el ex xs)->∀m∈[n],∃el ex xs,σ (cR m)= .o (.row el ex xs):=λhg m hm=>by rw[aX]at hm;subst hm;exact⟨_,_,_,hg⟩
 cases x with
 |i k n=>cases h;exact SH _ _ Rf (λ_ _ _ h=>by cases h) (λ_ h=>by cases h) (λc3 _ _=>hx)
 |b y=>cases h;exact SH _ _ Rf (λ_ _ _ h=>by cases h) (λ_ h=>by cases h) (λc3 _ _=>hx)
 |s y=>cases h;exact SH _ _ Rf (λ_ _ _ h=>by cases h) (λ_ h=>by cases h) (λc3 _ _=>hx)
 |sh e xs=>
  cases om with
  |own=>cases h
  |nat=>cases h;exact SH _ _ Rf (λ_ _ _ h=>by cases h) (λ_ h=>by cases h) (λc3 h3 _=>cT.frame hx (λ_ _=>rfl) (λb hb=>h3 b (.inl hb)))
  |sh=>cases h;exact SH _ _ Rf (λ_ _ _ h=>by cases h) (λ_ h=>by cases h) (λc3 h3 _=>cT.frame hx (λ_ _=>rfl) (λb hb=>h3 b (.inl hb)))
 |nl=>
  have hx:u= .slice aj 0 0:=hx;cases om with
  |own e=>
   have h:(bif yY E e then ah (AA.ow e ai [],([]:ay aE),([]:ay aE))else aj)=ah (aa,tk,fz):=h;cases ht:yY E e with
   |false=>rw[ht]at h;cases h
   |true=>rw[ht]at h;cases h;exact OW e ai [] [] rfl (HT e ht)
  |sh e=>cases h;exact SH _ _ Rf (λ_ _ _ h=>by cases h) (λ_ h=>by cases h) (λc3 _ _=>by rw[hx];exact cT.nl _ _ _)
  |nat=>
   cases k with
   |l e=>
    have h:(bif yY E e then ah (AA.ow e ai [],([]:ay aE),([]:ay aE))else aj)=ah (aa,tk,fz):=h;cases ht:yY E e with
    |false=>rw[ht]at h;cases h
    |true=>rw[ht]at h;cases h;exact OW e ai [] [] rfl (HT e ht)
   |_=>cases h;exact SH _ _ Rf (λ_ _ _ h=>by cases h) (λ_ h=>by cases h) (λc3 _ _=>hx)
 |own n=>
  unfold yX at h;dsimp only at h;cases ho:σ (cR n)with
  |v=>rw[ho]at h;cases h
  |jq=>rw[ho]at h;cases h
  |o ob=>
   rw[ho]at h;have hu:u=kY (c.P n):=hx;cases ob with
   |row e ex xs=>
    obtain⟨_,_,ti,ht,_⟩:=kG b7 ho;have hb:(vK e (.own n)).val σ=ah (ex,xs,[n]):=by simp[vK,i_,ho]
    cases om with
    |sh e'=>cases h;refine SH _ _ (fst ho) (λ_ _ _ h=>by cases h) (λ_ h=>by cases h) (λc3 h3 _=> ?_);obtain⟨r1,r2⟩:=frz ho c3 h3;rw[hu];exact qW b7 ho r1 r2
    |nat=>cases h;exact OW e ex xs [n] hb ⟨ti,ht⟩
    |own=>cases h;exact OW e ex xs [n] hb ⟨ti,ht⟩
   |fE e xs=>
    have hh:cT E w c.K u (.l e xs):=by rw[hu];exact(b7.obj n _ ho).1
    cases om with
    |own=>cases h
    |nat=>cases h;exact SH _ _ Rf (λ_ _ _ h=>by cases h) (λ_ h=>by cases h) (λc3 h3 _=>cT.frame hh (λ_ _=>rfl) (λb hb=>h3 b (.inl hb)))
    |sh=>cases h;exact SH _ _ Rf (λ_ _ _ h=>by cases h) (λ_ h=>by cases h) (λc3 h3 _=>cT.frame hh (λ_ _=>rfl) (λb hb=>h3 b (.inl hb)))
   |_=>cases h
 |vw n lo hi=>
  unfold yX at h;dsimp only at h;cases ho:σ (cR n)with
  |v=>rw[ho]at h;cases h
  |jq=>rw[ho]at h;cases h
  |o ob=>
   rw[ho]at h;cases ob with
   |row e ex xs=>
    obtain⟨_,_,ti,ht,_⟩:=kG b7 ho;have hb:(vK e (.vw n lo hi)).val σ=ah (ex,eu xs lo hi,[n]):=by simp[vK,i_,ho]
    cases om with
    |sh e'=>cases h;refine SH _ _ (fst ho) (λ_ _ _ h=>by cases h) (λ_ h=>by cases h) (λc3 h3 _=> ?_);obtain⟨r1,r2⟩:=frz ho c3 h3;exact DP b7 ho r1 r2 hx
    |nat=>cases h;exact OW e ex _ [n] hb ⟨ti,ht⟩
    |own=>cases h;exact OW e ex _ [n] hb ⟨ti,ht⟩
   |fE e xs=>
    have hh:cT E w c.K u (.l e (eu xs lo hi)):=oE b7 ho hx;cases om with
    |own=>cases h
    |nat=>cases h;exact SH _ _ Rf (λ_ _ _ h=>by cases h) (λ_ h=>by cases h) (λc3 h3 _=>cT.frame hh (λ_ _=>rfl) (λb hb=>h3 b (.inl hb)))
    |sh=>cases h;exact SH _ _ Rf (λ_ _ _ h=>by cases h) (λ_ h=>by cases h) (λc3 h3 _=>cT.frame hh (λ_ _=>rfl) (λb hb=>h3 b (.inl hb)))
   |_=>cases h
 |_=>simp[yX]at h
theorem Dn(b7:Ok E σ w c){q:aE}:∀{xs:ay AV} {j0:aE} {ks:ay Ck} {l:ay AA} {tk fz:ay aE} {vals:c_ bf},sB E q σ j0 ks xs=ah (l,tk,fz)->fD E w c vals xs->
  ∃cs:ay jj,l=cs.map (·.aa)/\tk=cs.flatMap (·.tk)/\fz=cs.flatMap (·.fz)/\cs.length=xs.length/\∀(j:aE) (r:jj),cs[j]? =ah r->vals[j]? =ah r.u/\ju E σ w c r:=by
 intro xs;induction xs with
 |nil=>intro j0 ks l tk fz vals h _;cases h;exact⟨[],rfl,rfl,rfl,rfl,λj r h=>by simp at h⟩
 |cons x xs ih=>
  intro j0 ks l tk fz vals h hv;unfold sB at h;split at h
  ·rename_i aa t f as ts fs h1 h2;cases h;obtain⟨u,hu,ha⟩:=hv.2 0 x rfl;obtain⟨p,g,hc⟩:=G3 b7 h1 ha;have Lp:fD E w c (vals.extract 1 vals.size) xs:=by
    refine⟨by simp;have:=hv.1;simp at this;omega,λj b hj=> ?_⟩
    obtain⟨u,hu,hb⟩:=hv.2 (j+1) b hj;refine⟨u, ?_,hb⟩
    have:=(dL.1 hu).1;rw[dS,bw (by omega),iN];exact hu
   obtain⟨cs,rfl,rfl,rfl,i4,i5⟩:=ih h2 Lp;refine⟨⟨aa,t,f,p,g,u⟩::cs,rfl,rfl,rfl,by simp[i4],λj r hj=> ?_⟩
   cases j with
   |zero=>cases hj;exact⟨hu,hc⟩
   |succ j=>
    obtain⟨r1,r2⟩:=i5 j r hj;refine⟨?_,r2⟩
    rw[dS]at r1;split at r1
    ·rw[iN];exact r1
    ·cases r1
  ·cases h
end
end Go.FG

namespace Go.FG
structure kA where
 box:aC aE
 agg:aW
 cs:ay jj
 v:bf
def kA.arg(R:kA):eQ:=match R.box with|some _=> .pt (R.cs.map (·.aa))|none=> .v R.agg (R.cs.map (·.aa))
def kA.tk(R:kA):ay aE:=R.box.toList++R.cs.flatMap (·.tk)
def kA.fz(R:kA):ay aE:=R.cs.flatMap (·.fz)
def yB(rv:ResultVar)(tmps:c_ bf):Sem bf:=match rv with| .tmp t=>pure (tmps.getD t undef)| .cell a t=>do loadVar t (<-asAddr (tmps.getD a undef))
section
variable {P:cM} {E:fm} {σ:St} {a:Act} {w:bD} {c:eJ}
def Aw(T:Tab)(σ:St)(w:bD)(c:eJ)(R:kA):Prop:=
 (∃nm xs vals,R.box=ah nm/\σ (cR nm)= .o (.box xs)/\R.v= .pointer (ah (ad (c.P nm).blk 0))/\mY w (c.P nm).blk vals/\vals.size=R.cs.length/\∀(j:aE) (r:jj),R.cs[j]? =ah r->vals[j]? =ah r.u/\ju T σ w c r)\/
 (R.box=aj/\((R.agg=ak/\∃r,R.cs=[r]/\r.u=R.v/\ju T σ w c r)\/(R.agg=ai/\∃vals:c_ bf,R.v= .agg vals/\vals.size=R.cs.length/\∀(j:aE) (r:jj),R.cs[j]? =ah r->vals[j]? =ah r.u/\ju T σ w c r)))
theorem G4(b7:Ok E σ w c){q:aE}{ks:ay Ck}{s:SV}{v:bf}{x:eQ}{tk fz:ay aE}(h:Lb E q σ ks s=ah (x,tk,fz))(hs:iW E w c s v):∃R:kA,R.arg=x/\R.tk=tk/\R.fz=fz/\R.v=v/\Aw E σ w c R:=by
 have gen:∀g xs,s= .v g xs->(match sB E q σ 0 ks xs with|some (l,ns,ms)=>ah (eQ.v g l,ns,ms)|none=>aj)=ah (x,tk,fz)->∃R:kA,R.arg=x/\R.tk=tk/\R.fz=fz/\R.v=v/\Aw E σ w c R:=by
  rintro g xs rfl h;cases hf:sB E q σ 0 ks xs with
  |none=>rw[hf]at h;cases h
  |some t=>
   obtain⟨l,ns,ms⟩:=t;rw[hf]at h;cases h;obtain⟨cs,rfl,rfl,rfl,h4,h5⟩:=Dn b7 hf (pD.cells hs);refine⟨⟨aj,g,cs,v⟩,rfl,by simp[kA.tk],rfl,rfl, .inr ⟨rfl, ?_⟩⟩
   replace hs:pD E w c g xs v:=hs;have v5:∀y,pD E w c ak [y] v->v.cells= #[v]:=λy hy=>Dh (ea.one hy);unfold pD at hs;split at hs
   ·rename_i y;obtain⟨r,rfl⟩:=gG.1 (h4.trans rfl);obtain⟨h6,h7⟩:=h5 0 r rfl;rw[v5 y hs]at h6;exact .inl ⟨rfl,r,rfl,by simpa using h6.symm,h7⟩
   ·obtain⟨vals,rfl,fH,_⟩:=hs;exact .inr ⟨rfl,vals,rfl,by rw[fH];exact h4.symm,h5⟩
   ·exact hs.elim
 unfold Lb at h;split at h
 ·rename_i nm;cases ho:σ (cR nm)with
  |v=>rw[ho]at h;cases h
  |jq=>rw[ho]at h;cases h
  |o ob=>
   rw[ho]at h;cases ob with
   |box xs=>
    dsimp only at h;cases hf:sB E q σ 0 [] xs with
    |none=>rw[hf]at h;cases h
    |some t=>obtain⟨l,ns,ms⟩:=t;rw[hf]at h;cases h;obtain⟨vals,hb,fH,hv⟩:=b7.obj nm _ ho;obtain⟨cs,rfl,rfl,rfl,h4,h5⟩:=Dn b7 hf ⟨fH,hv⟩;exact⟨⟨ah nm,ak,cs,v⟩,rfl,rfl,rfl,rfl, .inl ⟨nm,xs,vals,rfl,ho,hs,hb,by rw[fH];exact h4.symm,h5⟩⟩
   |_=>cases h
 ·exact gen _ _ rfl h
 ·cases h
theorem HO(hE:d_ P E){t:aE}{ti:TI}(ht:E.ty t=ah ti){b:aE}{vals:c_ bf}(hb:mY w b vals)(hl:vals.size=ti.ks.length):(loadVar t (ad b 0)).run P w= .ok (if ti.agg=ai then .agg vals else vals.toList.headD .nilIface) w:=by
 have h:=BP (P:=P) w hE ht (b:=b) (o:=0) (cs:=vals.toList) (by simpa using hl) (λj v hj=>by rw[bT,hb.cell];simpa using hj);have e:(wW t (.pointer (ah (ad b 0)))).run P w=(loadVar t (ad b 0)).run P w:=by simp only[wW,tI,ca,cG,bA]
 rw[<-e,h]
theorem R0(hE:d_ P E)(b7:Ok E σ w c)(dp:eS E σ a w c){q:aE}{rv:ResultVar}{t:aE}{x:eQ}{tk fz:ay aE}(h:RZ E q σ rv t=ah (x,tk,fz)):∃R:kA,R.arg=x/\R.tk=tk/\R.fz=fz/\Aw E σ w c R/\(yB rv a.tmps).run P w= .ok R.v w:=by
 unfold RZ at h;cases ht:E.ty t with
 |none=>rw[ht]at h;cases h
 |some ti=>
  rw[ht]at h;cases rv with
  |tmp s=>obtain⟨R,h1,h2,h3,h4,h5⟩:=G4 b7 h (dp.ok s);exact⟨R,h1,h2,h3,h5,by rw[h4];rfl⟩
  |cell b t'=>
   dsimp only at h;split at h
   ·rename_i S5 nm ht' hs;split at h
    ·rename_i xs ho;cases hb:bn xs.length S5.ks.length with
     |false=>rw[hb]at h;cases h
     |true=>
      rw[hb]at h;have hlen:=aR hb;have hv:a.eval (.tmp b)= .pointer (ah (ad (c.P nm).blk 0)):=by have:=dp.ok b;rw[hs]at this;exact this
      obtain⟨vals,hbl,fH,Yf⟩:=b7.obj nm _ ho;have QB:=HO (P:=P) (w:=w) hE ht' hbl (by rw[fH];exact hlen);have aoc:iW E w c (.v S5.agg xs) (if S5.agg=ai then .agg vals else vals.toList.headD .nilIface):=by
       show pD E w c S5.agg xs _;cases td:S5.agg with
       |true=>rw[bw rfl];exact⟨vals,rfl,fH,Yf⟩
       |false=>
        obtain⟨d,_,_,hn⟩:=hE.desc t' S5 ht';have h1:S5.ks.length=1:=by rcases hn td with ⟨k,h,_⟩|⟨h,_⟩|⟨h,_⟩|⟨e',h,_⟩|⟨h,_⟩<;>simp[h]
        obtain⟨y,rfl⟩:=gG.1 (hlen.trans h1);obtain⟨u,hu,ha⟩:=Yf 0 y rfl;have rA:vals.toList[0]? =ah u:=by simpa using hu
        have:vals.toList.headD .nilIface=u:=by
         cases hl:vals.toList with
         |nil=>rw[hl]at rA;cases rA
         |cons z l=>rw[hl]at rA;cases rA;rfl
        rw[bH (by simp),this];exact ha
      obtain⟨R,h1,h2,h3,h4,h5⟩:=G4 b7 h aoc;refine⟨R,h1,h2,h3,h5, ?_⟩
      rw[h4,<-QB];have:a.tmps.getD b undef= .pointer (ah (ad (c.P nm).blk 0)):=hv;simp only[yB,this,asAddr,ca,cG,bA]
    ·cases h
   ·cases h
theorem NB(hE:d_ P E)(b7:Ok E σ w c)(dp:eS E σ a w c):∀{rs:ay ResultVar} {q:aE} {ts:ay aE} {as:ay eQ} {tk fz:ay aE},BI E σ q rs ts=ah (as,tk,fz)->∃RL:ay kA,as=RL.map (·.arg)/\tk=RL.flatMap (·.tk)/\fz=RL.flatMap (·.fz)/\(∀R∈RL,Aw E σ w c R)/\RL.length=rs.length/\(rs.mapM (λrv=>yB rv a.tmps)).run P w= .ok (RL.map (·.v)) w:=by
 intro rs;induction rs with
 |nil=>intro q ts as tk fz h;cases h;exact⟨[],rfl,rfl,rfl,λR h=>(by cases h),rfl,by simp⟩
 |cons rv rs ih=>
  intro q ts as tk fz h;unfold BI at h;split at h
  ·rename_i x l m as' ls ms h1 h2;cases h;obtain⟨R,rfl,rfl,rfl,r4,r5⟩:=R0 hE b7 dp h1;obtain⟨RL,rfl,rfl,rfl,i4,i5,i6⟩:=ih h2;refine⟨R::RL,rfl,rfl,rfl,λR' hR=> ?_,by simp[i5], ?_⟩
   ·rcases cz.1 hR with rfl|hR
    ·exact r4
    ·exact i4 R' hR
   ·simp only[Uj,ca,r5,i6,bA,cG,eW]
  ·cases h
def BJ(vs:ay bf):bf:=match vs with|[v]=>v|l=> .tuple l.toArray
theorem HQ{fn:Func}{vs:ay bf}(h:(fn.results.toList.mapM (λrv=>yB rv a.tmps)).run P w= .ok vs w):(results fn a.tmps).run P w= .ok (BJ vs) w:=by
 have e:(fn.results.mapM (λrv=>yB rv a.tmps)).run P w= .ok vs.toArray w:=by rw[Array.mapM_eq_mapM_toList];simp[h]
 have:results fn a.tmps=(do let vs<-fn.results.mapM (λrv=>yB rv a.tmps);pure (if h:vs.size=1 then vs[0]else .tuple vs)):=rfl;rw[this];simp only[ca,e,bA,cG];match vs with
 |[]=>rfl
 |[v]=>rfl
 |_::_::_=>rfl
end
end Go.FG

namespace Go.FG
structure ma where
 box:aW
 cs:ay jj
def ma.l(O:ma):ay AA:=O.cs.map (·.aa)
def ma.ns(O:ma)(p:aE):ay aE:=(if O.box=ai then [dK p 900]else [])++O.cs.flatMap (·.tk)
def ma.ms(O:ma):ay aE:=O.cs.flatMap (·.fz)
section
variable {P:cM} {E:fm} {σ:St} {a:Act} {w:bD} {c:eJ}
def Kept(σ:St)(p j:aE)(xs:ay AA)(r:jj):Prop:=∃e ex z ys,xs[j]? =ah (.ow e ex z)/\r.aa= .kp ys/\r.tk=[dK p j]/\r.fz=[]/\σ (cR (dK p j))= .o (.row e ex ys)
def Gq(T:Tab)(σ:St)(w:bD)(c:eJ)(p:aE)(x:eQ)(O:ma):Prop:=
 (O.box=ak/\(∀xs,x≠ .pt xs)/\(O.cs=[]\/∃g xs,x= .v g xs/\∀(j:aE) (r:jj),O.cs[j]? =ah r->Kept σ p j xs r\/(r.aa= .nl/\r.tk=[]/\r.fz=[])))\/
 (O.box=ai/\∃xs vs vals,x= .pt xs/\σ (cR (dK p 900))= .o (.box vs)/\mY w (c.P (dK p 900)).blk vals/\vals.size=O.cs.length/\
  ∀(j:aE) (r:jj),O.cs[j]? =ah r->vals[j]? =ah r.u/\((Kept σ p j xs r/\r.u=kY (c.P (dK p j)))\/ju T σ w c r))
theorem HU{a b:aW}(h:HS a b=ai):a=b:=by cases a<;>cases b<;>first|rfl|cases h
theorem WC(p j i:aE):dK p j+i=dK p (j+i):=by unfold dK;omega
theorem JG{tk:ay aE}{p:aE}:∀{xs:ay AA} {j:aE},∃cs:ay jj,(pe σ tk (dK p j) xs).1=cs.map (·.aa)/\(pe σ tk (dK p j) xs).2=cs.flatMap (·.tk)/\cs.flatMap (·.fz)=[]/\
  ∀(i:aE) (r:jj),cs[i]? =ah r->((∃e ex z ys,xs[i]? =ah (.ow e ex z)/\r.aa= .kp ys/\r.tk=[dK p (j+i)]/\r.fz=[]/\σ (cR (dK p (j+i)))= .o (.row e ex ys))\/(r.aa= .nl/\r.tk=[]/\r.fz=[])):=by
 intro xs;induction xs with
 |nil=>intro j;exact⟨[],rfl,rfl,rfl,λi r h=>by simp at h⟩
 |cons x xs ih=>
  intro j;obtain⟨cs,h1,h2,h3,h4⟩:=ih (j:=j+1);have e1:dK p j+1=dK p (j+1):=WC p j 1;let pl:Pl:=⟨ai,0,0,0,0,0⟩
  have one:∃r:jj,mN σ tk (dK p j) x=(r.aa,r.tk)/\r.fz=[]/\((∃e ex z ys,x= .ow e ex z/\r.aa= .kp ys/\r.tk=[dK p j]/\r.fz=[]/\σ (cR (dK p j))= .o (.row e ex ys))\/(r.aa= .nl/\r.tk=[]/\r.fz=[])):=by
   have no:mN σ tk (dK p j) x=(.nl,[])->∃r:jj,mN σ tk (dK p j) x=(r.aa,r.tk)/\r.fz=[]/\((∃e ex z ys,x= .ow e ex z/\r.aa= .kp ys/\r.tk=[dK p j]/\r.fz=[]/\σ (cR (dK p j))= .o (.row e ex ys))\/(r.aa= .nl/\r.tk=[]/\r.fz=[])):=
    λh=>⟨⟨.nl,[],[],pl,λ_ _=>pl,undef⟩,h,rfl, .inr ⟨rfl,rfl,rfl⟩⟩
   cases x with
   |ow e ex z=>
    cases hm:lX (dK p j) tk with
    |true=>exact no (by simp[mN,hm])
    |false=>
     obtain⟨so,ho⟩:∃so,σ (cR (dK p j))=so:=⟨_,rfl⟩
     cases so with
     |v=>exact no (by simp[mN,hm,ho])
     |jq=>exact no (by simp[mN,hm,ho])
     |o ob=>
      cases ob with
      |row e' tc ys=>
       cases hb:(bn e e'&&HS ex tc)with
       |false=>exact no (by simp only[mN,hm,aA,ho,hb])
       |true=>simp only[aJ]at hb;have he:=aR hb.1;have hx:=HU hb.2;subst he;subst hx;exact⟨⟨.kp ys,[dK p j],[],pl,λ_ _=>pl,undef⟩,by simp[mN,hm,ho,hb.2],rfl, .inl ⟨e,ex,z,ys,rfl,rfl,rfl,rfl,ho⟩⟩
      |_=>exact no (by simp[mN,hm,ho])
   |_=>exact no rfl
  obtain⟨r,k1,k2,k3⟩:=one;refine⟨r::cs, ?_, ?_,by simp[k2,h3],λi r' hi=> ?_⟩
  ·show(mN σ tk (dK p j) x).1::(pe σ tk (dK p j+1) xs).1=_;rw[k1,e1,h1];rfl
  ·show(mN σ tk (dK p j) x).2++(pe σ tk (dK p j+1) xs).2=_;rw[k1,e1,h2];rfl
  ·cases i with
   |zero=>
    cases hi;rcases k3 with ⟨e,ex,z,ys,q1,q2⟩|q
    ·exact .inl ⟨e,ex,z,ys,by rw[q1];rfl,q2⟩
    ·exact .inr q
   |succ i=>have:=h4 i r' hi;rw[show j+1+i=j+(i+1)by omega]at this;exact this
theorem MG(b7:Ok E σ w c){q:aE}:∀{xs:ay AV} {j:aE} {bs l:ay AA} {tk fz:ay aE} {vals:c_ bf},EP E q σ j bs xs=ah (l,tk,fz)->fD E w c vals xs->
  ∃cs:ay jj,l=cs.map (·.aa)/\tk=cs.flatMap (·.tk)/\fz=cs.flatMap (·.fz)/\cs.length=xs.length/\∀(i:aE) (r:jj),cs[i]? =ah r->vals[i]? =ah r.u/\
   (((∃e ex z ys,bs[i]? =ah (.ow e ex z)/\r.aa= .kp ys/\r.tk=[dK q (j+i)]/\r.fz=[]/\σ (cR (dK q (j+i)))= .o (.row e ex ys))/\r.u=kY (c.P (dK q (j+i))))\/ju E σ w c r):=by
 intro xs;induction xs with
 |nil=>intro j bs l tk fz vals h _;cases h;exact⟨[],rfl,rfl,rfl,rfl,λi r h=>by simp at h⟩
 |cons x xs ih=>
  intro j bs l tk fz vals h hv;unfold EP at h;split at h
  ·rename_i aa t f as ts fs h1 h2;cases h;obtain⟨u,hu,ha⟩:=hv.2 0 x rfl;have Lp:fD E w c (vals.extract 1 vals.size) xs:=by
    refine⟨by simp;have:=hv.1;simp at this;omega,λi b hj=> ?_⟩
    obtain⟨u,hu,hb⟩:=hv.2 (i+1) b hj;refine⟨u, ?_,hb⟩
    have:=(dL.1 hu).1;rw[dS,bw (by omega),iN];exact hu
   obtain⟨cs,rfl,rfl,rfl,i4,i5⟩:=ih h2 Lp;have one:∃p g,((∃e ex z ys,bs[0]? =ah (.ow e ex z)/\aa= .kp ys/\t=[dK q j]/\f=[]/\σ (cR (dK q j))= .o (.row e ex ys))/\u=kY (c.P (dK q j)))\/ju E σ w c ⟨aa,t,f,p,g,u⟩:=by
    have other:∀{om k},yX E om σ k x=ah (aa,t,f)->∃p g,((∃e ex z ys,bs[0]? =ah (.ow e ex z)/\aa= .kp ys/\t=[dK q j]/\f=[]/\σ (cR (dK q j))= .o (.row e ex ys))/\u=kY (c.P (dK q j)))\/ju E σ w c ⟨aa,t,f,p,g,u⟩:=λhh=>by obtain⟨p,g,hc⟩:=G3 b7 hh ha;exact⟨p,g, .inr hc⟩
    unfold X7 at h1;split at h1
    ·rename_i e ex z n _ hb;cases hn:bn n (dK q j)with
     |false=>rw[hn]at h1;exact other (k:= .o) h1
     |true=>
      rw[hn]at h1;have:=aR hn;subst this;obtain⟨so,ho⟩:∃so,σ (cR (dK q j))=so:=⟨_,rfl⟩
      cases so with
      |v=>simp[ho]at h1
      |jq=>simp[ho]at h1
      |o ob=>
       cases ob with
       |row e' tc ys=>
        simp only[ho,au]at h1;cases Dw:(bn e e'&&HS ex tc)with
        |false=>rw[Dw]at h1;cases h1
        |true=>
         rw[Dw]at h1;cases h1;simp only[aJ]at Dw;have he:=aR Dw.1;have hx:=HU Dw.2;subst he;subst hx;refine⟨⟨ai,0,0,0,0,0⟩,λ_ _=>⟨ai,0,0,0,0,0⟩, .inl ⟨⟨e,ex,z,ys, ?_,rfl,rfl,rfl,ho⟩,ha⟩⟩
         cases bs with
         |nil=>cases hb
         |cons b bs=>rw[show b=_ from hb];rfl
       |_=>simp[ho]at h1
    ·exact other (k:= .o) h1
   obtain⟨p,g,hc⟩:=one;refine⟨⟨aa,t,f,p,g,u⟩::cs,rfl,rfl,rfl,by simp[i4],λi r hi=> ?_⟩
   cases i with
   |zero=>cases hi;exact⟨hu,hc⟩
   |succ i=>
    obtain⟨r1,r2⟩:=i5 i r hi;refine⟨?_, ?_⟩
    ·rw[dS]at r1;split at r1
     ·rw[iN];exact r1
     ·cases r1
    ·rw[show j+1+i=j+(i+1)by omega]at r2;have e1:bs.tail[i]? =bs[i+1]? :=by cases bs<;>simp
     rw[e1]at r2;exact r2
  ·cases h
end
end Go.FG

namespace Go.FG
section
variable {P:cM} {E:fm} {σ:St} {a:Act} {w:bD} {c:eJ}
theorem Nt(b7:Ok E σ w c){tk:ay aE}:∀{args:ay eQ} {p:aE} {l:ay (ay AA)} {ns ms:ay aE},BA E σ tk p args=ah (l,ns,ms)->
  ∃OL:ay ma,l=OL.map (·.l)/\OL.length=args.length/\ns=(OL.zipIdx p).flatMap (λt=>t.1.ns t.2)/\ms=OL.flatMap (·.ms)/\∀(i:aE) (O:ma) (x:eQ),OL[i]? =ah O->args[i]? =ah x->Gq E σ w c (p+i) x O:=by
 intro args;induction args with
 |nil=>intro p l ns ms h;cases h;exact⟨[],rfl,rfl,rfl,rfl,λi O x h=>by simp at h⟩
 |cons x args ih=>
  intro p l ns ms h;unfold BA at h;split at h
  ·cases h
  ·rename_i l' ns' ms' h1;obtain⟨OL,rfl,i2,rfl,rfl,i5⟩:=ih h1;have put:∀O:ma,Gq E σ w c p x O->l=O.l::OL.map (·.l)->ns=O.ns p++(OL.zipIdx (p+1)).flatMap (λt=>t.1.ns t.2)->ms=O.ms++OL.flatMap (·.ms)->∃OL:ay ma,l=OL.map (·.l)/\OL.length=(x::args).length/\ns=(OL.zipIdx p).flatMap (λt=>t.1.ns t.2)/\ms=OL.flatMap (·.ms)/\∀(i:aE) (O:ma) (y:eQ),OL[i]? =ah O->(x::args)[i]? =ah y->Gq E σ w c (p+i) y O:=by
    intro O hO h1 h2 h3;refine⟨O::OL,h1,by simp[i2],by rw[h2,List.zipIdx_cons,wX],h3,λi O' y hi hy=> ?_⟩
    cases i with
    |zero=>cases hi;cases hy;exact hO
    |succ i=>have:=i5 i O' y hi hy;rwa[show p+1+i=p+(i+1)by omega]at this
   cases x with
   |v g xs=>
    dsimp only at h;cases hh:Qp xs with
    |false=>rw[hh]at h;cases h;exact put ⟨ak,[]⟩ (.inl ⟨rfl,(λ_ h=>by cases h), .inl rfl⟩) rfl rfl rfl
    |true=>rw[hh]at h;cases h;obtain⟨cs,k1,k2,k3,k4⟩:=JG (σ:=σ) (tk:=tk) (p:=p) (xs:=xs) (j:=0);refine put ⟨ak,cs⟩ (.inl ⟨rfl,(λ_ h=>by cases h), .inr ⟨g,xs,rfl,λj r hj=> ?_⟩⟩) (by rw[k1];rfl) (by rw[k2];rfl) (by simp[ma.ms,k3]);have:=k4 j r hj;rw[bT]at this;exact this
   |pt xs=>
    dsimp only at h;split at h
    ·rename_i vs ho;split at h
     ·rename_i as ns2 ms2 hb;cases h;obtain⟨vals,hbl,fH,hv⟩:=b7.obj _ _ ho;obtain⟨cs,rfl,rfl,rfl,k4,k5⟩:=MG b7 hb ⟨fH,hv⟩;refine put ⟨ai,cs⟩ (.inr ⟨rfl,xs,vs,vals,rfl,ho,hbl,by rw[fH];exact k4.symm,λj r hj=> ?_⟩) rfl (by simp[ma.ns]) rfl;obtain⟨r1,r2⟩:=k5 j r hj;rw[bT]at r2;exact⟨r1,r2⟩
     ·cases h
    ·cases h
   |fb xs=>cases h;exact put ⟨ak,[]⟩ (.inl ⟨rfl,(λ_ h=>by cases h), .inl rfl⟩) rfl rfl rfl
theorem yU:∀{l:ay (ay AA)} {p:aE},(s_ l).getD p []=l.getD p []:=by
 intro l;induction l with
 |nil=>intro p;rfl
 |cons x l ih=>
  intro p;unfold s_;split
  ·rename_i h;cases p with
   |zero=>rfl
   |succ p=>rw[uG,<-ih,h];rfl
  ·rename_i x' r' _;cases p with
   |zero=>rfl
   |succ p=>rw[uG,uG,ih]
end
end Go.FG

namespace Go.FG
structure Sp where
 res:aW
 i:aE
 j:aC aE
def oJ(RL:ay kA)(OL:ay ma)(s:Sp):ay aE:=
 match s.res,s.j with
 |true,aj=>match RL[s.i]? with|some R=>R.box.toList|none=>[]
 |true,ah j=>match RL[s.i]? with|some R=>(match R.cs[j]? with|some r=>r.tk|none=>[])|none=>[]
 |false,aj=>match OL[s.i]? with|some O=>(if O.box=ai then [dK s.i 900]else [])|none=>[]
 |false,ah j=>match OL[s.i]? with|some O=>(match O.cs[j]? with|some r=>r.tk|none=>[])|none=>[]
theorem mQ{α:Type}{l:ay α}{i:aE}{x:α}{p:aE}(h:l[i]? =ah x):(l.zipIdx p)[i]? =ah (x,p+i):=by rw[List.getElem?_zipIdx,h];rfl
theorem Xg{RL:ay kA}{OL:ay ma}(hn:(RL.flatMap (·.tk)++(OL.zipIdx 0).flatMap (λt=>t.1.ns t.2)).Nodup){s s':Sp}{n:aE}(h:n∈oJ RL OL s)(h':n∈oJ RL OL s'):s=s':=by
 obtain⟨n1,n2,n3⟩:=dY.1 hn;obtain⟨a1,a2⟩:=lr n1;obtain⟨b1,b2⟩:=lr n2;have R1:∀{i:aE} {j:aC aE},n∈oJ RL OL ⟨ai,i,j⟩->∃R,RL[i]? =ah R/\n∈R.tk/\((j=aj/\n∈R.box.toList)\/∃q r,j=ah q/\R.cs[q]? =ah r/\n∈r.tk):=by
  intro i j h;cases j with
  |none=>
   unfold oJ at h;dsimp only at h;cases hR:RL[i]? with
   |none=>rw[hR]at h;cases h
   |some R=>rw[hR]at h;exact⟨R,rfl,bU _ h, .inl ⟨rfl,h⟩⟩
  |some q=>
   unfold oJ at h;dsimp only at h;cases hR:RL[i]? with
   |none=>rw[hR]at h;cases h
   |some R=>
    rw[hR]at h;dsimp only at h;cases hr:R.cs[q]? with
    |none=>rw[hr]at h;cases h
    |some r=>rw[hr]at h;exact⟨R,rfl,bK _ (bG.2 ⟨r,aP hr,h⟩), .inr ⟨q,r,rfl,hr,h⟩⟩
 have O1:∀{i:aE} {j:aC aE},n∈oJ RL OL ⟨ak,i,j⟩->∃O,OL[i]? =ah O/\n∈O.ns i/\((j=aj/\n∈(if O.box=ai then [dK i 900]else []))\/∃q r,j=ah q/\O.cs[q]? =ah r/\n∈r.tk):=by
  intro i j h;cases j with
  |none=>
   unfold oJ at h;dsimp only at h;cases hR:OL[i]? with
   |none=>rw[hR]at h;cases h
   |some R=>rw[hR]at h;exact⟨R,rfl,bU _ h, .inl ⟨rfl,h⟩⟩
  |some q=>
   unfold oJ at h;dsimp only at h;cases hR:OL[i]? with
   |none=>rw[hR]at h;cases h
   |some R=>
    rw[hR]at h;dsimp only at h;cases hr:R.cs[q]? with
    |none=>rw[hr]at h;cases h
    |some r=>rw[hr]at h;exact⟨R,rfl,bK _ (bG.2 ⟨r,aP hr,h⟩), .inr ⟨q,r,rfl,hr,h⟩⟩
 have inn:∀{A:ay aE} {cs:ay jj} {j j':aC aE},(A++cs.flatMap (·.tk)).Nodup->((j=aj/\n∈A)\/∃q r,j=ah q/\cs[q]? =ah r/\n∈r.tk)->((j'=aj/\n∈A)\/∃q r,j'=ah q/\cs[q]? =ah r/\n∈r.tk)->j=j':=by
  intro A cs j j' Hh k k';obtain⟨m1,m2,m3⟩:=dY.1 Hh;have inC:∀{q:aE} {r:jj},cs[q]? =ah r->n∈r.tk->n∈cs.flatMap (·.tk):=λhq hr=>bG.2 ⟨_,aP hq,hr⟩;rcases k with ⟨rfl,k⟩|⟨q,r,rfl,k1,k2⟩<;>rcases k' with ⟨rfl,k'⟩|⟨q',r',rfl,k1',k2'⟩
  ·rfl
  ·exact cE rfl (m3 n k n (inC k1' k2'))
  ·exact cE rfl (m3 n k' n (inC k1 k2))
  ·rw[(lr m2).1 q q' r r' n k1 k1' k2 k2']
 obtain⟨b,i,j⟩:=s;obtain⟨b',i',j'⟩:=s';cases b<;>cases b'
 ·obtain⟨O,h1,h2,h3⟩:=O1 h;obtain⟨O',Js,MX,Li⟩:=O1 h';have:=b1 i i' _ _ n (mQ (p:=0) h1) (mQ (p:=0) Js) (by rw[bT];exact h2) (by rw[bT];exact MX);subst this;rw[h1]at Js;cases Js;have:=b2 _ (aP (mQ (p:=0) h1));rw[bT]at this;rw[inn this h3 Li]
 ·obtain⟨O,h1,h2,h3⟩:=O1 h;obtain⟨R,Js,MX,_⟩:=R1 h';exact cE rfl (n3 n (bG.2 ⟨R,aP Js,MX⟩) n (bG.2 ⟨_,aP (mQ (p:=0) h1),by rw[bT];exact h2⟩))
 ·obtain⟨R,h1,h2,_⟩:=R1 h;obtain⟨O,Js,MX,_⟩:=O1 h';exact cE rfl (n3 n (bG.2 ⟨R,aP h1,h2⟩) n (bG.2 ⟨_,aP (mQ (p:=0) Js),by rw[bT];exact MX⟩))
 ·obtain⟨R,h1,h2,h3⟩:=R1 h;obtain⟨R',Js,MX,Li⟩:=R1 h';have:=a1 i i' _ _ n h1 Js h2 MX;subst this;rw[h1]at Js;cases Js;have:=a2 _ (aP h1);rw[inn this h3 Li]
end Go.FG

namespace Go.FG
def KU(c:eJ)(RL:ay kA)(OL:ay ma)(m:aE):aC (Pl×(aE->aE->Pl)):=
 if m<900000000 then aj
 else if 500<=(m-900000000)/1000 then(match RL[(m-900000000)/1000-500]? with
  |none=>aj
  |some R=>if(m-900000000)%1000=900 then R.box.map (λn=>(c.P n,c.G n))else(R.cs[(m-900000000)%1000]?).map λr=>(r.p,r.g))
 else if 100<=(m-900000000)%1000/\(m-900000000)%1000≠900 then(match OL[(m-900000000)/1000]? with
  |none=>aj
  |some O=>(O.cs[(m-900000000)%1000-100]?).map λr=>(r.p,r.g))
 else aj
def mM(σ:St)(c:eJ)(RL:ay kA)(OL:ay ma):eJ:=
 ⟨λm=>match KU c RL OL m with|some pg=>pg.1|none=>c.P m,λm=>match KU c RL OL m with|some pg=>pg.2|none=>c.G m,K1r σ c (RL.flatMap (·.fz)++OL.flatMap (·.ms))⟩
theorem zO{σ:St}{c:eJ}{RL:ay kA}{OL:ay ma}{m:aE}{p:Pl}{g:aE->aE->Pl}(h:KU c RL OL m=ah (p,g)):(mM σ c RL OL).P m=p/\(mM σ c RL OL).G m=g:=by unfold mM;simp only[h];exact⟨trivial,trivial⟩
theorem zN{σ:St}{c:eJ}{RL:ay kA}{OL:ay ma}{m:aE}(h:KU c RL OL m=aj):(mM σ c RL OL).P m=c.P m/\(mM σ c RL OL).G m=c.G m:=by unfold mM;simp only[h];exact⟨trivial,trivial⟩
section
variable {c:eJ} {RL:ay kA} {OL:ay ma}
theorem PV{q n:aE}{R:kA}(h:RL[q]? =ah R)(hb:R.box=ah n):KU c RL OL (dK (500+q) 900)=ah (c.P n,c.G n):=by obtain⟨h1,h2⟩:=tp (p:=500+q) (j:=900) (by omega);have h0:=Br (500+q) 900;unfold KU;rw[bH (by omega),h1,h2,bw (by omega),show 500+q-500=q by omega,h];simp[hb]
theorem EN{q j:aE}{R:kA}{r:jj}(h:RL[q]? =ah R)(hj:R.cs[j]? =ah r)(hl:j<900):KU c RL OL (dK (500+q) j)=ah (r.p,r.g):=by obtain⟨h1,h2⟩:=tp (p:=500+q) (j:=j) (by omega);have h0:=Br (500+q) j;unfold KU;rw[bH (by omega),h1,h2,bw (by omega),show 500+q-500=q by omega,h];dsimp only;rw[bH (by omega),hj];rfl
theorem zL{p j:aE}(hp:p<500)(hl:j<100\/j=900):KU c RL OL (dK p j)=none:=by obtain⟨h1,h2⟩:=tp (p:=p) (j:=j) (by omega);have h0:=Br p j;unfold KU;rw[bH (by omega),h1,h2,bH (by omega),bH (by omega)]
theorem KV{p j:aE}{O:ma}{r:jj}(hp:p<500)(h:OL[p]? =ah O)(hj:O.cs[j]? =ah r)(hl:j<=100):KU c RL OL (dK p (100+j))=ah (r.p,r.g):=by obtain⟨h1,h2⟩:=tp (p:=p) (j:=100+j) (by omega);have h0:=Br p (100+j);unfold KU;rw[bH (by omega),h1,h2,bH (by omega),bw (by omega),h];dsimp only;rw[show 100+j-100=j by omega,hj];rfl
end
end Go.FG

namespace Go.FG
def agD(OL:ay ma)(s:Sp):aE:=
 match s.res,s.j with
 |true,aj=>dK (500+s.i) 900
 |true,ah j=>dK (500+s.i) j
 |false,aj=>dK s.i 900
 |false,ah j=>match OL[s.i]? with|some O=>(match O.cs[j]? with|some r=>(match r.aa with| .kp _=>dK s.i j|_=>dK s.i (100+j))|none=>0)|none=>0
section
variable {P:cM} {E:fm} {σ:St} {a:Act} {w:bD} {c:eJ} {RL:ay kA} {OL:ay ma}
theorem zQ{r:jj}(h:ju E σ w c r)(hf:∀n∈r.fz,n∈RL.flatMap (·.fz)++OL.flatMap (·.ms)){x:aE}(hx:KU c RL OL x=ah (r.p,r.g)):ea E w (mM σ c RL OL) (kK x r.aa) r.u:=by
 rcases h with ⟨e,ex,ys,te,h1,h2,h3,h4,_⟩|⟨h1,h2,h3,h4,h5⟩
 ·rw[h1];show r.u=kY ((mM σ c RL OL).P x);rw[(zO hx).1];exact h4
 ·exact h5 _ (λb hb=>hb.imp id (λ⟨n,hn,hh⟩=>⟨n,hf n hn,hh⟩)) x
theorem GM{r:jj}(h:ju E σ w c r){e:aE}{ex:aW}{ys:aU}(ha:r.aa= .ow e ex ys){x:aE}(hx:KU c RL OL x=ah (r.p,r.g)):
  o7 E w (mM σ c RL OL) x (.row e ex ys)/\∀b,e8 (mM σ c RL OL) x (.row e ex ys) b->∃n ob,n∈r.tk/\σ (cR n)= .o ob/\e8 c n ob b:=by
 obtain⟨e1,e2⟩:=zO (σ:=σ) hx;rcases h with ⟨e',tc,Ce,te,h1,h2,h3,h4,h5,h6,h7,h8,h9,NZ⟩|⟨_,_,h3,_⟩
 ·rw[ha]at h1;cases h1;refine⟨⟨⟨te,h3,by rw[e1];exact h5,h6⟩, ?_,λoH=>by rw[e1,e2];exact h8 oH⟩,λb hb=> ?_⟩
  ·rw[e1,e2];refine h7.frame (λ_=>rfl) (λi j y xx u hy JC hr=> ?_);split at hr
   ·rename_i oH;rw[bw oH];exact hr
   ·rename_i oH;rw[bH oH];exact hr.frame (λ_ _=>rfl) (λb hb=> .inl hb)
  ·rcases hb with ⟨hn,rfl⟩|⟨oH,i,j,hh,hn,rfl⟩
   ·rw[e1]at hn⊢;exact h9 hn
   ·rw[e2]at hn⊢;exact NZ oH i j hh hn
 ·exact cE ha (h3 _ _ _)
structure CX (T:Tab) (σ:St) (w:bD) (c:eJ) (RL:ay kA) (OL:ay ma) (args:ay eQ) (r:dE):Prop where
 rl:∀R∈RL,Aw T σ w c R
 ol:∀(i:aE) (O:ma) (x:eQ),OL[i]? =ah O->args[i]? =ah x->Gq T σ w c i x O
 len:OL.length=args.length
 nd:(RL.flatMap (·.tk)++(OL.zipIdx 0).flatMap (λt=>t.1.ns t.2)).Nodup
 ap:∀n∈RL.flatMap (·.tk)++(OL.zipIdx 0).flatMap (λt=>t.1.ns t.2),n∉RL.flatMap (·.fz)++OL.flatMap (·.ms)
 sm:Small args r
 rs:r.rs=RL.map (·.arg)
 outs:∀p,r.outs.getD p []=(OL.map (·.l)).getD p []
theorem PQ{R:kA}{xs:ay AA}(h:Kq R.arg xs):xs=R.cs.map (·.aa):=by
 unfold kA.arg at h;split at h
 ·rcases h with ⟨g,h⟩|h<;>cases h;rfl
 ·rcases h with ⟨g,h⟩|h<;>cases h;rfl
theorem vN(b7:Ok E σ w c){args:ay eQ}{r:dE}(hE:CX E σ w c RL OL args r){x:aE}{ob:Obj}(h:Aj args r x (.o ob)):
  o7 E w (mM σ c RL OL) x ob/\∃s,x=agD OL s/\∀b,e8 (mM σ c RL OL) x ob b->∃n o,n∈oJ RL OL s/\σ (cR n)= .o o/\e8 c n o b:=by
 have ah1:∀{q:aE} {y:eQ},r.rs[q]? =ah y->∃R,RL[q]? =ah R/\y=R.arg:=by
  intro q y hq;rw[hE.rs,bF]at hq;cases hR:RL[q]? with
  |none=>rw[hR]at hq;cases hq
  |some R=>rw[hR]at hq;cases hq;exact⟨R,rfl,rfl⟩
 have fzR:∀{q:aE} {R:kA} {j:aE} {t:jj},RL[q]? =ah R->R.cs[j]? =ah t->∀n∈t.fz,n∈RL.flatMap (·.fz)++OL.flatMap (·.ms):=λhR hj n hn=>bU _ (bG.2 ⟨_,aP hR,bG.2 ⟨_,aP hj,hn⟩⟩);have fzO:∀{q:aE} {O:ma} {j:aE} {t:jj},OL[q]? =ah O->O.cs[j]? =ah t->∀n∈t.fz,n∈RL.flatMap (·.fz)++OL.flatMap (·.ms):=λhR hj n hn=>bK _ (bG.2 ⟨_,aP hR,bG.2 ⟨_,aP hj,hn⟩⟩);have ac9:∀{p:aE} {y:eQ},args[p]? =ah y->∃O,OL[p]? =ah O/\Gq E σ w c p y O/\r.outs.getD p []=O.cs.map (·.aa):=by
  intro p y hp;have rP:p<OL.length:=by rw[hE.len];exact(aT.1 hp).1
  have hO:OL[p]? =ah OL[p]:=by simp[rP]
  refine⟨OL[p],hO,hE.ol p _ y hO hp, ?_⟩
  rw[hE.outs,cL,bF,hO];rfl
 have csJ:∀{cs:ay jj} {j:aE} {y:AA},(cs.map (·.aa))[j]? =ah y->∃t,cs[j]? =ah t/\t.aa=y:=by
  intro cs j y hj;rw[bF]at hj;cases ht:cs[j]? with
  |none=>rw[ht]at hj;cases hj
  |some t=>rw[ht]at hj;cases hj;exact⟨t,rfl,rfl⟩
 have Yn:∀p j,dK p 0+j=dK p j:=λp j=>by unfold dK;omega
 cases h with
 |rb q xs h0=>
  obtain⟨R,hR,hy⟩:=ah1 h0;rcases hE.rl R (aP hR)with ⟨nm,zs,vals,h1,h2,h3,h4,h5,h6⟩|⟨h1,_⟩
  ·have Yt:=PQ (R:=R) (xs:=xs) (.inr hy.symm);obtain⟨e1,e2⟩:=zO (σ:=σ) (PV (c:=c) (OL:=OL) hR h1);refine⟨⟨vals,by rw[e1];exact h4,by rw[iB,Yt,bN];exact h5,λj y hj=> ?_⟩,⟨ai,q,aj⟩,rfl,λb hb=>⟨nm,_, ?_,h2, ?_⟩⟩
   ·rw[ie,Yt]at hj;cases hx:(R.cs.map (·.aa))[j]? with
    |none=>rw[hx]at hj;cases hj
    |some z=>
     rw[hx]at hj;cases hj;obtain⟨t,ht,rfl⟩:=csJ hx;obtain⟨k1,k2⟩:=h6 j t ht;have js:j<900:=by have:=hE.sm.rl q _ xs h0 (.inr rfl);have h7:=(aT.1 ht).1;rw[Yt,bN]at this;omega
     rw[Yn];exact⟨t.u,k1,zQ k2 (fzR hR ht) (EN hR ht js)⟩
   ·show nm∈(match RL[q]? with|some R=>R.box.toList|none=>[]);rw[hR];dsimp only;rw[h1];exact aX.2 rfl
   ·rw[show b=_ from hb,e1];rfl
  ·unfold kA.arg at hy;rw[h1]at hy;cases hy
 |rr q y xs j e ex ys h0 hx hj=>
  obtain⟨R,hR,rfl⟩:=ah1 h0;have Yt:=PQ hx;rw[Yt]at hj;obtain⟨t,ht,Hk⟩:=csJ hj;have js:j<900:=by have:=hE.sm.rl q _ xs h0 hx;have h7:=(aT.1 ht).1;rw[Yt,bN]at this;omega
  have hc:ju E σ w c t:=by
   rcases hE.rl R (aP hR)with ⟨nm,zs,vals,_,_,_,_,_,h6⟩|⟨_,⟨_,t',h1,_,h2⟩|⟨_,vals,_,_,h6⟩⟩
   ·exact(h6 j t ht).2
   ·rw[h1]at ht;cases j with
    |zero=>cases ht;exact h2
    |succ j=>simp at ht
   ·exact(h6 j t ht).2
  obtain⟨k1,k2⟩:=GM (RL:=RL) (OL:=OL) hc Hk (EN hR ht js);refine⟨k1,⟨ai,q,ah j⟩,rfl,λb hb=> ?_⟩
  obtain⟨n,o,h1,h2⟩:=k2 b hb;refine⟨n,o, ?_,h2⟩
  show n∈(match RL[q]? with|some R=>(match R.cs[j]? with|some r=>r.tk|none=>[])|none=>[]);rw[hR];dsimp only;rw[ht];exact h1
 |ob p xs h0=>
  obtain⟨O,hO,hoo,hl⟩:=ac9 h0;have hp:=hE.sm.a p _ xs h0 (.inr rfl);rcases hoo with ⟨_,h1,_⟩|⟨h1,Km,vs,vals,Vb,h2,h3,h4,h5⟩
  ·exact cE rfl (h1 xs)
  ·cases Vb;obtain⟨e1,e2⟩:=zN (σ:=σ) (zL (c:=c) (RL:=RL) (OL:=OL) hp (.inr rfl));have afD:O.cs.length<=100:=by have:=hE.sm.o p;rw[hl,bN]at this;exact this
   rw[hl];refine⟨⟨vals,by rw[e1];exact h3,by rw[um,bN];exact h4,λj y hj=> ?_⟩,⟨ak,p,aj⟩,rfl,λb hb=>⟨dK p 900,_, ?_,h2, ?_⟩⟩
   ·rw[ve,bT]at hj;cases hx:(O.cs.map (·.aa))[j]? with
    |none=>rw[hx]at hj;cases hj
    |some z=>
     rw[hx]at hj;cases hj;obtain⟨t,ht,rfl⟩:=csJ hx;obtain⟨k1,k2⟩:=h5 j t ht;have js:=(aT.1 ht).1;refine⟨t.u,k1, ?_⟩
     rcases k2 with ⟨⟨e,ex,z,ys,_,q2,_⟩,q6⟩|k2
     ·rw[q2];show t.u=kY ((mM σ c RL OL).P (dK p j));rw[(zN (zL hp (.inl (by omega)))).1];exact q6
     ·have hk:∀ys,t.aa≠ .kp ys:=by
       rcases k2 with ⟨_,_,_,_,q,_⟩|⟨_,_,_,q,_⟩
       ·intro ys hh;rw[q]at hh;cases hh
       ·exact q
      have:sK p j t.aa=kK (dK p (100+j)) t.aa:=by cases hq:t.aa<;>first|rfl|exact cE hq (hk _)
      rw[this];exact zQ k2 (fzO hO ht) (KV hp hO ht (by omega))
   ·show dK p 900∈(match OL[p]? with|some O=>(if O.box=ai then [dK p 900]else [])|none=>[]);rw[hO];dsimp only;rw[bw h1];exact aX.2 rfl
   ·rw[show b=_ from hb,e1];rfl
 |kp p y xs j e ex z ys h0 hx h2 h3=>
  obtain⟨O,hO,hoo,hl⟩:=ac9 h0;have hp:=hE.sm.a p _ xs h0 hx;rw[hl]at h3;obtain⟨t,ht,Hk⟩:=csJ h3;have afD:O.cs.length<=100:=by have:=hE.sm.o p;rw[hl,bN]at this;exact this
  have js:=(aT.1 ht).1;have afX:Kept σ p j xs t:=by
   rcases hoo with ⟨_,_,h1|⟨g,Km,Vb,h1⟩⟩|⟨_,Km,vs,vals,Vb,_,_,_,h5⟩
   ·rw[h1]at ht;simp at ht
   ·have:Km=xs:=by rw[Vb]at hx;rcases hx with ⟨g',hx⟩|hx<;>cases hx;rfl
    subst this;rcases h1 j t ht with h|⟨h,_⟩
    ·exact h
    ·rw[Hk]at h;cases h
   ·have:Km=xs:=by rw[Vb]at hx;rcases hx with ⟨g',hx⟩|hx<;>cases hx;rfl
    subst this;rcases(h5 j t ht).2 with ⟨h,_⟩|h
    ·exact h
    ·rcases h with ⟨_,_,_,_,q,_⟩|⟨_,_,_,q,_⟩
     ·rw[Hk]at q;cases q
     ·exact cE Hk (q _)
  obtain⟨e',tc,z',Ce,q1,q2,q3,q4,q5⟩:=afX;rw[h2]at q1;cases q1;rw[Hk]at q2;cases q2;obtain⟨e1,e2⟩:=zN (σ:=σ) (zL (c:=c) (RL:=RL) (OL:=OL) (p:=p) (j:=j) hp (.inl (by omega)));obtain⟨⟨te,r1,r2,r3⟩,r4,r5⟩:=b7.obj _ _ q5;refine⟨⟨⟨te,r1,by rw[e1];exact r2,r3⟩, ?_,λoH=>by rw[e1,e2];exact r5 oH⟩,⟨ak,p,ah j⟩, ?_,λb hb=>⟨dK p j,_, ?_,q5, ?_⟩⟩
  ·rw[e1,e2];refine r4.frame (λ_=>rfl) (λi j y xx u hy JC hr=> ?_);split at hr
   ·rename_i oH;rw[bw oH];exact hr
   ·rename_i oH;rw[bH oH];exact hr.frame (λ_ _=>rfl) (λb hb=> .inl hb)
  ·show dK p j=(match OL[p]? with|some O=>(match O.cs[j]? with|some r=>(match r.aa with| .kp _=>dK p j|_=>dK p (100+j))|none=>0)|none=>0)
   rw[hO];dsimp only;rw[ht];dsimp only;rw[Hk]
  ·show dK p j∈(match OL[p]? with|some O=>(match O.cs[j]? with|some r=>r.tk|none=>[])|none=>[]);rw[hO];dsimp only;rw[ht];dsimp only;rw[q3];exact aX.2 rfl
  ·rw[lJ (c:=c) (c':=mM σ c RL OL) ⟨e1,e2⟩]at hb;exact hb
 |nw p y xs j e ex ys h0 hx h3=>
  obtain⟨O,hO,hoo,hl⟩:=ac9 h0;have hp:=hE.sm.a p _ xs h0 hx;rw[hl]at h3;obtain⟨t,ht,Hk⟩:=csJ h3;have afD:O.cs.length<=100:=by have:=hE.sm.o p;rw[hl,bN]at this;exact this
  have js:=(aT.1 ht).1;have hc:ju E σ w c t:=by
   rcases hoo with ⟨_,_,h1|⟨g,Km,Vb,h1⟩⟩|⟨_,Km,vs,vals,Vb,_,_,_,h5⟩
   ·rw[h1]at ht;simp at ht
   ·rcases h1 j t ht with ⟨_,_,_,_,_,h,_⟩|⟨h,_⟩<;>(rw[Hk]at h;cases h)
   ·rcases(h5 j t ht).2 with ⟨⟨_,_,_,_,_,h,_⟩,_⟩|h
    ·rw[Hk]at h;cases h
    ·exact h
  obtain⟨k1,k2⟩:=GM (RL:=RL) (OL:=OL) hc Hk (KV hp hO ht (by omega));refine⟨k1,⟨ak,p,ah j⟩, ?_,λb hb=> ?_⟩
  ·show dK p (100+j)=(match OL[p]? with|some O=>(match O.cs[j]? with|some r=>(match r.aa with| .kp _=>dK p j|_=>dK p (100+j))|none=>0)|none=>0)
   rw[hO];dsimp only;rw[ht];dsimp only;rw[Hk]
  ·obtain⟨n,o,h1,h2⟩:=k2 b hb;refine⟨n,o, ?_,h2⟩
   show n∈(match OL[p]? with|some O=>(match O.cs[j]? with|some r=>r.tk|none=>[])|none=>[]);rw[hO];dsimp only;rw[ht];exact h1
end
end Go.FG

namespace Go.FG
theorem uV{args:ay eQ}{r:dE}{m:aE}{o:Obj}(h:Aj args r m (.o o)):nL args r (cR m)≠ .jq:=by
 refine qZ (vP.2 h) ?_;rintro ⟨k,d⟩ hd;rcases a_.1 hd with hd|hd
 ·obtain⟨i,a,_,hd⟩:=Hw.1 hd;rcases hZ.1 hd with ⟨_,_,_,h⟩|⟨_,_,_,_,_,_,_,_,h⟩<;>rw[h]<;>simp
 ·obtain⟨i,a,_,hd⟩:=Hv.1 hd;rcases qa.1 hd with ⟨_,_,_,h⟩|⟨_,_,⟨_,_,_,_,_,_,_,_,h⟩|⟨_,_,_,_,_,_,h⟩⟩<;>rw[h]<;>simp
section
variable {P:cM} {E:fm} {σ:St} {a:Act} {w:bD} {c c0:eJ} {RL:ay kA} {OL:ay ma}
theorem RJ{s:Sp}{n:aE}(h:n∈oJ RL OL s):n∈RL.flatMap (·.tk)++(OL.zipIdx 0).flatMap (λt=>t.1.ns t.2):=by
 obtain⟨b,i,j⟩:=s;have inO:∀{O:ma},OL[i]? =ah O->n∈O.ns i->n∈(OL.zipIdx 0).flatMap (λt=>t.1.ns t.2):=λhO hn=>bG.2 ⟨_,aP (mQ (p:=0) hO),by rw[bT];exact hn⟩;have inR:∀{R:kA},RL[i]? =ah R->n∈R.tk->n∈RL.flatMap (·.tk):=λhR hn=>bG.2 ⟨_,aP hR,hn⟩;cases b<;>cases j<;>unfold oJ at h<;>dsimp only at h
 ·cases hO:OL[i]? with
  |none=>rw[hO]at h;cases h
  |some O=>rw[hO]at h;exact bK _ (inO hO (bU _ h))
 ·rename_i j;cases hO:OL[i]? with
  |none=>rw[hO]at h;cases h
  |some O=>
   rw[hO]at h;dsimp only at h;cases hr:O.cs[j]? with
   |none=>rw[hr]at h;cases h
   |some r=>rw[hr]at h;exact bK _ (inO hO (bK _ (bG.2 ⟨r,aP hr,h⟩)))
 ·cases hO:RL[i]? with
  |none=>rw[hO]at h;cases h
  |some O=>rw[hO]at h;exact bU _ (inR hO (bU _ h))
 ·rename_i j;cases hO:RL[i]? with
  |none=>rw[hO]at h;cases h
  |some O=>
   rw[hO]at h;dsimp only at h;cases hr:O.cs[j]? with
   |none=>rw[hr]at h;cases h
   |some r=>rw[hr]at h;exact bU _ (inR hO (bK _ (bG.2 ⟨r,aP hr,h⟩)))
theorem R2{args:ay eQ}{r:dE}(hE:CX E σ w c RL OL args r){q:aE}{R:kA}(hR:RL[q]? =ah R):pD E w (mM σ c RL OL) (EM (500+q) R.arg).1 (EM (500+q) R.arg).2 R.v:=by
 have hlen:∀{j:aE} {t:jj},R.cs[j]? =ah t->j<900:=by
  intro j t ht;have h0:r.rs[q]? =ah R.arg:=by rw[hE.rs,bF,hR];rfl
  have hx:Kq R.arg (R.cs.map (·.aa)):=by
   unfold kA.arg;split
   ·exact .inr rfl
   ·exact .inl ⟨_,rfl⟩
  have:=hE.sm.rl q _ _ h0 hx;have h7:=(aT.1 ht).1;rw[bN]at this;omega
 have hf:∀{j:aE} {t:jj},R.cs[j]? =ah t->∀n∈t.fz,n∈RL.flatMap (·.fz)++OL.flatMap (·.ms):=λhj n hn=>bU _ (bG.2 ⟨_,aP hR,bG.2 ⟨_,aP hj,hn⟩⟩);have Yn:∀p j,dK p 0+j=dK p j:=λp j=>by unfold dK;omega
 rcases hE.rl R (aP hR)with ⟨nm,zs,vals,h1,h2,h3,h4,h5,h6⟩|⟨h1,⟨h2,t,h3,h4,h5⟩|⟨h2,vals,h3,h4,h5⟩⟩
 ·have:R.arg= .pt (R.cs.map (·.aa)):=by unfold kA.arg;rw[h1]
  rw[this];show R.v= .pointer (ah (ad ((mM σ c RL OL).P (dK (500+q) 900)).blk 0));rw[(zO (PV hR h1)).1];exact h3
 ·have:R.arg= .v ak [t.aa]:=by unfold kA.arg;rw[h1,h2,h3];rfl
  rw[this,<-h4];have ht:R.cs[0]? =ah t:=by rw[h3];rfl
  have:=zQ (OL:=OL) h5 (hf ht) (EN hR ht (by omega));exact this
 ·have:R.arg= .v ai (R.cs.map (·.aa)):=by unfold kA.arg;rw[h1,h2]
  rw[this];refine⟨vals,h3,by show vals.size=(gf _ _).length;rw[iB,bN];exact h4,λj y hj=> ?_⟩
  replace hj:(gf (dK (500+q) 0) (R.cs.map (·.aa)))[j]? =ah y:=hj;rw[ie,bF]at hj;cases ht:R.cs[j]? with
  |none=>rw[ht]at hj;cases hj
  |some t=>
   rw[ht]at hj;cases hj;obtain⟨k1,k2⟩:=h5 j t ht;refine⟨t.u,k1, ?_⟩
   rw[Yn];exact zQ k2 (hf ht) (EN hR ht (hlen ht))
theorem A1{args:ay eQ}{r:dE}{q:aE}{y:eQ}{xs:ay AA}(h0:r.rs[q]? =ah y)(hx:Kq y xs){v:AV}(hv:v∈gf (dK (500+q) 0) xs):iV (nL args r) v:=by
 intro m hm;obtain⟨j,hj⟩:=bX hv;rw[ie]at hj;cases hy:xs[j]? with
 |none=>rw[hy]at hj;cases hj
 |some z=>
  rw[hy]at hj;cases hj;obtain⟨rfl,e,ex,ys,rfl⟩:=sG hm;have hn:dK (500+q) 0+j=dK (500+q) j:=by unfold dK;omega
  rw[hn];exact uV (.rr q y xs j e ex ys h0 hx hy)
theorem UJ(b7:Ok E σ w c){args:ay eQ}{r:dE}(hE:CX E σ w c RL OL args r):Ok E (nL args r) w (mM σ c RL OL) where
 obj nm o h:=(vN b7 hE (pZ h)).1
 gp:=E.gp.fr b7.gp (λ_ _=>rfl) (λb hb=> .inl hb)
 sep nm o wb o' b h h' hf vZ:=by
  obtain⟨s,e1,k1⟩:=(vN b7 hE (pZ h)).2;obtain⟨s',e1',k1'⟩:=(vN b7 hE (pZ h')).2;obtain⟨n,ob,h1,h2,h3⟩:=k1 b hf;obtain⟨n',ob',Js,MX,Li⟩:=k1' b vZ;have:=b7.sep n ob n' ob' b h2 MX h3 Li;subst this;rw[e1,e1',Xg hE.nd h1 Js]
 kk nm o b h hf hk:=by
  obtain⟨s,e1,k1⟩:=(vN b7 hE (pZ h)).2;obtain⟨n,ob,h1,h2,h3⟩:=k1 b hf;rcases hk with hk|⟨n',j5,ob',MX,Li⟩
  ·exact b7.kk n ob b h2 h3 hk
  ·have:=b7.sep n ob n' ob' b h2 MX h3 Li;subst this;exact hE.ap n (RJ h1) j5
 lt b hb:=by
  rcases hb with hb|⟨n,hn,ob,h1,h2⟩
  ·exact b7.lt b hb
  ·exact uJ.lt b7 ⟨n,ob,h1,h2⟩
 kn nm xs h v hv:=by
  have hx:=pZ h;cases hx with
  |rb q xs h0=>exact A1 h0 (.inr rfl) hv
  |ob p xs h0=>
   intro m hm;obtain⟨j,hj⟩:=bX hv;rw[ve,bT]at hj;cases hy:(r.outs.getD p [])[j]? with
   |none=>rw[hy]at hj;cases hj
   |some z=>
    rw[hy]at hj;cases hj;cases z with
    |kp ys=>
     have hm:m=dK p j:=by simpa [sK,bE]using hm
     subst hm;have rP:p<OL.length:=by rw[hE.len];exact(aT.1 h0).1
     have hO:OL[p]? =ah OL[p]:=by simp[rP]
     have hl:r.outs.getD p []=OL[p].cs.map (·.aa):=by rw[hE.outs,cL,bF,hO];rfl
     rw[hl,bF]at hy;cases ht:OL[p].cs[j]? with
     |none=>rw[ht]at hy;cases hy
     |some t=>
      rw[ht]at hy;have Hk:t.aa= .kp ys:=by injection hy
      rcases hE.ol p _ _ hO h0 with ⟨_,h1,_⟩|⟨_,Km,vs,vals,Vb,_,_,_,h5⟩
      ·exact cE rfl (h1 xs)
      ·cases Vb;rcases(h5 j t ht).2 with ⟨⟨e,ex,z,Ce,q1,q2,_⟩,_⟩|h
       ·rw[Hk]at q2;cases q2;exact uV (.kp p _ xs j e ex z ys h0 (.inr rfl) q1 (by rw[hl,bF,ht];exact kX ah Hk))
       ·rcases h with ⟨_,_,_,_,q,_⟩|⟨_,_,_,q,_⟩
        ·rw[Hk]at q;cases q
        ·exact cE Hk (q _)
    |ow e ex ys=>
     have hm:m=dK p (100+j):=by simpa [sK,kK,bE]using hm
     subst hm;exact uV (.nw p _ xs j e ex ys h0 (.inr rfl) hy)
    |_=>simp[sK,kK,bE]at hm
theorem MP(b7:Ok E σ w c){args:ay eQ}{r:dE}(hE:CX E σ w c RL OL args r):nO σ c w (nL args r) (mM σ c RL OL) w where
 os:=rfl
 tape:=rfl
 output:=rfl
 size:=cu _
 K b hb:= .inl hb
 same _ _ _:=rfl
 own b hb:=by
  obtain⟨nm,o,h,hf⟩:=hb;obtain⟨s,e1,k1⟩:=(vN b7 hE (pZ h)).2;obtain⟨n,ob,h1,h2,h3⟩:=k1 b hf;exact .inl ⟨n,ob,h2,h3⟩
 kn b hb:=by
  rcases hb with hb|⟨n,hn,ob,h1,h2⟩
  ·exact .inl hb
  ·exact .inr (.inl ⟨n,ob,h1,h2⟩)
theorem MQ{args:ay eQ}{r:dE}(hs:Small args r)(ha:∀a∈args,mL a<=100)(hA:Tl c0 c):∀m,inj args (cR m)≠ .jq->(mM σ c RL OL).P m=c0.P m/\(mM σ c RL OL).G m=c0.G m:=by
 intro m hm;have:∃ob,inj args (cR m)= .o ob:=by
  cases h:inj args (cR m)with
  |o ob=>exact⟨ob,rfl⟩
  |jq=>exact cE h hm
  |v x=>
   obtain⟨p,a,h0,h⟩:=ll.1 (np h (by simp));rcases h with ⟨h,_⟩|h
   ·exact cE h (lK _ _)
   ·rcases hZ.1 h with ⟨_,_,_,h⟩|⟨_,_,_,_,_,_,_,_,h⟩<;>cases h
 obtain⟨ob,h⟩:=this;obtain⟨p,a,h0,hh⟩:=zY h;have go:∀j,j<100\/j=900->p<500->(mM σ c RL OL).P (dK p j)=c0.P (dK p j)/\(mM σ c RL OL).G (dK p j)=c0.G (dK p j):=by intro j hj hp;obtain⟨e1,e2⟩:=zN (σ:=σ) (zL (c:=c) (RL:=RL) (OL:=OL) hp hj);obtain⟨g1,g2⟩:=hA (dK p j) (Br p j);exact⟨e1.trans g1,e2.trans g2⟩
 rcases hh with ⟨xs,rfl,rfl,_⟩|⟨xs,j,e,ex,ys,hx,hj,rfl,_⟩
 ·exact go 900 (.inr rfl) (hs.a p _ xs h0 (.inr rfl))
 ·refine go j (.inl ?_) (hs.a p _ xs h0 hx);have h1:=ha a (aP h0);have h2:mL a=xs.length:=by rcases hx with ⟨g,rfl⟩|rfl<;>rfl
  have h3:=(aT.1 hj).1;omega
theorem P_{args:ay eQ}{r:dE}(hE:CX E σ w c RL OL args r):iW E w (mM σ c RL OL) (WY r.rs) (BJ (RL.map (·.v))):=by
 have jE:∀l:ay (aW×ay AV),l=kL 500 r.rs->iW E w (mM σ c RL OL) (.jE l) (.tuple (RL.map (·.v)).toArray):=by
  rintro l rfl;refine⟨_,rfl,by rw[v_,hE.rs];simp,λj g xs hj=> ?_⟩
  rw[DJ,hE.rs,bF]at hj;cases hR:RL[j]? with
  |none=>rw[hR]at hj;cases hj
  |some R=>
   rw[hR]at hj;have hj:EM (500+j) R.arg=(g,xs):=by injection hj
   have:=R2 hE hR;rw[hj]at this;exact⟨R.v,by simp[hR],this⟩
 have one:∀x R,kL 500 r.rs=[x]->RL=[R]->iW E w (mM σ c RL OL) (rD [x]) R.v:=by
  intro x R hx hRL;have h0:RL[0]? =ah R:=by rw[hRL];rfl
  have h1:=R2 hE h0;have h2:(kL 500 r.rs)[0]? =ah (EM (500+0) R.arg):=by rw[DJ,hE.rs,bF,h0];rfl
  rw[hx]at h2;have h2:x=EM (500+0) R.arg:=by injection h2
  subst h2;exact h1
 have hlen:(kL 500 r.rs).length=RL.length:=by rw[v_,hE.rs];simp
 have hL:∀L,L=kL 500 r.rs->L.length=RL.length->iW E w (mM σ c RL OL) (rD L) (BJ (RL.map (·.v))):=by
  intro L hL hlen;have jE:=jE L hL;generalize hV:RL.map (·.v)=V at jE⊢;have hlv:L.length=V.length:=by rw[hlen,<-hV];simp
  cases L with
  |nil=>
   cases V with
   |nil=>exact jE
   |cons v V=>simp at hlv
  |cons x L=>
   cases V with
   |nil=>simp at hlv
   |cons v V=>
    cases L with
    |cons y L=>
     cases V with
     |nil=>simp at hlv
     |cons v' V=>exact jE
    |nil=>
     cases V with
     |cons v' V=>simp at hlv
     |nil=>
      cases hR:RL with
      |nil=>rw[hR]at hV;cases hV
      |cons R RL'=>
       cases RL' with
       |nil=>
        have:=one x R hL.symm hR;rw[hR]at hV this;have hV:R.v=v:=by injection hV
        rw[<-hV];exact this
       |cons R' RL'=>rw[hR]at hV;simp at hV
 exact hL _ rfl hlen
end
end Go.FG

namespace Go.FG
theorem Df{α:Type}{b:aW}{x r:α}(h:(bif b then ah x else aj)=ah r):b=ai/\x=r:=by
 cases b with
 |true=>exact⟨rfl,by injection h⟩
 |false=>cases h
section
variable {P:cM} {E:fm} {σ:St} {a:Act} {w:bD} {c:eJ}
theorem abL(hE:d_ P E)(b7:Ok E σ w c)(dp:eS E σ a w c){F:Func}{args:ay eQ}{e:Ex}{r:dE}(h:fin E F args e σ=ah r):
  (e= .normal\/e= .ret)/\(∀x∈args,mL x<=100)/\∃RL OL,CX E σ w c RL OL args r/\(results F a.tmps).run P w= .ok (BJ (RL.map (·.v))) w:=by
 have he:e= .normal\/e= .ret:=by
  cases e with
  |normal=>exact .inl rfl
  |ret=>exact .inr rfl
  |exit id=>cases h
 have h:(match BI E σ 500 F.results.toList F.resultTypes.toList with
  |some (rs,tk,fz)=>match BA E σ (tk++fz) 0 args with
   |some (outs,ns,ms)=>bif sI (tk++ns)&&qH (tk++ns) (fz++ms)&&e9 args.length 500&&(args.all λa=>e9 (mL a) 100)&&(rs.all λa=>e9 (mL a) 100)&&(outs.all λa=>e9 a.length 100)then ah (dE.mk rs (s_ outs))else aj
   |none=>aj
  |none=>aj)=ah r:=by
  rcases he with rfl|rfl<;>exact h
 split at h
 ·rename_i rs tk fz h1;split at h
  ·rename_i outs ns ms h2;obtain⟨RL,rfl,rfl,rfl,r4,r5,r6⟩:=NB hE b7 dp h1;obtain⟨OL,rfl,o2,rfl,rfl,o5⟩:=Nt b7 h2;obtain⟨hb,rfl⟩:=Df h;simp only[aJ,bu]at hb;obtain⟨⟨⟨⟨⟨b1,b2⟩,b3⟩,b4⟩,b5⟩,b6⟩:=hb;refine⟨he,λx hx=>cD (b4 x hx),RL,OL,⟨r4,λi O x hi hx=>by have:=o5 i O x hi hx;rwa[bT]at this,o2,qb b1,n9 b2,⟨?_, ?_, ?_⟩,rfl,λp=>yU⟩,HQ r6⟩
   ·intro p x xs hp _;have:=(aT.1 hp).1;have:=cD b3;omega
   ·intro q x xs hq hx;have h1:=cD (b5 x (aP hq));have h2:mL x=xs.length:=by rcases hx with ⟨g,rfl⟩|rfl<;>rfl
    omega
   ·intro p;show((s_ (OL.map (·.l))).getD p []).length<=100;rw[yU,cL];cases hp:(OL.map (·.l))[p]? with
    |none=>simp
    |some l=>exact cD (b6 l (aP hp))
  ·cases h
 ·cases h
end
inductive Fit:CV->Prop
 |i (k n):Fit (.i k n)
 |b (x):Fit (.b x)
 |s (x) (h:Ge x):Fit (.s x)
 |l (e xs) (h:xs.length<=9223372036854775807) (hc:∀y∈xs,∀x∈y,Fit x):Fit (.l e xs)
def uD(xs:aU):Prop:=xs.length<=9223372036854775807/\∀y∈xs,∀x∈y,Fit x
def afA:AA->Prop
 | .s x=>Ge x| .sh _ xs=>uD xs| .ow _ _ xs=>uD xs|_=>True
def EV:ay AA->Prop
 |[]=>True|a::r=>afA a/\EV r
def afB:CV->Prop
 | .s x=>Ge x| .l _ xs=>uD xs|_=>True
def Qe:ay CV->Prop
 |[]=>True|a::r=>afB a/\Qe r
def Qd:eQ->Prop
 | .v _ xs=>EV xs| .pt xs=>EV xs| .fb xs=>Qe xs
def vU:ay eQ->Prop
 |[]=>True|a::r=>Qd a/\vU r
theorem Fit.agL{u:bf}{x:CV}(hl:tf x=ak)(h:Sc u x):Fit x:=by
 cases x with
 |i k n=>exact .i k n
 |b x=>exact .b x
 |s x=>exact .s x h.2
 |l=>simp[tf]at hl
theorem cT.fit{E:Tab}{w:bD}{K:aE->Prop}{v:bf}{x:CV}(h:cT E w K v x):Fit x:=by
 induction h with
 |i k n=>exact .i k n
 |b x=>exact .b x
 |s x h=>exact .s x h
 |nl e A c=>exact .l e [] (bz _) (λy hy=>by cases hy)
 |l e xs b o c ti U ht hc hm hK hs hcell g9 ih=>refine .l e xs (c6 hc hm) (λy hy x hx=> ?_);obtain⟨i,hi⟩:=bX hy;obtain⟨j,hj⟩:=bX hx;exact ih i j y x hi hj
theorem Fit.row{e:aE}{xs:aU}(h:Fit (.l e xs)):uD xs:=by cases h with|l _ _ h hc=>exact⟨h,hc⟩
theorem Fit.toC{x:CV}(h:Fit x):afB x:=by
 cases x with
 |s x=>cases h with|s _ h=>exact h
 |l e xs=>exact h.row
 |_=>trivial
theorem ze{w:bD}{p:Pl}{xs:aU}{R:aE->aE->bf->CV->Prop}(h:iP w p xs R){i j:aE}{y:ay CV}{x:CV}(hi:xs[i]? =ah y)(hj:y[j]? =ah x):∃u:bf,R i j u x:=by
 cases hn:p.nil with
 |true=>rw[(h.nil hn).1]at hi;simp at hi
 |false=>obtain⟨vals,_,_,_,_,hc⟩:=h.mem hn;obtain⟨u,_,hr⟩:=hc i y j x hi hj;exact⟨u,hr⟩
theorem KG.fit{E:Tab}{w:bD}{c:eJ}{nm e:aE}{ex:aW}{xs:aU}(h:KG E w c nm e ex xs):uD xs:=by
 refine⟨tz h.at_,λy hy x hx=> ?_⟩
 obtain⟨i,hi⟩:=bX hy;obtain⟨j,hj⟩:=bX hx;obtain⟨u,hr⟩:=ze h.at_ hi hj;split at hr
 ·cases x with
  |i k n=>exact .i k n
  |b x=>exact .b x
  |s x=>exact .s x (show Sc u (.s x)from hr).2
  |l e2 ys=>obtain⟨_,ti,_,hp,_,lj,fG⟩:=hr;refine .l e2 ys (tz fG) (λy2 hy2 x2 TR=> ?_);obtain⟨i2,CE⟩:=bX hy2;obtain⟨j2,TN⟩:=bX TR;obtain⟨u2,hr2⟩:=ze fG CE TN;exact Fit.agL (gJ hp (lj y2 hy2) TN) hr2
 ·exact cT.fit hr
theorem Dp{T:Tab}{w:bD}{c:eJ}{xs:ay AA}{nm:aE}(af_:∀(j e:aE) (ex:aW) (ys:aU),xs[j]? =ah (AA.ow e ex ys)->uD ys)(h:∀(j:aE) (x:AA),xs[j]? =ah x->∃v,ea T w c (kK (nm+j) x) v):EV xs:=by
 induction xs generalizing nm with
 |nil=>trivial
 |cons x xs ih=>
  refine⟨?_,ih (nm:=nm+1) (λj e ex ys hj=>af_ (j+1) e ex ys hj) (λj y hj=> ?_)⟩
  ·obtain⟨v,hv⟩:=h 0 x rfl;cases x with
   |s x=>exact hv.2
   |sh e ys=>exact(cT.fit hv).row
   |ow e ex ys=>exact af_ 0 e ex ys rfl
   |_=>trivial
  ·have:=h (j+1) y hj;rw[show nm+1+j=nm+(j+1)by omega];exact this
def yE(args:ay eQ):aW:=e9 args.length 500&&args.all λa=>e9 (mL a) 100
theorem Vh{args:ay eQ}(hs:yE args=ai){p j e:aE}{x:eQ}{xs:ay AA}{ex:aW}{ys:aU}(h0:args[p]? =ah x)(hx:(∃g,x= .v g xs)\/x= .pt xs)(hj:xs[j]? =ah (AA.ow e ex ys)):inj args (cR (dK p j))= .o (.row e ex ys):=by
 simp only[yE,aJ,bu]at hs;have len:∀(x:eQ) (xs:ay AA) (j:aE) (y:AA),x∈args->((∃g,x= .v g xs)\/x= .pt xs)->xs[j]? =ah y->j<100:=by
  intro x xs j y hm hx hj;have h1:=cD (hs.2 x hm);have h2:mL x=xs.length:=by rcases hx with ⟨g,rfl⟩|rfl<;>rfl
  have h3:=(aT.1 hj).1;omega
 have js:=len x xs j _ (aP h0) hx hj;refine yH (ll.2 ⟨p,x,h0, .inr (hZ.2 (.inr ⟨xs,j,e,ex,ys,hx,hj,by rw[bT],rfl⟩))⟩) (λc' G_=> ?_);obtain⟨p',a',TG,hh⟩:=ll.1 G_;rw[bT]at hh;rcases hh with ⟨h,_⟩|hh
 ·exact cE h (lK _ _)
 ·rcases hZ.1 hh with ⟨zs,_,h,_⟩|⟨zs,j',e',tc,Ce,oH,E6,h,rfl⟩
  ·have:=tq (by omega) (by omega) (jw h);omega
  ·have au1:=len a' zs j' _ (aP TG) oH E6;obtain⟨rfl,rfl⟩:=tq (by omega) (by omega) (jw h);rw[h0]at TG;cases TG;have:xs=zs:=by rcases hx with ⟨g,rfl⟩|rfl<;>rcases oH with ⟨g',oH⟩|oH<;>cases oH<;>rfl
   subst this;rw[hj]at E6;cases E6;rfl
theorem Jl{T:Tab}{w:bD}{c:eJ}:∀{cs:ay CV},(∀(q:aE) (x:CV),cs[q]? =ah x->Fit x)->Qe cs:=by
 intro cs;induction cs with
 |nil=>intro _;trivial
 |cons x cs ih=>intro h;exact⟨(h 0 x rfl).toC,ih (λq y hq=>h (q+1) y hq)⟩
theorem Qf{T:Tab}{w:bD}{c:eJ}{args:ay eQ}(hs:yE args=ai)(b7:Ok T (inj args) w c)(h:∀(p:aE) (x:eQ),args[p]? =ah x->∃v,iW T w c (sF p x) v):vU args:=by
 have one:∀(p:aE) (x:eQ),args[p]? =ah x->Qd x:=by
  intro p x h0;have rows:∀xs,((∃g,x= .v g xs)\/x= .pt xs)->∀(j e:aE) (ex:aW) (ys:aU),xs[j]? =ah (AA.ow e ex ys)->uD ys:=λxs hx j e ex ys hj=>KG.fit (b7.obj _ _ (Vh hs h0 hx hj));obtain⟨v,hv⟩:=h p x h0;cases x with
  |v g xs=>
   refine Dp (T:=T) (w:=w) (c:=c) (nm:=dK p 0) (rows xs (.inl ⟨g,rfl⟩)) (λj y hj=> ?_);replace hv:pD T w c g (gf (dK p 0) xs) v:=hv;have E6:(gf (dK p 0) xs)[j]? =ah (kK (dK p 0+j) y):=by rw[ie,hj];rfl
   unfold pD at hv;split at hv
   ·rename_i a he;rw[he]at E6;cases j with
    |zero=>cases E6;exact⟨v,hv⟩
    |succ j=>simp at E6
   ·obtain⟨vals,_,_,hv⟩:=hv;obtain⟨u,_,hu⟩:=hv j _ E6;exact⟨u,hu⟩
   ·exact hv.elim
  |pt xs=>
   have ann:inj args (cR (dK p 900))= .o (.box (gf (dK p 0) xs)):=by
    refine yH (ll.2 ⟨p,_,h0, .inr (hZ.2 (.inl ⟨xs,rfl,by rw[bT],by rw[bT]⟩))⟩) (λc' G_=> ?_);obtain⟨p',a',TG,hh⟩:=ll.1 G_;rw[bT]at hh;rcases hh with ⟨h,_⟩|hh
    ·exact cE h (lK _ _)
    ·rcases hZ.1 hh with ⟨zs,hx,h,rfl⟩|⟨zs,j',e',tc,Ce,oH,E6,h,rfl⟩
     ·obtain⟨rfl,_⟩:=tq (by omega) (by omega) (jw h);rw[h0]at TG;cases TG;cases hx;rfl
     ·exfalso;simp only[yE,aJ,bu]at hs;have h1:=cD (hs.2 a' (aP TG));have h2:mL a'=zs.length:=by rcases oH with ⟨g,rfl⟩|rfl<;>rfl
      have h3:=(aT.1 E6).1;have:=tq (by omega) (by omega) (jw h);omega
   obtain⟨vals,_,_,hc⟩:=b7.obj _ _ ann;refine Dp (T:=T) (w:=w) (c:=c) (nm:=dK p 0) (rows xs (.inr rfl)) (λj y hj=> ?_);obtain⟨u,_,hu⟩:=hc j (kK (dK p 0+j) y) (by rw[ie,hj];rfl);exact⟨u,hu⟩
  |fb xs=>
   obtain⟨b,_,_,hf⟩:∃b,v= .pointer (ah (ad b 0))/\c.K b/\∀(q:aE) (x:CV),xs[q]? =ah x->∃u:bf,w.cell? (ad b q)=ah u/\cT T w c.K u x:=by obtain⟨b,h1,h2,h3⟩:=hv;exact⟨b,h1,h2,h3⟩
   exact Jl (T:=T) (w:=w) (c:=c) (λq x hq=>by obtain⟨u,_,hu⟩:=hf q x hq;exact hu.fit)
 clear h b7 hs;induction args with
 |nil=>trivial
 |cons x args ih=>exact⟨one 0 x rfl,ih (λp y hp=>one (p+1) y hp)⟩
theorem abM{P:cM}{E:fm}(hE:d_ P E)(hF:∀g,k_ P E g (E.call g))(hm:P.follows .mixedOrders=ai){g:aE}{F:Func}{code:Code}(hf:P.funcs[g]? =ah F)(hb:F.body=ah code)
  (hc:((F.name== "runtime.NumGoroutine")|| !sr F.ntmps code)=ak) {spec:ay eQ->aC (aW×dE)} (hs:∀args r,spec args=ah (ai,r)->yE args=ai/\(vU args->args.length<=F.ntmps/\∃(R:Type) (it:It R) (K:Ex->St->aC R) (q:R),(∀c∈jv code,cq E it c)/\sA E it code (inj args) K=ah q/\∀e σ,K e σ=ah q->fin E F args e σ=ah r)):k_ P E g spec:=by
 intro args r hr w c1 vs b7 fH QG;obtain⟨Yq,hs⟩:=hs args r hr;obtain⟨hlen,R,it,K,q,Be,afE,anz⟩:=hs (Qf Yq b7 (λp x hp=>(QG p x hp).imp λ_ h=>h.2));simp only[ij,lY]at hc;refine⟨⟨F,hf,by rw[hb];rfl,hc.1⟩, ?_⟩
 refine calls_of_wp hf hb ?_;refine abG (N:=F.ntmps) (σ0:=inj args) (c0:=c1) (w0:=w) hE hF hm code Be (inj args) K _ afE hc.2 (λe σ' a' w' c' hk fG=> ?_) _ w c1 ⟨b7,⟨λn=> ?_,Hn,rfl⟩, ?_,nO.refl _ _ _,Tl.refl _⟩
 ·obtain⟨he,ha,RL,OL,US,QB⟩:=abL hE fG.ok fG.sl (anz _ _ hk)
  have an6:PF E args r c1 w (BJ (RL.map (·.v))) w':=
   ⟨mM σ' c' RL OL,UJ fG.ok US,fG.gr.trans (MP fG.ok US),MQ US.sm ha fG.ag,P_ US⟩
  rcases he with rfl|rfl<;>exact⟨fG.sl.df,_,QB,an6⟩
 ·rcases Hp (args:=args) (n:=n)with ⟨x,h0,h⟩|h
  ·rw[h];obtain⟨v,hv,wN⟩:=QG n x h0;have:(Act.mk (vs++zG (F.ntmps-vs.size) undef) []).eval (.tmp n)=v:=by show(vs++zG (F.ntmps-vs.size) undef).getD n undef=v;have hn:=(dL.1 hv).1;rw[ej,Array.getElem?_append,bw hn,hv];rfl
   rw[this];exact wN
  ·rw[h];trivial
 ·simp;omega
theorem MT{P:cM}{T:Tab}{g:aE}{spec:ay eQ->aC (aW×dE)}(h:∀args,spec args=aj):k_ P T g spec:=λargs r hr=>by rw[h]at hr;cases hr
end Go.FG

namespace Go.FG
structure o8 where
 t:aE
 ti:TI
 fs:ay (aE×aE)
def zF:ay o8->aE->aC TI
 |[],_=>aj
 |r::rs,t=>bif bn t r.t then ah r.ti else zF rs t
def CC:ay o8->aE->aE->aC (aE×aE)
 |[],_,_=>aj
 |r::rs,t,f=>bif bn t r.t then(bif r.ti.agg then r.fs[f]? else aj)else CC rs t f
def SZ(rows:ay o8)(eqs:ay aE):Tab:={ty:=zF rows,fo:=CC rows,eqs:=eqs}
def zB:Ck->bf->aW
 | .i k, .int k' n=>decide (k'=k)&&decide (n=0)
 | .b, .bool x=> !x
 | .s, .string x=>decide (x.size=0)
 | .l _, .slice aj 0 0=>ai
 | .o, .nilIface=>ai
 |_,_=>ak
def zsB:ay Ck->ay bf->aW
 |[],[]=>ai
 |k::ks,v::vs=>zB k v&&zsB ks vs
 |_,_=>ak
def isAgg:bf->aW| .agg _=>ai|_=>ak
def vS(P:cM)(n:aE):ay Field->ay (aE×aE)->aW
 |[],[]=>ai
 |f::r,(o,m)::l=>bn f.offset o&&(match P.info? f.type with|some i=>bn i.size m|none=>ak)&&pO 0 m&&e9 (o+m) n&&vS P n r l
 |_,_=>ak
def qT:TypeDesc->aW| .struct _=>ak| .array _ _=>ak|_=>ai
def WZ(P:cM)(r:o8):aW:=
 match P.info? r.t,P.underlying r.t with
 |some inf,ah d=>bn inf.size r.ti.ks.length&&bn inf.bytes r.ti.bytes&&pO 0 r.ti.ks.length&&
  (bif JN r.ti.ks then(match inf.zero with|some z=>zsB r.ti.ks z.cells.toList&&(!r.ti.agg||isAgg z)|none=>ak)else ai)&&
  (match d with
  | .struct fs=>r.ti.agg&&vS P r.ti.ks.length fs.toList r.fs
  | .int k=> !r.ti.agg&&pF r.ti.ks [.i k]
  | .bool=> !r.ti.agg&&pF r.ti.ks [.b]
  | .string=> !r.ti.agg&&pF r.ti.ks [.s]
  | .slice e=> !r.ti.agg&&pF r.ti.ks [.l e]
  |d=> !r.ti.agg&&pF r.ti.ks [.o]&&qT d)
 |_,_=>ak
theorem ai8{k:Ck}{v:bf}(h:zB k v=ai):v=im k:=by
 cases k<;>cases v<;>simp_all [zB,im]
 ·rfl
 ·rename_i a n c;cases a<;>cases n<;>cases c<;>simp_all
theorem Tk:∀{ks:ay Ck} {vs:ay bf},zsB ks vs=ai->vs=ks.map im
 |[],[],_=>rfl
 |k::ks,v::vs,h=>by
  simp only[zsB,aJ]at h;rw[ai8 h.1,Tk h.2];rfl
 |[],_::_,h=>by cases h
 |_::_,[],h=>by cases h
theorem abA:∀{x y:Ck},ckB x y=ai->x=y:=by intro x y h;cases x<;>cases y<;>simp_all [ckB]
theorem nc:∀{a b:ay Ck},pF a b=ai->a=b
 |[],[],_=>rfl
 |x::a,y::b,h=>by
  simp only[pF,aJ]at h;rw[abA h.1,nc h.2]
 |[],_::_,h=>by cases h
 |_::_,[],h=>by cases h
theorem uW{P:cM}{n:aE}:∀{fs:ay Field} {l:ay (aE×aE)},vS P n fs l=ai->
  fs.mapM (λf=>(P.info? f.type).map λi=>(f.offset,i.size))=ah l/\∀(f o m:aE),l[f]? =ah (o,m)->∃fd,fs[f]? =ah fd/\fd.offset=o/\(P.info? fd.type).map (·.size)=ah m/\m≠0/\o+m<=n
 |[],[],_=>⟨rfl,λf o m h=>by simp at h⟩
 |f::r,(o,m)::l,h=>by
  simp only[vS,aJ]at h;obtain⟨⟨⟨⟨h1,h2⟩,h3⟩,h4⟩,h5⟩:=h;obtain⟨i1,i2⟩:=uW h5;have e1:=aR h1;cases hi:P.info? f.type with
  |none=>rw[hi]at h2;cases h2
  |some i=>
   rw[hi]at h2;have e2:i.size=m:=aR h2;have e3:0<m:=by simpa [zn]using h3
   have e4:=cD h4;refine⟨by simp[Uj,hi,i1,e1,e2],λg o' m' hg=> ?_⟩
   cases g with
   |zero=>cases hg;exact⟨f,rfl,e1,by rw[hi];exact kX ah e2,by omega,e4⟩
   |succ g=>exact i2 g o' m' hg
 |[],_::_,h=>by cases h
 |_::_,[],h=>by cases h
theorem H7:∀{rows:ay o8} {t:aE} {ti:TI},zF rows t=ah ti->∃r∈rows,r.t=t/\r.ti=ti/\∀f,CC rows t f=(bif r.ti.agg then r.fs[f]? else aj)
 |[],_,_,h=>by cases h
 |r::rs,t,ti,h=>by
  unfold zF at h;cases hb:bn t r.t with
  |true=>rw[hb]at h;cases h;exact⟨r,dA ..,(aR hb).symm,rfl,λf=>by simp[CC,hb]⟩
  |false=>rw[hb]at h;obtain⟨r',h1,h2,h3,h4⟩:=H7 (rows:=rs) h;exact⟨r',cU _ h1,h2,h3,λf=>by unfold CC;rw[hb];exact h4 f⟩
theorem Lc:∀{rows:ay o8} {t f:aE} {o n:aE},CC rows t f=ah (o,n)->∃ti,zF rows t=ah ti/\ti.agg=ai
 |[],_,_,_,_,h=>by cases h
 |r::rs,t,f,o,n,h=>by
  unfold CC at h;unfold zF;cases hb:bn t r.t with
  |true=>
   rw[hb]at h;refine⟨r.ti,rfl, ?_⟩
   cases ha:r.ti.agg with
   |true=>rfl
   |false=>rw[ha]at h;cases h
  |false=>rw[hb]at h;exact Lc (rows:=rs) h
def Fw(P:cM):aE->ay Ck->ay Field->aW
 |_,[],[]=>ai
 |j,k::ks,f::fs=>f.name != "_" &&bn f.offset j&&(match P.underlying f.type,k with|some (.int q), .i q'=>decide (q=q')|some .bool, .b=>ai|some .string, .s=>ai|_,_=>ak)&&Fw P (j+1) ks fs
 |_,_,_=>ak
def X_(P:cM)(rows:ay o8)(t:aE):aW:=
 !P.eqGuardType P.depth t&& !P.stoodInHeld t&&(match zF rows t,P.underlying t with|some ti,ah (.struct fs)=>Fw P 0 ti.ks fs.toList|_,_=>ak)
theorem wu{P:cM}{t:aE}{d:TypeDesc}(hd:P.underlying t=ah d)(hp:qT d=ai){cs:c_ bf}{j:aE}{v:bf}(hj:cs[j]? =ah v)(w:bD):(part t cs j).run P w= .ok v w:=by cases d<;>simp_all [part,Go.isAgg,run_underlying hd,qT]
theorem yV{P:cM}(w:bD):∀(fs:ay Field) (ks:ay Ck) (pre JY xs ys:ay AV) (r:aW),Fw P pre.length ks fs=ai->JY.length=pre.length->xs.map Fh=ks->ys.map Fh=ks->UI xs ys=ah r->
  (Mv 9999 ((pre++xs).map ly).toArray ((JY++ys).map ly).toArray fs).run P w= .ok r w
 |[],[],pre,JY,xs,ys,r,_,_,hx,hy,he=>by
  have:xs=[]:=by simpa using hx
  subst this;have:ys=[]:=by simpa using hy
  subst this;cases he;rfl
 |f::fs,k::ks,pre,JY,x::xs,y::ys,r,h,hl,hx,hy,he=>by
  simp only[Fw,aJ]at h;obtain⟨⟨⟨h1,h2⟩,h3⟩,h4⟩:=h;have h2:=aR h2;have h1:f.name≠ "_" :=by simpa using h1
  simp only[eW,X0]at hx hy;have gx:((pre++x::xs).map ly).toArray[f.offset]? =ah (ly x):=by rw[h2];simp
  have gy:((JY++y::ys).map ly).toArray[f.offset]? =ah (ly y):=by rw[h2,<-hl];simp
  have ih:=λr' he'=>yV w fs ks (pre++[x]) (JY++[y]) xs ys r' (by simpa using h4) (by simp[hl]) hx.2 hy.2 he';simp only[ch,tM]at ih
  have fin:∀{d:TypeDesc} {a b:bf} {q t:aW},P.underlying f.type=ah d->qT d=ai->ly x=a->ly y=b->(Op.equalIn 9999 f.type a b).run P w= .ok q w->UI xs ys=ah t->r=(q&&t)->
    (Mv 9999 ((pre++x::xs).map ly).toArray ((JY++y::ys).map ly).toArray (f::fs)).run P w= .ok r w:=by
   intro d a b q t hd hp ha hb hq ht hr
   subst ha;subst hb;subst hr
   simp only[Mv,bw h1,ca,wu hd hp gx w,wu hd hp gy w,bA,hq,mE]
   cases q with
   |false=>rfl
   |true=>simpa using ih t ht
  cases hu:P.underlying f.type with
  |none=>rw[hu]at h3;cases h3
  |some d=>
   rw[hu]at h3;cases x<;>cases y<;>simp only[UI]at he<;>try (cases he;done)
   ·rename_i k1 n1 k2 n2;split at he
    ·rename_i Qs;subst Qs;split at he
     ·rename_i t ht;cases he;have hk:k= .i k1:=hx.1.symm;subst hk;cases d<;>simp at h3;subst h3;exact fin hu rfl rfl rfl (run_equalIn_int w 9998 f.type _ _ _ _ hu) ht rfl
     ·cases he
    ·cases he
   ·split at he
    ·rename_i t ht;cases he;have hk:k= .b:=hx.1.symm;subst hk;cases d<;>simp at h3;exact fin hu rfl rfl rfl (run_equalIn_bool' w 9998 f.type _ _ hu) ht rfl
    ·cases he
   ·split at he
    ·rename_i t ht;cases he;have hk:k= .s:=hx.1.symm;subst hk;cases d<;>simp at h3;exact fin hu rfl rfl rfl (run_equalIn_string w 9998 f.type _ _ hu) ht rfl
    ·cases he
 |[],_::_,_,_,_,_,_,h,_,_,_,_=>by cases h
 |_::_,[],_,_,_,_,_,h,_,_,_,_=>by cases h
 |_::_,_::_,_,_,[],_,_,_,_,hx,_,_=>by cases hx
 |_::_,_::_,_,_,_::_,[],_,_,_,_,hy,_=>by cases hy
theorem abF{P:cM}{rows:ay o8}{eqs:ay aE}(h:rows.all (WZ P)=ai)(h2:eqs.all (X_ P rows)=ai):d_ P (SZ rows eqs):=by
 have key:∀t ti,zF rows t=ah ti->∃r,r.t=t/\r.ti=ti/\WZ P r=ai/\∀f,CC rows t f=(bif r.ti.agg then r.fs[f]? else aj):=λt ti ht=>by obtain⟨r,h1,h2,h3,h4⟩:=H7 ht;exact⟨r,h2,h3,bu.1 h r h1,h4⟩
 have open_:∀r,WZ P r=ai->∃inf d,P.info? r.t=ah inf/\P.underlying r.t=ah d/\inf.size=r.ti.ks.length/\inf.bytes=r.ti.bytes/\0<r.ti.ks.length/\
   (JN r.ti.ks=ai->∃z,inf.zero=ah z/\z.cells.toList=r.ti.ks.map im/\(r.ti.agg=ai->isAgg z=ai))/\
   ((∃fs,d= .struct fs/\r.ti.agg=ai/\vS P r.ti.ks.length fs.toList r.fs=ai)\/(r.ti.agg=ak/\((∃k,r.ti.ks=[.i k]/\d= .int k)\/(r.ti.ks=[.b]/\d= .bool)\/(r.ti.ks=[.s]/\d= .string)\/(∃e,r.ti.ks=[.l e]/\d= .slice e)\/(r.ti.ks=[.o]/\qT d=ai)))):=by
  intro r hr
  unfold WZ at hr
  split at hr
  ·rename_i inf d h1 h2;simp only[aJ]at hr;obtain⟨⟨⟨⟨k1,k2⟩,k3⟩,k4⟩,k5⟩:=hr;refine⟨inf,d,h1,h2,aR k1,aR k2,by simpa [zn]using k3,λhn=> ?_, ?_⟩
   ·rw[hn,au]at k4;split at k4
    ·rename_i z hz;simp only[aJ,dB,dz]at k4;exact⟨z,hz,Tk k4.1,λha=>by rcases k4.2 with h|h;(·rw[ha]at h;cases h);exact h⟩
    ·cases k4
   ·cases d<;>simp only[aJ,dz]at k5;case struct fs=>exact .inl ⟨fs,rfl,k5⟩
    case int k=>exact .inr ⟨k5.1, .inl ⟨k,nc k5.2,rfl⟩⟩
    case bool=>exact .inr ⟨k5.1, .inr (.inl ⟨nc k5.2,rfl⟩)⟩
    case string=>exact .inr ⟨k5.1, .inr (.inr (.inl ⟨nc k5.2,rfl⟩))⟩
    case slice e=>exact .inr ⟨k5.1, .inr (.inr (.inr (.inl ⟨e,nc k5.2,rfl⟩)))⟩
    all_goals exact .inr ⟨k5.1.1, .inr (.inr (.inr (.inr ⟨nc k5.1.2,k5.2⟩)))⟩
  ·cases hr
 refine⟨λt ti ht=> ?_,λt ti ht=> ?_,λt f o n hf=>Lc hf,λt ti ht ha fs hu=> ?_,λt ti he ht w x y xs ys r hr hx hy=> ?_,λ_ _ h=>by cases h⟩
 ·obtain⟨r,rfl,rfl,hr,_⟩:=key t ti ht;obtain⟨inf,d,h1,h2,h3,h4,h5,h6,h7⟩:=open_ r hr;refine⟨inf,h1,h3,h4,h5,λhn=> ?_⟩
  obtain⟨z,z1,z2,z3⟩:=h6 hn;have hc:z.cells=(r.ti.ks.map im).toArray:=by rw[<-z2]
  refine⟨z,z1,hc,λha=> ?_⟩
  have:=z3 ha;cases z<;>simp[isAgg]at this;rw[show _=_ from hc.symm];rfl
 ·obtain⟨r,rfl,rfl,hr,wK⟩:=key t ti ht;obtain⟨inf,d,h1,h2,h3,h4,h5,h6,h7⟩:=open_ r hr;refine⟨d,h2,λha=> ?_,λha=> ?_⟩
  ·rcases h7 with ⟨fs,rfl,_,hb⟩|⟨hn,_⟩
   ·refine⟨fs,rfl,λf o n hf=> ?_⟩
    have hf:CC rows r.t f=ah (o,n):=hf;rw[wK,ha]at hf;obtain⟨fd,k1,k2⟩:=(uW hb).2 f o n hf;exact⟨fd,by simpa using k1,k2⟩
   ·rw[ha]at hn;cases hn
  ·rcases h7 with ⟨fs,_,hn,_⟩|⟨_,h|h|h|h|⟨h,hb⟩⟩
   ·rw[ha]at hn;cases hn
   ·exact .inl h
   ·exact .inr (.inl h)
   ·exact .inr (.inr (.inl h))
   ·exact .inr (.inr (.inr (.inl h)))
   ·refine .inr (.inr (.inr (.inr ⟨h, ?_⟩)));cases d<;>first|rfl|cases hb
 ·obtain⟨r,rfl,rfl,hr,wK⟩:=key t ti ht;obtain⟨inf,d,h1,h2,h3,h4,h5,h6,h7⟩:=open_ r hr;rw[h2]at hu;cases hu;rcases h7 with ⟨fs',he,_,hb⟩|⟨hn,_⟩
  ·cases he;refine⟨r.fs,(uW hb).1,λf o n hf=> ?_⟩
   have hf:CC rows r.t f=ah (o,n):=hf;rw[wK,ha]at hf;exact hf
  ·rw[ha]at hn;cases hn
 ·have hm:t∈eqs:=by
   have:∀l:ay aE,lX t l=ai->t∈l:=by
    intro l;induction l with
    |nil=>intro h;cases h
    |cons a l ih=>
     intro h;simp only[lX,dB]at h;rcases h with h|h
     ·rw[aR h];exact dA
     ·exact cU _ (ih h)
   exact this _ he
  have hb:=bu.1 h2 t hm;simp only[X_,aJ,dz]at hb;obtain⟨⟨b1,b2⟩,b3⟩:=hb;rw[show zF rows t=ah ti from ht]at b3;cases hu:P.underlying t with
  |none=>rw[hu]at b3;cases b3
  |some d=>
   rw[hu]at b3;cases d<;>try (cases b3;done)
   rename_i fs;have wK:P.fieldsOf t=fs:=by unfold Program.fieldsOf;rw[hu]
   have rA:P.underlying t=ah (.struct (P.fieldsOf t)):=by rw[wK];exact hu
   have key:(Op.equalIn 10000 t (.agg (xs.map ly).toArray) (.agg (ys.map ly).toArray)).run P w= .ok r w:=by rw[run_equalIn_agg w 9999 t _ _ rA b2,wK];exact yV w fs.toList ti.ks [] [] xs ys r b3 rfl hx hy hr
   refine⟨?_, ?_⟩
   ·simp only[ca,run_eqGuard_agg w .eql t x y _ _ b1,bA,run_eql_struct,key]
   ·simp only[ca,run_eqGuard_agg w .neq t x y _ _ b1,bA,run_neq_struct,key]
def aiL(rows:ay o8)(eqs:ay aE)(Qg:ay (aE×aE)):Tab:={SZ rows eqs with Qg:=λt f=>Qg.any λp=>bn t p.1&&bn f p.2}
def flB(P:cM)(p:aE×aE):aW:=
 match P.underlying p.1 with
 |some (.struct fs)=>(match fs[p.2]? with|some fd=>(match P.underlying fd.type with|some d=>qT d|none=>ak)|none=>ak)
 |_=>ak
theorem abl{P:cM}{t:aE}{d:TypeDesc}(h:P.underlying t=ah d)(hb:qT d=ai)(w:bD):(Go.isAgg t).run P w= .ok ak w:=by unfold Go.isAgg;rw[ca,run_underlying h,bA];cases d<;>first|rfl|cases hb
theorem UG{P:cM}{rows:ay o8}{eqs:ay aE}{Qg:ay (aE×aE)}(h:d_ P (SZ rows eqs))(hf:Qg.all (flB P)=ai):d_ P (aiL rows eqs Qg):=by
 refine⟨h.info,h.desc,h.fo,h.pl,h.eq,λt f hq fs fd hu hd w=> ?_⟩
 obtain⟨p,hp,he⟩:=List.any_eq_true.1 (show(Qg.any λp=>bn t p.1&&bn f p.2)=ai from hq);rw[aJ]at he;have hb:=bu.1 hf p hp;unfold flB at hb;rw[<-aR he.1,<-aR he.2,hu]at hb;dsimp only at hb;rw[hd]at hb;dsimp only at hb;split at hb
 ·rename_i d h2;exact abl h2 hb w
 ·cases hb
end Go.FG

