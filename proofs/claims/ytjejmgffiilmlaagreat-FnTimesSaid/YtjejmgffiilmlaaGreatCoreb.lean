/- An evaluator for the part of the language that this program uses, proved sound over the model: states told as values and lists; what an evaluation tells, the call does. No condition. -/
import Derived.Calls
import Derived.Orders
import Derived.Below
import Derived.Laws.AppendOwn
import Derived.Laws.Slices
import Derived.Laws.StructEq
import Derived.Laws.Tables
import Derived.Laws.MakeOwn
import Derived.Laws.IdiomStrings
import Derived.Laws.BytesArg
import Derived.Laws.NewFold
import Derived.SizedLaws
import Derived.Carry
import Derived.ProofKit
import Derived.KernelRfl
import Derived.Laws.Strings
import Derived.Test.YtjejmgffiilmlaaGreatCorea
set_option linter.unusedVariables false
set_option linter.unusedSimpArgs false
set_option maxRecDepth 100000
open Array renaming ext'->qG,length_toList->dp,getElem?_toList->cC,getElem?_eq_some_iff->dF,getElem?_extract->dL,getElem?_map->KJ,getElem?_append_left->A8,toList_map->xQ,eq_empty_of_size_eq_zero->xP,getD_eq_getD_getElem?->dX,getElem?_replicate->BL,replicate->yx
open Bool renaming true->ai,false->ak,and_eq_true->aF,and_true->qT,false_eq_true->cU,not_eq_true'->dt,not_eq_false'->lz,or_eq_true->dv,and_false->Ey,not_false->bS,true_or->xR,or_eq_false_iff->gL
open Go renaming Program->cL,World->bB,Oper->eJ,Value->a_,IntKind->l_,Operand->c5
open Go.Act renaming put->Rc
open Go.Builtin renaming firstCells->fY,lenOf->sa,append_->kg,zeroCells->fE
open Go.Exit renaming inBlock->EB
open Go.Instr renaming makeFunc->Re,loadAt->vT,sureAddr->sN
open Go.IntKind renaming u8->bc
open Go.Op renaming eqFields->KM
open Go.Oper renaming wp->KN,upon_enter->Rf
open Go.Region renaming wanted->s6,binds->lB,ready->uq
open Go.Result renaming andThen_ok->bn
open Go.Sem renaming run_bind->b8,run_pure->cB,run->nA,run_ite->lW
open List renaming map_append->c8,map_cons->eK,map_nil->zm,mem_append->aZ,mem_map->cO,mem_singleton->aY,mem_append_left->bR,mem_append_right->bH,getElem?_append_left->dB,getElem?_append_right->cW,length_append->bX,eq_nil_of_length_eq_zero->fa,mem_of_getElem?->aP,length_map->bP,getElem?_eq_some_iff->aT,mem_cons->cq,getElem?_of_mem->bV,getElem_mem->bD,map_toArray->Bc,mem_cons_self->du,mem_cons_of_mem->cM,not_mem_nil->qJ,getElem?_cons_succ->dy,mem_flatMap->bA,length_eq_one_iff->f_,getElem?_cons_zero->qI,flatMap_cons->vV,nodup_append->dV,getElem?_map->bz,nodup_cons->jC,getD_eq_getElem?_getD->cD,nil_append->fF,all_eq_true->bj,map_map->kT,append_nil->dH,cons_append->zk,length_singleton->bQ,head?_drop->VP,range'->mv,length_cons->cS,getElem?_eq_none->jQ,append_assoc->cf,take_length->gE,singleton_append->sQ,length_nil->iT,getElem?_take->d_,countP_cons->kh,range->cz,find?_eq_none->o7,length_set->c7,mem_or_eq_of_mem_set->ly,mem_filter->dh,mapM_cons->R9,getD_cons_succ->tw
open List.cons renaming injEq->VO
open Nat renaming lt_of_lt_of_le->gF,mul_le_mul_right->cN,add_mul->dK,add_assoc->sb,eq_of_beq_eq_true->aQ,le_refl->cm,zero_le->bm,div_lt_iff_lt_mul->Ml,mod_lt->EE,mul_comm->KP,zero_add->bO,add_comm->il,beq->bh,le_of_ble_eq_true->cu,add_zero->uf,blt->o0,blt_eq->xU,sub_self->YY,lt_or_ge->pF,le_trans->cZ,ble_eq_true_of_le->GQ,ble->eL
open Option renaming some->ah,none->aj,getD_some->vW
open Option.some renaming inj->aD,injEq->iM
open Prod.mk renaming inj->bN,injEq->iw
open _root_ renaming Nat->aE,Bool->aW,List->ax,if_pos->bu,if_neg->bJ,absurd->cw,Array->c_,Int->az,decide_eq_true_eq->ba,Option->aA,cond_true->ay,cond_false->aC,decide_eq_true->aG,decide_eq_false->aK,of_decide_eq_true->cg,congrArg->kl
namespace Go.FG
section
variable {P:cL} {E:eP} {σ:St} {a:Act} {w:bB} {c:eB} {o:eJ} {nm:aE} {e:qU}
structure GK (E:eP) (σ:St) (w:bB) (c:eB) (te:TI) (v:a_) (A1:aW) (xs:aU) (b:ax aE) (p:Pl) (g:aE->aE->Pl):Prop where
 v:v=mf p
 sz:p.sz=te.ks.length
 sh:∀y∈xs,y.map CV.kd=te.ks
 at_:im w p xs (λi j u x=>if A1=ai then XC E w g i j u x else cQ E w c.K u x)
 inn:A1=ai->CW p g xs
 own:p.nil=ak->∃nm ob,nm∈b/\σ (cK nm)= .o ob/\eN c nm ob p.blk
 owni:A1=ai->∀i j,fD xs i j->(g i j).nil=ak->∃nm ob,nm∈b/\σ (cK nm)= .o ob/\eN c nm ob (g i j).blk
 kn:∀nm∈b,∃ob,σ (cK nm)= .o ob
def K1(σ:St)(c:eB)(D:ax (aE×Obj))(q:aE):Prop:=c.K q\/∃n e xs ob,(n,Obj.eZ e xs)∈D/\σ (cK n)= .o ob/\eN c n ob q
structure pS (E:eP) (σ:St) (w:bB) (c:eB) (te:TI) (b:ax aE) (yu:aW) (ys:aU) (D:ax (aE×Obj)) (news:ax a_) (gx:aE->aE->Pl):Prop where
 sh:∀y∈ys,y.map CV.kd=te.ks
 cellX:yu=ai->∀(i:aE) (y:ax CV) (j:aE) (x:CV),ys[i]? =ah y->y[j]? =ah x->∃u:a_,news[i*te.ks.length+j]? =ah u/\XC E w gx i j u x
 cellH:yu=ak->∀(i:aE) (y:ax CV) (j:aE) (x:CV),ys[i]? =ah y->y[j]? =ah x->∃u:a_,news[i*te.ks.length+j]? =ah u/\cQ E w (K1 σ c D) u x
 own:yu=ai->∀i j,fD ys i j->(gx i j).nil=ak->∃n ob,(n,Obj.dead)∈D/\σ (cK n)= .o ob/\eN c n ob (gx i j).blk
 one:yu=ai->∀i j i' j',fD ys i j->fD ys i' j'->(gx i j).nil=ak->(gx i' j').nil=ak->(gx i j).blk=(gx i' j').blk->i=i'/\j=j'
 D:∀n x,(n,x)∈D->n∉b/\(∃ob,σ (cK n)= .o ob)/\(x= .dead\/(yu=ak/\∃e xs,x= .eZ e xs/\cQ E w (K1 σ c D) (mf (c.P n)) (.l e xs)/\(c.P n).n=xs.length/\∃ti,E.ty e=ah ti/\(c.P n).sz=ti.ks.length))
theorem Cm(b7:Ok E σ w c)(di:eG E σ a w c)(hd:∀d,o.dst=ah d->d<a.tmps.size){rN el:aE}{te:TI}(ht:E.ty el=ah te)(hf:σ (cK rN)= .iU)(ji:rN<900000000)
  {v:a_} {A1 yu:aW} {xs ys:aU} {b:ax aE} {p p':Pl} {g gx:aE->aE->Pl} {D2:ax (aE×Obj)} {news:ax a_} {w':bB}
  (hB:GK E σ w c te v A1 xs b p g) (hM:pS E σ w c te b yu ys D2 news gx) (hA:Yp w w' p p' ys.length news) (hr:(execOp a.eval o).run P w= .ok (.value (mf p')) w'):
  fT P E σ a w c o (m7 b++(jq D2++[(cK rN,dY.o (.row el (A1&&yu) (xs++ys)))])++dw o (.v ak [.own rN])):=by
 have ZP:(A1&&yu)=ai->A1=ai/\yu=true:=λh=>by simpa using h
 generalize ZO:(A1&&yu)=K3 at ZP;let D:ax (aE×Obj):=B_ b++(D2++[(rN, .row el K3 (xs++ys))])
 have hD:m7 b++(jq D2++[(cK rN,dY.o (.row el K3 (xs++ys)))])=jq D:=by rw[zJ];simp only[D,jq,c8,eK,zm]
 rw[hD];have mem:∀m x,(m,x)∈D->(m∈b/\x= .dead)\/(m,x)∈D2\/(m=rN/\x= .row el K3 (xs++ys)):=by
  intro m x hm;rcases aZ.1 hm with hm|hm
  ·obtain⟨q,hq,h⟩:=cO.1 hm;cases h;exact .inl ⟨hq,rfl⟩
  ·rcases aZ.1 hm with hm|hm
   ·exact .inr (.inl hm)
   ·rw[aY]at hm;cases hm;exact .inr (.inr ⟨rfl,rfl⟩)
 have JG:∀m,m∈b->sM D m:=λm hm=>⟨.dead,bR _ (cO.2 ⟨m,hm,rfl⟩)⟩
 have On:∀m x,(m,x)∈D2->sM D m:=λm x hm=>⟨x,bH _ (bR _ hm)⟩
 have adh:sM D rN:=⟨_,bH _ (bH _ (aY.2 rfl))⟩
 have F1:p'.nil=ak->p'.blk=w.heap.size\/∃m ob,m∈b/\σ (cK m)= .o ob/\eN c m ob p'.blk:=by
  intro hn;rcases hA.blk hn with ⟨h1,h2⟩|h
  ·rw[h2];exact .inr (hB.own h1)
  ·exact .inl h
 have Dne:∀n x ob q,(n,x)∈D2->σ (cK n)= .o ob->eN c n ob q->¬(p'.nil=ak/\q=p'.blk):=by
  rintro n x ob q hx mg ot ⟨hn,rfl⟩;have Te:=vH.lt b7 ⟨n,ob,mg,ot⟩;rcases F1 hn with h|⟨m,ob',h1,h2,h3⟩
  ·omega
  ·have:=b7.sep n ob m ob' _ mg h2 ot h3;subst this;exact(hM.D n x hx).1 h1
 have Kne:∀q,c.K q->¬(p'.nil=ak/\q=p'.blk):=by
  rintro q hq ⟨hn,rfl⟩;have Te:=b7.lt _ hq;rcases F1 hn with h|⟨m,ob',h1,h2,h3⟩
  ·omega
  ·exact b7.kk m ob' _ h2 h3 hq
 have Gne:A1=ai->∀i j,fD xs i j->(g i j).nil=ak->¬(p'.nil=ak/\(g i j).blk=p'.blk):=by
  rintro hx i j hh hn ⟨jG,he⟩;obtain⟨m,ob,q1,q2,q3⟩:=hB.owni hx i j hh hn;have Te:=vH.lt b7 ⟨m,ob,q2,q3⟩;rcases hA.blk jG with ⟨h1,h2⟩|h
  ·exact(hB.inn hx).out i j hh hn h1 (he.trans h2)
  ·omega
 let K':aE->Prop:=λq=>c.K q\/(K3=ak/\jf (sM D) σ c q/\¬(p'.nil=ak/\q=p'.blk))
 have acQ:∀q,K' q->q<w.heap.size:=by
  rintro q (h|⟨_,h,_⟩)
  ·exact b7.lt q h
  ·exact vH.lt b7 h.own
 have acR:∀q,K' q->¬(p'.nil=ak/\q=p'.blk):=by
  rintro q (h|⟨_,_,h⟩)
  ·exact Kne q h
  ·exact h
 have F3:∀q,K' q->w'.heap[q]? =w.heap[q]? :=λq hq=>hA.old q (acQ q hq) (λhn he=>acR q hq ⟨hn,he⟩);have F4:K3=ak->∀q,K1 σ c D2 q->K' q:=by
  rintro hR q (h|⟨n,e',zs,ob,h1,h2,h3⟩)
  ·exact .inl h
  ·exact .inr ⟨hR,⟨n,ob,On n _ h1,h2,h3⟩,Dne n _ ob q h1 h2 h3⟩
 have F5:K3=ak->A1=ai->∀i j,fD xs i j->(g i j).nil=ak->K' (g i j).blk:=by intro hR hx i j hh hn;obtain⟨m,ob,q1,q2,q3⟩:=hB.owni hx i j hh hn;exact .inr ⟨hR,⟨m,ob,JG m q1,q2,q3⟩,Gne hx i j hh hn⟩
 have F6:K3=ak->yu=ai->∀i j,fD ys i j->(gx i j).nil=ak->K' (gx i j).blk:=by intro hR hx i j hh hn;obtain⟨n,ob,q1,q2,q3⟩:=hM.own hx i j hh hn;exact .inr ⟨hR,⟨n,ob,On n _ q1,q2,q3⟩,Dne n _ ob _ q1 q2 q3⟩
 let G':aE->aE->Pl:=λi j=>if i<xs.length then g i j else gx (i-xs.length) j
 have G'l:∀i j,i<xs.length->G' i j=g i j:=λi j h=>bu h;have G'r:∀i j,¬i<xs.length->G' i j=gx (i-xs.length) j:=λi j h=>bJ h;have OJ:∀i j,i<xs.length->fD (xs++ys) i j->fD xs i j:=by rintro i j hi ⟨y,x,h1,h2,h3⟩;rw[dB hi]at h1;exact⟨y,x,h1,h2,h3⟩
 have Tv:∀i j,¬i<xs.length->fD (xs++ys) i j->fD ys (i-xs.length) j:=by rintro i j hi ⟨y,x,h1,h2,h3⟩;rw[cW (by omega)]at h1;exact⟨y,x,h1,h2,h3⟩
 let c':eB:=⟨λm=>if m=rN then p' else c.P m,λm=>if m=rN then G' else c.G m,K'⟩
 have hP:c'.P rN=p':=bu rfl;have hG:c'.G rN=G':=bu rfl;have hAg:iN σ c c':=λm hm=>by
  have:m≠rN:=by rintro rfl;rcases hm with h|h;exact h hf;omega
  exact⟨bJ this,bJ this⟩
 have adW:K3=ai->∀i j,fD (xs++ys) i j->(G' i j).nil=ak->¬(p'.nil=ak/\(G' i j).blk=p'.blk)/\jf (sM D) σ c (G' i j).blk:=by
  intro hR i j hh hn;obtain⟨r1,r2⟩:=ZP hR;by_cases hi:i<xs.length
  ·rw[G'l i j hi]at hn⊢;obtain⟨m,ob,q1,q2,q3⟩:=hB.owni r1 i j (OJ i j hi hh) hn;exact⟨Gne r1 i j (OJ i j hi hh) hn,m,ob,JG m q1,q2,q3⟩
  ·rw[G'r i j hi]at hn⊢;obtain⟨n,ob,q1,q2,q3⟩:=hM.own r2 _ j (Tv i j hi hh) hn;exact⟨Dne n _ ob _ q1 q2 q3,n,ob,On n _ q1,q2,q3⟩
 have hlen:∀y∈xs++ys,y.map CV.kd=te.ks:=λy hy=>(aZ.1 hy).elim (hB.sh y) (hM.sh y);refine Ht b7 di hd (D:=D) (c':=c') (w':=w') hAg ?_ ?_ ?_ ?_ (λq h=> .inl h) ?_ (λq hq=>gF (acQ q hq) hA.size) ?_ hA.size hA.os hA.tape hA.output ?_ ?_ hr
 ·intro m x hm;rcases mem m x hm with ⟨_,rfl⟩|S8|⟨rfl,rfl⟩
  ·trivial
  ·obtain⟨_,⟨ob,mg⟩,hx⟩:=hM.D m x S8;rcases hx with rfl|⟨Ls,e',zs,rfl,q1,q2,q3⟩
   ·trivial
   ·have hR:K3=false:=by rw[<-ZO,Ls];simp
    obtain⟨a1,a2⟩:=hAg m (.inl (by rw[mg];simp));show cQ E w' K' (mf (c'.P m)) _/\(c'.P m).n=_/\_;rw[a1];exact⟨q1.frame (λq hq=>F3 q (F4 hR q hq)) (F4 hR),q2,q3⟩
  ·refine⟨⟨te,ht,by rw[hP,hA.sz];exact hB.sz,hlen⟩, ?_,λhR=> ?_⟩
   ·rw[hP,hG];refine⟨by rw[hA.n,hB.at_.n,bX],λhn=> ?_,λhn=> ?_⟩
    ·obtain⟨n1,n2,n3⟩:=hA.nil hn;refine⟨?_,n1⟩
     have e1:xs.length=0:=by rw[<-hB.at_.n];exact n2
     rw[fa e1,fa n3];rfl
    ·obtain⟨jv,m1,m2,m3,m4,m5,m6⟩:=hA.mem hn;refine⟨jv,m1,m2,m3,m4,λi y j x hy hx=> ?_⟩
     have hj:j<te.ks.length:=by rw[<-hlen y (aP hy),bP];exact(aT.1 hx).1
     by_cases hi:i<xs.length
     ·rw[dB hi]at hy;have hpn:p.nil=false:=by
       cases hq:p.nil with
       |false=>rfl
       |true=>have:=(hB.at_.nil hq).1;subst this;simp at hi
      obtain⟨vals,k1,k2,k3,k4,k5⟩:=hB.at_.mem hpn;obtain⟨u,hu,hR⟩:=k5 i y j x hy hx;have hk:i*p.sz+j<p.n*p.sz:=by have:(i+1)*p.sz<=p.n*p.sz:=cN _ (by rw[hB.at_.n];exact hi);rw[dK]at this;rw[hB.sz]at this⊢;omega
      refine⟨u, ?_, ?_⟩
      ·rw[hA.sz,sb];refine m5 _ u hk ?_;rw[k1.cell,<-sb];exact hu
      ·cases Z_:A1 with
       |true=>
        rw[Z_,bu rfl]at hR;cases Tn:K3 with
        |true=>
         rw[bu rfl];have RC:XC E w' g i j u x:=hR.frame (λhl jG=>hA.old _ (by obtain⟨m,ob,_,q2,q3⟩:=hB.owni Z_ i j ⟨y,x,hy,hx,hl⟩ jG;exact vH.lt b7 ⟨m,ob,q2,q3⟩) (λZ1 he=>Gne Z_ i j ⟨y,x,hy,hx,hl⟩ jG ⟨Z1,he⟩));cases x with
         |l e1 z1=>simpa only[XC,G'l i j hi]using RC
         |_=>exact RC
        |false=>rw[bJ (by simp)];have:=rZ (K:=K') hR (λhl jG=>F5 Tn Z_ i j ⟨y,x,hy,hx,hl⟩ jG);exact this.frame F3 (λ_ h=>h)
       |false=>
        have Tn:K3=false:=by rw[<-ZO,Z_];rfl
        rw[Z_,bJ (by simp)]at hR;rw[Tn,bJ (by simp)];exact hR.frame (λq hq=>F3 q (.inl hq)) (λq hq=> .inl hq)
     ·rw[cW (by omega)]at hy;have GD:i-xs.length<ys.length:=(aT.1 hy).1;have hk:(i-xs.length)*p.sz+j<ys.length*p.sz:=by have:(i-xs.length+1)*p.sz<=ys.length*p.sz:=cN _ GD;rw[dK]at this;rw[hB.sz]at this⊢;omega
      have ak_:p'.off+i*p'.sz+j=p'.off+p.n*p.sz+((i-xs.length)*p.sz+j):=by
       rw[hA.sz,hB.at_.n];have:i*p.sz=xs.length*p.sz+(i-xs.length)*p.sz:=by rw[<-dK];congr 1;omega
       omega
      have got:∀u,news[(i-xs.length)*te.ks.length+j]? =ah u->jv[p'.off+i*p'.sz+j]? =ah u:=λu hu=>by rw[ak_,m6 _ hk,hB.sz];exact hu
      cases Ls:yu with
      |true=>
       obtain⟨u,hu,hX⟩:=hM.cellX Ls _ y j x hy hx;refine⟨u,got u hu, ?_⟩
       cases Tn:K3 with
       |true=>
        rw[bu rfl];have RC:XC E w' gx (i-xs.length) j u x:=hX.frame (λhl jG=>hA.old _ (by obtain⟨n,ob,_,q2,q3⟩:=hM.own Ls _ j ⟨y,x,hy,hx,hl⟩ jG;exact vH.lt b7 ⟨n,ob,q2,q3⟩) (λZ1 he=>by obtain⟨n,ob,q1,q2,q3⟩:=hM.own Ls _ j ⟨y,x,hy,hx,hl⟩ jG;exact Dne n _ ob _ q1 q2 q3 ⟨Z1,he⟩));cases x with
        |l e1 z1=>simpa only[XC,G'r i j hi]using RC
        |_=>exact RC
       |false=>rw[bJ (by simp)];have:=rZ (K:=K') hX (λhl jG=>F6 Tn Ls _ j ⟨y,x,hy,hx,hl⟩ jG);exact this.frame F3 (λ_ h=>h)
      |false=>
       have Tn:K3=false:=by rw[<-ZO,Ls];simp
       obtain⟨u,hu,hH⟩:=hM.cellH Ls _ y j x hy hx;refine⟨u,got u hu, ?_⟩
       rw[Tn,bJ (by simp)];exact hH.frame (λq hq=>F3 q (F4 Tn q hq)) (F4 Tn)
   ·rw[hP,hG];refine⟨λi j hh hn hpn he=>(adW hR i j hh hn).1 ⟨hpn,he⟩,λi j i' j' hh ug hn jG he=> ?_⟩
    obtain⟨r1,r2⟩:=ZP hR;have VZ:∀i j i' j',i<xs.length->¬i'<xs.length->fD (xs++ys) i j->fD (xs++ys) i' j'->(G' i j).nil=ak->(G' i' j').nil=ak->(G' i j).blk≠(G' i' j').blk:=by intro i j i' j' hi km hh ug hn jG he;rw[G'l i j hi]at hn he;rw[G'r i' j' km]at jG he;obtain⟨m,ob,q1,q2,q3⟩:=hB.owni r1 i j (OJ i j hi hh) hn;obtain⟨n,ob',s1,s2,s3⟩:=hM.own r2 _ j' (Tv i' j' km ug) jG;rw[he]at q3;have:=b7.sep m ob n ob' _ q2 s2 q3 s3;subst this;exact(hM.D m _ s1).1 q1
    by_cases hi:i<xs.length
    ·by_cases km:i'<xs.length
     ·rw[G'l i j hi]at hn he;rw[G'l i' j' km]at jG he;exact(hB.inn r1).one i j i' j' (OJ i j hi hh) (OJ i' j' km ug) hn jG he
     ·exact cw he (VZ i j i' j' hi km hh ug hn jG)
    ·by_cases km:i'<xs.length
     ·exact cw he.symm (VZ i' j' i j km hi ug hh jG hn)
     ·rw[G'r i j hi]at hn he;rw[G'r i' j' km]at jG he;have:=hM.one r2 _ j _ j' (Tv i j hi hh) (Tv i' j' km ug) hn jG he;exact⟨by omega,this.2⟩
 ·intro m x q hm ot;rcases mem m x hm with ⟨_,rfl⟩|S8|⟨rfl,rfl⟩
  ·exact ot.elim
  ·obtain⟨_,_,hx⟩:=hM.D m x S8;rcases hx with rfl|⟨_,e',zs,rfl,_⟩
   ·exact ot.elim
   ·exact ot.elim
  ·rcases ot with ⟨hn,rfl⟩|⟨hR,i,j,hh,hn,rfl⟩
   ·rw[hP]at hn⊢;refine⟨?_,λhk=>acR _ hk ⟨hn,rfl⟩⟩
    rcases F1 hn with h|⟨m,ob,h1,h2,h3⟩
    ·right;omega
    ·exact .inl ⟨m,ob,JG m h1,h2,h3⟩
   ·rw[hG]at hn⊢;obtain⟨q1,q2⟩:=adW hR i j hh hn;refine⟨.inl q2, ?_⟩
    rintro (h|⟨h,_⟩)
    ·exact b7.HQ q2.own h
    ·rw[hR]at h;cases h
 ·intro m x m' x' q hm uQ ot Ot;have only:∀m x,(m,x)∈D->eN c' m x q->m=rN:=by
   intro m x hm ot;rcases mem m x hm with ⟨_,rfl⟩|S8|⟨rfl,rfl⟩
   ·exact ot.elim
   ·obtain⟨_,_,hx⟩:=hM.D m x S8;rcases hx with rfl|⟨_,e',zs,rfl,_⟩
    ·exact ot.elim
    ·exact ot.elim
   ·rfl
  rw[only m x hm ot,only m' x' uQ Ot]
 ·intro m zs hm;rcases mem m _ hm with ⟨_,h⟩|S8|⟨_,h⟩
  ·cases h
  ·obtain⟨_,_,hx⟩:=hM.D m _ S8;rcases hx with h|⟨_,e',zs,h,_⟩<;>cases h
  ·cases h
 ·rintro q (h|⟨_,h,_⟩)
  ·exact .inl h
  ·exact .inr (.inl h)
 ·intro q hq Ov;refine hA.old q hq (λhn he=>Ov ?_);rcases F1 hn with h|⟨m,ob,h1,h2,h3⟩
  ·omega
  ·rw[he];exact⟨m,ob,JG m h1,h2,h3⟩
 ·show _=mf (c'.P rN);rw[hP]
 ·intro m hm;have:m=rN:=by simpa [ch,bw]using hm
  subst this;exact .inr adh
end
end Go.FG

namespace Go.FG
theorem FJ:∀{l:ax aE} {n:aE},n∈l->lx n l=true:=by
 intro l;induction l with
 |nil=>intro n h;cases h
 |cons m r ih=>
  intro n h;rcases cq.1 h with rfl|h
  ·simp[lx]
  ·simp only[lx,ih h,Bool.or_true]
theorem oS{l:ax aE}{n:aE}(h:lx n l=ak):n∉l:=λhm=>by rw[FJ hm]at h;cases h
theorem cQ.one{E:eP}{w:bB}{K:aE->Prop}{u:a_}{x:CV}(h:cQ E w K u x):u.oneCell'=true:=by cases h<;>rfl
theorem S5(p:Pl):(mf p).oneCell'=true:=by unfold mf;split<;>rfl
theorem XC.one{E:eP}{w:bB}{G:aE->aE->Pl}{i j:aE}{u:a_}{x:CV}(h:XC E w G i j u x):u.oneCell'=true:=by
 cases x with
 |l e ys=>rw[h.1];exact S5 _
 |i=>rw[show u=_ from h.1];rfl
 |b=>rw[show u=_ from h.1];rfl
 |s=>rw[show u=_ from h.1];rfl
theorem Qi{x:CV}:(L8 x).oneCell'=true:=by cases x<;>rfl
theorem uF{α:Type}{b:aW}{x y:Rd α}(h:b=ai):(bif b then x else y)=x:=by rw[h];rfl
theorem B8{α:Type}{b:aW}{x y:Rd α}(h:b=ak):(bif b then x else y)=y:=by rw[h];rfl
theorem qQ{α β γ:Type}{σ:St}{a x:α}{b y:β}{c z:γ}(h:(Rd.ret (a,b,c)).val σ=ah (x,y,z)):a=x/\b=y/\c=z:=by obtain⟨h1,h2⟩:=bN (aD h);obtain⟨h2,h3⟩:=bN h2;exact⟨h1,h2,h3⟩
section
variable {P:cL} {E:eP} {σ:St} {a:Act} {w:bB} {c:eB} {o:eJ} {nm:aE} {e:qU}
theorem zD(b7:Ok E σ w c){el:aE}{te:TI}(ht:E.ty el=ah te){s:AV}{v:a_}(hs:dP E w c s v){A1:aW}{xs:aU}{b:ax aE}(h:(uE el s).val σ=ah (A1,xs,b)):
  ∃p g,GK E σ w c te v A1 xs b p g:=by
 have aej:∀b,(∀m∈b,∃ob,σ (cK m)= .o ob)->v= .slice aj 0 0->∀A1,GK E σ w c te v A1 [] b ⟨ai,0,0,0,0,te.ks.length⟩ (HN E te.ks):=λb hb hv A1=>
  ⟨hv,rfl,λy hy=>(by cases hy),⟨rfl,λ_=>⟨rfl,rfl⟩,λh=>(by cases h)⟩,λ_=>tQ (λ_ _=>rfl),λh=>(by cases h),λ_ i j ⟨y,x,h,_⟩=>(by simp at h),hb⟩
 cases s with
 |nl=>obtain⟨rfl,rfl,rfl⟩:=qQ h;exact⟨_,_,aej [] (λm hm=>by cases hm) hs ai⟩
 |own n=>
  obtain⟨ob,hg,h⟩:=Rd.bind_some h;have hg:=cY hg;cases ob with
  |row e' ex ys=>obtain⟨h1,h9⟩:=cj h;have:=aQ h1;subst this;have h:=h9;obtain⟨rfl,rfl,rfl⟩:=qQ h;obtain⟨⟨t2,q1,q2,q3⟩,q4,q5⟩:=b7.obj n _ hg;obtain rfl:te=t2:=aD (ht.symm.trans q1);exact⟨c.P n,c.G n,hs,q2,q3,q4,q5,λhn=>⟨n,_,by simp,hg, .inl ⟨hn,rfl⟩⟩,λhx i j hh hn=>⟨n,_,by simp,hg, .inr ⟨hx,i,j,hh,hn,rfl⟩⟩,λm hm=>by rw[aY]at hm;subst hm;exact⟨_,hg⟩⟩
  |_=>simp at h
 |vw n lo hi=>
  obtain⟨ob,hg,h⟩:=Rd.bind_some h;have hg:=cY hg;cases ob with
  |row e' ex ys=>
   obtain⟨h1,h9⟩:=cj h;have:=aQ h1;subst this;have h:=h9;obtain⟨rfl,rfl,rfl⟩:=qQ h;obtain⟨⟨t2,q1,q2,q3⟩,q4,q5⟩:=b7.obj n _ hg;obtain rfl:te=t2:=aD (ht.symm.trans q1);obtain⟨v1,v2,v3,v4⟩:=hs;have hle:hi<=ys.length:=by rw[<-q4.n];exact v2
   have hvl:=ld (xs:=ys) (lo:=lo) hle;have hb:∀m∈[n],∃ob,σ (cK m)= .o ob:=λm hm=>by rw[aY]at hm;subst hm;exact⟨_,hg⟩
   cases hq:(c.P n).nil with
   |true=>
    have hy:=(q4.nil hq).1;subst hy;have Mw:dW ([]:aU) lo hi=[]:=by unfold dW;simp
    rw[Mw];exact⟨_,_,aej [n] hb (v3 hq) ex⟩
   |false=>
    obtain⟨vals,k1,k2,k3,k4,k5⟩:=q4.mem hq;rcases v4 hq with ⟨u1,hv⟩|⟨u1,oo,u2,hv⟩
    ·have Tt:∀i j,fD (dW ys lo hi) i j->fD ys (lo+i) j:=by
      rintro i j ⟨y,x,h1,h2,h3⟩;rw[rW]at h1;split at h1
      ·exact⟨y,x,h1,h2,h3⟩
      ·cases h1
     refine⟨⟨ak,(c.P n).blk,(c.P n).off+lo*(c.P n).sz,(c.P n).cap-lo,hi-lo,(c.P n).sz⟩,λi j=>c.G n (lo+i) j,hv,q2,λy hy=>q3 y (Af hy),⟨hvl.symm,λh=>(by cases h),λ_=>⟨vals,k1,by show hi-lo<=(c.P n).cap-lo;omega,by show(c.P n).cap-lo<=maxLen;omega, ?_,λi y j x h1 h2=> ?_⟩⟩,λhx=>⟨λi j hh hn _=>(q5 hx).out _ j (Tt i j hh) hn hq,λi j i' j' hh ug hn jG he=> ?_⟩,λ_=>⟨n,_,by simp,hg, .inl ⟨hq,rfl⟩⟩,λhx i j hh hn=>⟨n,_,by simp,hg, .inr ⟨hx,lo+i,j,Tt i j hh,hn,rfl⟩⟩,hb⟩
     ·show(c.P n).off+lo*(c.P n).sz+((c.P n).cap-lo)*(c.P n).sz<=vals.size;have:lo*(c.P n).sz+((c.P n).cap-lo)*(c.P n).sz=(c.P n).cap*(c.P n).sz:=by rw[<-dK];congr 1;omega
      omega
     ·rw[rW]at h1;split at h1
      ·obtain⟨u,hu,hr⟩:=k5 (lo+i) y j x h1 h2;refine⟨u, ?_, ?_⟩
       ·show vals[(c.P n).off+lo*(c.P n).sz+i*(c.P n).sz+j]? =ah u;rw[<-hu];congr 1;rw[dK];omega
       ·split at hr
        ·rename_i hx;rw[bu hx];cases x with
         |l e1 z1=>exact hr
         |_=>exact hr
        ·rename_i hx;rw[bJ hx];exact hr
      ·cases h1
     ·have:=(q5 hx).one _ j _ j' (Tt i j hh) (Tt i' j' ug) hn jG he;exact⟨by omega,this.2⟩
    ·have h0:hi-lo=0:=by omega
     have Mw:dW ys lo hi=[]:=fa (hvl.trans h0);rw[Mw];exact⟨⟨ak,(c.P n).blk,oo,0,0,(c.P n).sz⟩,HN E te.ks,hv,q2,λy hy=>(by cases hy),⟨rfl,λh=>(by cases h),λ_=>⟨vals,k1,cm _,bm _,by show oo+0*(c.P n).sz<=vals.size;rw[Nat.zero_mul];omega,λi y j x h=>(by simp at h)⟩⟩,λ_=>tQ (λ_ _=>rfl),λ_=>⟨n,_,by simp,hg, .inl ⟨hq,rfl⟩⟩,λ_ i j ⟨y,x,h,_⟩=>(by simp at h),hb⟩
  |_=>simp at h
 |_=>simp[uE]at h
theorem qa{u:aE}(hu:(∃e',P.underlying u=ah (.slice e'))\/P.underlying u=ah .string){z:c_ a_}{v:a_}{ys:aU}{ks:ax Ck}(mh:0<ks.length){R:aE->aE->a_->CV->Prop}(hs:mZ w v ys ks.length R)(lK:∀y∈ys,y.map CV.kd=ks)(h1:∀i j u x,R i j u x->u.oneCell'=ai):
  ∃news,App P w u v z ks.length ys.length news/\∀(i:aE) (y:ax CV) (j:aE) (x:CV),ys[i]? =ah y->y[j]? =ah x->∃u:a_,news[i*ks.length+j]? =ah u/\R i j u x:=by
 have hl:∀y∈ys,y.length=ks.length:=λy hy=>by rw[<-lK y hy];simp
 obtain⟨A,cp,news,rfl,n1,n2,n3⟩:=hs.list hl;have first:∀W:bB,(∀q,W.cell? q=w.cell? q)->(fY ks.length ys.length (.slice A ys.length cp)).run P W= .ok news.toArray W:=by
  intro W hW;rcases n2 with h|⟨b,oo,rfl,h⟩
  ·subst h;have hn:news=[]:=fa (by rw[n1];simp);subst hn;cases A with
   |none=>exact run_firstCells_none _ _ _ _ _
   |some a=>exact run_firstCells_some W ks.length 0 a _ _ [] (by simp) (λj v hj=>by simp at hj)
  ·exact run_firstCells_some W ks.length ys.length _ _ _ news n1 (λj v hj=>by rw[hW,Addr.mS];exact h j v hj)
 refine⟨news,⟨.inl ⟨hu,by simp[sa],first w (λ_=>rfl),first w.drew (λ_=>rfl)⟩,n1,λv hv=> ?_⟩,n3⟩
 obtain⟨q,hq⟩:=bV hv;have Te:q<ys.length*ks.length:=by rw[<-n1];exact(aT.1 hq).1
 have hi:q/ks.length<ys.length:=by rw[Ml mh];exact Te
 have hj:q%ks.length<ys[q/ks.length].length:=by rw[hl _ (bD hi)];exact EE _ mh
 obtain⟨u',qB,hr⟩:=n3 (q/ks.length) ys[q/ks.length] (q%ks.length) (ys[q/ks.length][q%ks.length]) (by simp[hi]) (by simp[hj]);have:q/ks.length*ks.length+q%ks.length=q:=by have:=Nat.div_add_mod q ks.length;rw[KP]at this;exact this
 rw[this,hq]at qB;cases qB;exact h1 _ _ _ _ hr
theorem Pb(hE:dS P E)(b7:Ok E σ w c){rN el:aE}{te:TI}(ht:E.ty el=ah te)(mh:0<te.ks.length){u:aE}(hu:(∃e',P.underlying u=ah (.slice e'))\/P.underlying u=ah .string){z:c_ a_}{b:ax aE}{x:AV}{v:a_}(hx:dP E w c x v)
  {yu:aW} {ys:aU} {w2:ax (aE×dY)} (h:(O_ E rN el te.ks b x).val σ=ah (yu,ys,w2)):
  ∃D news gx,w2=jq D/\App P w u v z te.ks.length ys.length news/\pS E σ w c te b yu ys D news gx:=by
 have inK:∀D q,c.K q->K1 σ c D q:=λD q h=> .inl h;have PL:plain te.ks=ai->∀ys,mZ w v ys te.ks.length (λ_ _ u x=>Sc u x)->(∀y∈ys,y.map CV.kd=te.ks)->∃D news gx,([]:ax (aE×dY))=jq D/\App P w u v z te.ks.length ys.length news/\pS E σ w c te b ai ys D news gx:=by
  intro hp ys hs lK;obtain⟨news,n1,n2⟩:=qa (P:=P) (z:=z) hu mh hs lK (λi j u x hr=>by rw[hr.1];exact Qi);refine⟨[],news,λ_ _=>⟨ai,0,0,0,0,0⟩,rfl,n1,lK,λ_ i y j x hy hx=> ?_,λh=>(by cases h),λ_ i j _ hn=>(by cases hn),λ_ i j _ _ _ _ hn=>(by cases hn),λn x hn=>(by cases hn)⟩
  obtain⟨u,hu,hr⟩:=n2 i y j x hy hx;exact⟨_,hu,vi (ic hp (lK y (aP hy)) hx) hr⟩
 have PLr:plain te.ks=ai->∀ys,(lk E x).val σ=ah (el,ys)->∃D news gx,([]:ax (aE×dY))=jq D/\App P w u v z te.ks.length ys.length news/\pS E σ w c te b ai ys D news gx:=by intro hp ys hr;obtain⟨q1,q2,_⟩:=xL b7 hx hr ht hp;exact PL hp ys q1 q2
 have SH:∀ys,mZ w v ys te.ks.length (λ_ _ u x=>cQ E w c.K u x)->(∀y∈ys,y.map CV.kd=te.ks)->∃D news gx,([]:ax (aE×dY))=jq D/\App P w u v z te.ks.length ys.length news/\pS E σ w c te b ak ys D news gx:=by
  intro ys hs lK;obtain⟨news,n1,n2⟩:=qa (P:=P) (z:=z) hu mh hs lK (λi j u x hr=>hr.one);refine⟨[],news,λ_ _=>⟨ai,0,0,0,0,0⟩,rfl,n1,lK,λh=>(by cases h),λ_ i y j x hy hx=> ?_,λh=>(by cases h),λh=>(by cases h),λn x hn=>(by cases hn)⟩
  obtain⟨u,hu,hr⟩:=n2 i y j x hy hx;exact⟨_,hu,hr.frame (λ_ _=>rfl) (inK [])⟩
 have SHv:∀ys,cQ E w c.K v (.l el ys)->∃D news gx,([]:ax (aE×dY))=jq D/\App P w u v z te.ks.length ys.length news/\pS E σ w c te b ak ys D news gx:=by intro ys hh;obtain⟨q1,q2⟩:=CG ht hh;exact SH ys q1 q2
 have HP:∀ys,cQ E w c.K v (.l el ys)->(lk E x).val σ=ah (el,ys)->∃D news gx,([]:ax (aE×dY))=jq D/\App P w u v z te.ks.length ys.length news/\pS E σ w c te b (plain te.ks) ys D news gx:=by
  intro ys hh hr;cases hp:plain te.ks with
  |true=>exact PLr hp ys hr
  |false=>exact SHv ys hh
 have FZ:∀n xs lo hi,σ (cK n)= .o (.row el ai xs)->n∉b->tJ (c.P n) lo hi v->∃D news gx,[(cK n,dY.o (.eZ el xs))]=jq D/\App P w u v z te.ks.length (dW xs lo hi).length news/\pS E σ w c te b ak (dW xs lo hi) D news gx:=by
  intro n xs lo hi hg Wf hv;obtain⟨⟨t2,q1,q2,q3⟩,q4,q5⟩:=b7.obj n _ hg;obtain rfl:te=t2:=aD (ht.symm.trans q1);obtain⟨t3,r1,r2,r3⟩:=vd b7 hg hv;obtain rfl:te=t3:=aD (ht.symm.trans r1);let D:ax (aE×Obj):=[(n, .eZ el xs)]
  have kin:∀i j,fD xs i j->(c.G n i j).nil=ak->K1 σ c D (c.G n i j).blk:=λi j hh hn=> .inr ⟨n,el,xs,_,aY.2 rfl,hg, .inr ⟨rfl,i,j,hh,hn,rfl⟩⟩;have fN:im w (c.P n) xs (λ_ _ u x=>cQ E w (K1 σ c D) u x):=q4.frame (λ_=>rfl) (λi j y x u hy hx hr=>by rw[bu rfl]at hr;exact rZ hr (λhl hn=>kin i j ⟨y,x,hy,hx,hl⟩ hn));have Lp:mZ w v (dW xs lo hi) te.ks.length (λ_ _ u x=>cQ E w (K1 σ c D) u x):=by have:=Ih fN hv;rwa[q2]at this
  obtain⟨news,n1,n2⟩:=qa (P:=P) (z:=z) hu mh Lp r2 (λi j u x hr=>hr.one);refine⟨D,news,λ_ _=>⟨ai,0,0,0,0,0⟩,rfl,n1,r2,λh=>(by cases h),λ_=>n2,λh=>(by cases h),λh=>(by cases h),λm y hm=> ?_⟩
  rw[aY]at hm;cases hm;exact⟨Wf,⟨_,hg⟩, .inr ⟨rfl,el,xs,rfl,mN ht q2 q3 fN (λhn=> .inr ⟨n,el,xs,_,aY.2 rfl,hg, .inl ⟨hn,rfl⟩⟩),q4.n,te,ht,q2⟩⟩
 cases x with
 |s s=>
  obtain⟨h1,h⟩:=cj h;obtain⟨rfl,rfl,rfl⟩:=qQ h;have hk:te.ks=[.i .u8]:=by
   unfold u8s at h1;split at h1
   ·assumption
   ·cases h1
  have hv:v= .string s:=hx.1;subst hv;refine⟨[],(s.data.map λb=>Value.int .u8 b.toNat).toList,λ_ _=>⟨ai,0,0,0,0,0⟩,rfl,⟨.inl ⟨hu, ?_, ?_, ?_⟩, ?_, ?_⟩,by rw[hk];exact F9 s,λ_ i y j x hy hx=> ?_,λh=>(by cases h),λ_ i j _ hn=>(by cases hn),λ_ i j _ _ _ _ hn=>(by cases hn),λn x hn=>(by cases hn)⟩
  ·simp[sa,kL]
  ·simp[fY,kL];apply qG;simp
  ·simp[fY,kL];apply qG;simp
  ·rw[hk,kL];simp
  ·intro v hv;have hv:∃b,b∈s.data/\Value.int bc (b.toNat:az)=v:=by simpa using hv
   obtain⟨b,_,rfl⟩:=hv;rfl
  ·obtain⟨rfl,b,hb,rfl⟩:=D6 hy hx;refine⟨.int .u8 b.toNat, ?_,rfl,trivial⟩
   rw[hk];simp[hb]
 |nl=>obtain⟨rfl,rfl,rfl⟩:=qQ h;have hv:v= .slice aj 0 0:=hx;subst hv;refine⟨[],[],λ_ _=>⟨ai,0,0,0,0,0⟩,rfl,⟨.inl ⟨hu,by simp[sa],run_firstCells_none _ _ _ _ _,run_firstCells_none _ _ _ _ _⟩,by simp,λv hv=>(by cases hv)⟩,λy hy=>(by cases hy),λ_ i y j x hy=>(by simp at hy),λh=>(by cases h),λ_ i j _ hn=>(by cases hn),λ_ i j _ _ _ _ hn=>(by cases hn),λn x hn=>(by cases hn)⟩
 |sh e' xs=>obtain⟨h1,h9⟩:=cj h;have:=aQ h1;subst this;have h:=h9;obtain⟨rfl,rfl,rfl⟩:=qQ h;exact HP xs hx rfl
 |own n=>
  obtain⟨ob,hg,h⟩:=Rd.bind_some h;have hg:=cY hg;have hv:v=mf (c.P n):=hx;cases ob with
  |row e' ex xs=>
   obtain⟨h1,h9⟩:=cj h;have:=aQ h1;subst this;have h:=h9;have JI:(lk E (.own n)).val σ=ah (el,xs):=by simp[lk,iE,hg]
   have hvw:tJ (c.P n) 0 xs.length v:=by rw[hv];exact t_ b7 hg
   cases hp:plain te.ks with
   |true=>rw[uF (by rw[hp];rfl)]at h;obtain⟨rfl,rfl,rfl⟩:=qQ h;rw[hp];exact PLr hp xs JI
   |false=>
    cases ex with
    |false=>rw[uF (by simp)]at h;obtain⟨rfl,rfl,rfl⟩:=qQ h;rw[hp];obtain⟨t3,r1,r2,r3⟩:=vd b7 hg hvw;obtain rfl:te=t3:=aD (ht.symm.trans r1);rw[pD]at r2 r3;exact SH xs (r3.imp λi y j x u _ _ hr=>by simpa using hr) r2
    |true=>
     rw[B8 (by rw[hp];rfl)]at h;cases hm:lx n b with
     |true=>rw[hm]at h;simp at h
     |false=>
      have Wf:=oS hm;rw[hm]at h;cases DL:E.tk rN with
      |true=>rw[DL]at h;obtain⟨rfl,rfl,rfl⟩:=qQ h;have:=FZ n xs 0 xs.length hg Wf hvw;rwa[pD]at this
      |false=>
       rw[DL]at h;obtain⟨rfl,rfl,rfl⟩:=qQ h;obtain⟨t3,r1,r2,r3⟩:=vd b7 hg hvw;obtain rfl:te=t3:=aD (ht.symm.trans r1);rw[pD]at r2 r3;have r3':=r3.imp (R':=λi j u x=>XC E w (c.G n) i j u x) (λi y j x u _ _ hr=>by rw[bu rfl,bO]at hr;exact hr);obtain⟨news,n1,n2⟩:=qa (P:=P) (z:=z) hu mh r3' r2 (λi j u x hr=>hr.one);refine⟨[(n, .dead)],news,c.G n,rfl,n1,r2,λ_=>n2,λh=>(by cases h),λ_ i j hh hn=>⟨n,_,aY.2 rfl,hg, .inr ⟨rfl,i,j,hh,hn,rfl⟩⟩,λ_=>((b7.obj n _ hg).inn rfl).one,λm y hm=> ?_⟩
       rw[aY]at hm;cases hm;exact⟨Wf,⟨_,hg⟩, .inl rfl⟩
  |eZ e' xs=>obtain⟨h1,h9⟩:=cj h;have:=aQ h1;subst this;have h:=h9;obtain⟨rfl,rfl,rfl⟩:=qQ h;refine HP xs ?_ (by simp[lk,iE,hg]);rw[hv];exact(b7.obj n _ hg).1
  |_=>simp at h
 |vw n lo hi=>
  obtain⟨ob,hg,h⟩:=Rd.bind_some h;have hg:=cY hg;cases ob with
  |row e' ex xs=>
   obtain⟨h1,h9⟩:=cj h;have:=aQ h1;subst this;have h:=h9;have JI:(lk E (.vw n lo hi)).val σ=ah (el,dW xs lo hi):=by simp[lk,iE,hg]
   cases hp:plain te.ks with
   |true=>rw[uF (by rw[hp];rfl)]at h;obtain⟨rfl,rfl,rfl⟩:=qQ h;rw[hp];exact PLr hp _ JI
   |false=>
    cases ex with
    |false=>rw[uF (by simp)]at h;obtain⟨rfl,rfl,rfl⟩:=qQ h;rw[hp];obtain⟨t3,r1,r2,r3⟩:=vd b7 hg hx;obtain rfl:te=t3:=aD (ht.symm.trans r1);exact SH _ (r3.imp λi y j x u _ _ hr=>by simpa using hr) r2
    |true=>
     rw[B8 (by rw[hp];rfl)]at h;cases hm:lx n b with
     |true=>rw[hm]at h;simp at h
     |false=>
      have Wf:=oS hm;rw[hm]at h;cases DL:E.tk rN with
      |true=>rw[DL]at h;obtain⟨rfl,rfl,rfl⟩:=qQ h;exact FZ n xs lo hi hg Wf hx
      |false=>rw[DL]at h;simp at h
  |eZ e' xs=>obtain⟨h1,h9⟩:=cj h;have:=aQ h1;subst this;have h:=h9;obtain⟨rfl,rfl,rfl⟩:=qQ h;exact HP _ (nS b7 hg hx) (by simp[lk,iE,hg])
  |_=>simp at h
 |inn n i j=>obtain⟨h1,h⟩:=cj h;obtain⟨⟨e',xs⟩,h2,h⟩:=Rd.bind_some h;obtain⟨h3,h9⟩:=cj h;have:=aQ h3;subst this;have h:=h9;obtain⟨rfl,rfl,rfl⟩:=qQ h;exact PLr h1 xs h2
 |_=>simp[O_]at h
theorem LH(hE:dS P E)(b7:Ok E σ w c)(di:eG E σ a w c)(hd:∀d,o.dst=ah d->d<a.tmps.size){cl:Call}(ho:o.op= .call cl)(hb:cl.callee= .builtin .append)(h:(kM E nm o).val σ=ah e)(hc:e.cond=ai):fT P E σ a w c o e.ws:=by
 simp only[kM,ho,hb]at h;split at h
 ·rename_i s x t u qA Z8;obtain⟨ku,h1,h⟩:=Rd.bind_some h;obtain⟨sv,h2,h⟩:=Rd.bind_some h;obtain⟨xv,h3,h⟩:=Rd.bind_some h;obtain⟨es,_⟩:=ij di h2;obtain⟨ex,_⟩:=ij di h3;have qA:=AO qA;have Z8:=AO Z8;have exec:∀{r w'},(kg #[t,u] o.type #[a.eval s,a.eval x]).run P w= .ok r w'->(execOp a.eval o).run P w= .ok (.value r) w':=by intro r w' hr;obtain⟨cs,A3⟩:=lH (P:=P) (a:=a) (w:=w) ho hb;rw[A3,qA,Z8];simp only[builtin,Bc,eK,zm];exact ia hr
  have APP:((∃e',P.underlying u=ah (.slice e'))\/P.underlying u=ah .string)->∀b v wl,(Dp E nm t sv xv).val σ=ah (b,v,wl)->b=ai->fT P E σ a w c o (wl++dw o (.v ak [v])):=by
   intro hu b v wl h hbt;obtain⟨ti,k1,h⟩:=Rd.bind_some h;have k1:=dC k1;split at h
   ·rename_i el sw Bw;obtain⟨te,k2,h⟩:=Rd.bind_some h;have k2:=dC k2;obtain⟨yv,h⟩:=cj h;obtain⟨⟨A1,xs,bl⟩,k3,h⟩:=Rd.bind_some h;obtain⟨⟨yu,ys,w2⟩,k4,h⟩:=Rd.bind_some h;obtain⟨_,k5,h⟩:=Rd.bind_some h;obtain⟨rfl,rfl,rfl⟩:=qQ h;obtain⟨hf,ji⟩:=jF k5;have ht:=nP hE k1 sw Bw;obtain⟨inf,hi,fm,hby,mh,hz⟩:=hE.info el te k2;obtain⟨z,HF,Bz,_⟩:=hz yv;obtain⟨p,g,hB⟩:=zD b7 k2 es k3;obtain⟨D,news,gx,rfl,hA,hM⟩:=Pb (P:=P) (z:=z.cells) hE b7 k2 mh hu ex k4;simp only[cy,aF,ba]at hbt;obtain⟨p',w',hr,hAd⟩:=xM (P:=P) (w:=w) (ty:=o.type) (p:=p) (x:=a.eval x) ht hi HF (by rw[Bz,hB.sz];simp) (by rw[fm,hB.sz]) (λhn=>by rw[hB.at_.n,(hB.at_.nil hn).1];rfl) (λhn=>by obtain⟨vals,m1,m2,m3,m4,_⟩:=hB.at_.mem hn;exact⟨vals,m1,m2,m3,m4⟩) (by rw[hB.sz];exact hA) (by rw[hB.at_.n,hby];exact hbt.1) (by rw[hB.at_.n];exact hbt.2);rw[<-hB.v]at hr;exact Cm b7 di hd k2 hf ji hB hM hAd (exec hr)
   ·simp at h
  have ZER:∀k,P.underlying u=ah (.int k)->∀(kn:l_) (n:az),a.eval x= .int kn n->∀b v wl,(Q_ E nm t sv n).val σ=ah (b,v,wl)->b=ai->fT P E σ a w c o (wl++dw o (.v ak [v])):=by
   intro k hu kn n hxn b v wl h hbt;obtain⟨ti,k1,h⟩:=Rd.bind_some h;have k1:=dC k1;split at h
   ·rename_i el sw Bw;obtain⟨te,k2,h⟩:=Rd.bind_some h;have k2:=dC k2;obtain⟨Mu,h⟩:=cj h;simp only[aF]at Mu;obtain⟨yv,Mt⟩:=Mu;obtain⟨⟨A1,xs,bl⟩,k3,h⟩:=Rd.bind_some h;obtain⟨_,k5,h⟩:=Rd.bind_some h;obtain⟨rfl,rfl,rfl⟩:=qQ h;obtain⟨hf,ji⟩:=jF k5;have ht:=nP hE k1 sw Bw;obtain⟨inf,hi,fm,hby,mh,hz⟩:=hE.info el te k2;obtain⟨z,HF,Bz,_⟩:=hz yv;obtain⟨p,g,hB⟩:=zD b7 k2 es k3;simp only[cy,aF,ba]at hbt;obtain⟨⟨c0,c1,c2⟩,c3⟩:=hbt;have Lt:(aN te.ks n.toNat).length=n.toNat:=by simp[aN]
    have hzc:fE z.cells n.toNat=madeCells (te.ks.map gP).toArray (n.toNat*te.ks.length):=by rw[Bz];show madeCells _ (n.toNat*(te.ks.map gP).toArray.size)=_;simp
    have hA:App P w u (a.eval x) z.cells te.ks.length (aN te.ks n.toNat).length (fE z.cells n.toNat).toList:=by
     refine⟨.inr ⟨⟨k,hu⟩,⟨kn, ?_⟩, ?_⟩, ?_,λv hv=> ?_⟩
     ·rw[hxn,Lt,Int.toNat_of_nonneg c0]
     ·rw[Lt]
     ·rw[Lt,dp,size_zeroCells,Bz];simp
     ·rw[hzc]at hv;obtain⟨q,hq⟩:=bV hv;have Te:q<n.toNat*te.ks.length:=by have:=(aT.1 hq).1;simpa [size_madeCells]using this
      have h1:q/te.ks.length<n.toNat:=by rw[Ml mh];exact Te
      have h2:q%te.ks.length<te.ks.length:=EE _ mh;have:=kD (n:=n.toNat) h1 (show te.ks[q%te.ks.length]? =ah te.ks[q%te.ks.length]by simp[h2]);rw[show q/te.ks.length*te.ks.length+q%te.ks.length=q by have:=Nat.div_add_mod q te.ks.length;rw[KP]at this;exact this]at this;rw[cC,this]at hq;cases hq;cases te.ks[q%te.ks.length]<;>rfl
    have hM:pS E σ w c te bl ai (aN te.ks n.toNat) [] (fE z.cells n.toNat).toList (HN E te.ks):=by
     refine⟨vB yv _,λ_ i y j x hy hx=> ?_,λh=>(by cases h),λ_ i j _ hn=>(by cases hn),λ_ i j _ _ _ _ hn=>(by cases hn),λn x hn=>(by cases hn)⟩
     obtain⟨gO,k,hk,rfl⟩:=sK hy hx;refine⟨gP k, ?_,KI Mt yv hk⟩
     rw[hzc,cC];exact kD gO hk
    obtain⟨p',w',hr,hAd⟩:=xM (P:=P) (w:=w) (ty:=o.type) (p:=p) (x:=a.eval x) ht hi HF (by rw[Bz,hB.sz];simp) (by rw[fm,hB.sz]) (λhn=>by rw[hB.at_.n,(hB.at_.nil hn).1];rfl) (λhn=>by obtain⟨vals,m1,m2,m3,m4,_⟩:=hB.at_.mem hn;exact⟨vals,m1,m2,m3,m4⟩) (by rw[hB.sz];exact hA) (by rw[hB.at_.n,hby,Lt];exact c1) (by rw[hB.at_.n,Lt];exact c2);rw[<-hB.v]at hr;have:=Cm b7 di hd k2 hf ji hB hM hAd (exec hr);rw[qT]at this;exact this
   ·simp at h
  cases ku with
  |i k=>
   cases xv with
   |i k' n=>obtain⟨⟨b,v,wl⟩,h4,h⟩:=Rd.bind_some h;obtain rfl:=aD h;exact ZER k (wF hE h1) k' n ex b v wl h4 hc
   |_=>simp at h
  |l e'=>obtain⟨⟨b,v,wl⟩,h4,h⟩:=Rd.bind_some h;obtain rfl:=aD h;exact APP (.inl ⟨e',jH hE h1⟩) b v wl h4 hc
  |s=>obtain⟨⟨b,v,wl⟩,h4,h⟩:=Rd.bind_some h;obtain rfl:=aD h;exact APP (.inr (jX hE h1)) b v wl h4 hc
  |b=>simp at h
  |o=>simp at h
 ·simp at h
end
end Go.FG

namespace Go.FG
section
variable {P:cL} {E:eP} {σ:St} {a:Act} {w:bB} {c:eB} {o:eJ} {nm:aE} {e:qU}
theorem Sv:∀{xs:ax AV} {cs:ax CV},(NX.Zl xs).val σ=ah cs->cs.length=xs.length/\∀(vals:c_ a_),eV E w c vals xs->∀(q:aE) (x:CV),cs[q]? =ah x->∃u:a_,vals[q]? =ah u/\cQ E w c.K u x:=by
 intro xs;induction xs with
 |nil=>intro cs h;obtain rfl:=aD h;exact⟨rfl,λ_ _ q x hq=>by simp at hq⟩
 |cons a xs ih=>
  intro cs h;obtain⟨l,h1,h⟩:=Rd.bind_some h;obtain⟨i1,i2⟩:=ih h1;have main:∀cv,(∀u,dP E w c a u->cQ E w c.K u cv)->cs=cv::l->cs.length=(a::xs).length/\∀(vals:c_ a_),eV E w c vals (a::xs)->∀(q:aE) (x:CV),cs[q]? =ah x->∃u:a_,vals[q]? =ah u/\cQ E w c.K u x:=by
   rintro cv V6 rfl;refine⟨by simp[i1],λvals hv q x hq=> ?_⟩
   cases q with
   |zero=>cases hq;obtain⟨u,hu,ha⟩:=hv.2 0 a rfl;exact⟨u,hu,V6 u ha⟩
   |succ q=>
    have OD:eV E w c (vals.extract 1 vals.size) xs:=by
     refine⟨by simp;have:=hv.1;simp at this;omega,λj b hj=> ?_⟩
     obtain⟨u,hu,hb⟩:=hv.2 (j+1) b hj;refine⟨u, ?_,hb⟩
     have:=(dF.1 hu).1;rw[dL,bu (by omega),il];exact hu
    obtain⟨u,r1,r2⟩:=i2 _ OD q x hq;refine⟨u, ?_,r2⟩
    rw[dL]at r1;split at r1
    ·rw[il];exact r1
    ·cases r1
  cases a with
  |i k n=>exact main (.i k n) (λu hu=>by rw[show u=_ from hu];exact .i _ _) (aD h).symm
  |b x=>exact main (.b x) (λu hu=>by rw[show u=_ from hu];exact .b _) (aD h).symm
  |s x=>exact main (.s x) (λu hu=>by rw[show u=_ from hu.1];exact .s _ hu.2) (aD h).symm
  |sh e xs=>exact main (.l e xs) (λu hu=>hu) (aD h).symm
  |_=>simp at h
def ach(E:eP)(σ:St)(w:bB)(c:eB)(D:ax (aE×Obj))(cs:ax CV)(v:a_):Prop:=
 ∃n,v= .pointer (ah (ad (c.P n).blk 0))/\(((n,Obj.mU cs)∈D)\/σ (cK n)= .o (.mU cs))
theorem Sw(b7:Ok E σ w c)(di:eG E σ a w c):∀{xs:ax c5} {l:ax (ax CV)} {ws:ax (aE×dY)},(NX xs).val σ=ah (l,ws)->l.length=xs.length/\∃D,ws=jq D/\
  (∀n x,(n,x)∈D->∃cs ys,x= .mU cs/\σ (cK n)= .o (.box ys)/\∀(q:aE) (y:CV),cs[q]? =ah y->∃u:a_,w.cell? (ad (c.P n).blk q)=ah u/\cQ E w c.K u y)/\
  ∀(q:aE) (cs:ax CV),l[q]? =ah cs->∃x,xs[q]? =ah x/\ach E σ w c D cs (a.eval x):=by
 intro xs;induction xs with
 |nil=>intro l ws h;obtain⟨rfl,rfl⟩:=bN (aD h);exact⟨rfl,[],rfl,λn x h=>(by cases h),λq cs h=>by simp at h⟩
 |cons x xs ih=>
  intro l ws h;obtain⟨v,h1,h⟩:=Rd.bind_some h;have hv:=(ij di h1).1;split at h
  ·rename_i n;obtain⟨ob,hg,h⟩:=Rd.bind_some h;have hg:=cY hg;have hv:a.eval x= .pointer (ah (ad (c.P n).blk 0)):=hv;cases ob with
   |box ys=>
    obtain⟨cs,h2,h⟩:=Rd.bind_some h;obtain⟨⟨l',BK⟩,h3,h⟩:=Rd.bind_some h;obtain⟨rfl,rfl⟩:=bN (aD h);obtain⟨i1,D,rfl,i2,i3⟩:=ih h3;obtain⟨_,c2⟩:=Sv (E:=E) (w:=w) (c:=c) h2;obtain⟨vals,hb,fm,V6⟩:=b7.obj n _ hg;refine⟨by simp[i1],(n, .mU cs)::D,rfl,λm y hm=> ?_,λq cs' hq=> ?_⟩
    ·rcases cq.1 hm with hm|hm
     ·cases hm;refine⟨cs,ys,rfl,hg,λq y hq=> ?_⟩
      obtain⟨u,hu,hh⟩:=c2 vals ⟨fm,V6⟩ q y hq;exact⟨u,(hb.cell q).trans hu,hh⟩
     ·exact i2 m y hm
    ·cases q with
     |zero=>cases hq;exact⟨x,rfl,n,hv, .inl (du ..)⟩
     |succ q=>obtain⟨x',nV,m,e1,e2⟩:=i3 q cs' hq;exact⟨x',nV,m,e1,e2.imp (cM _) id⟩
   |mU cs=>
    obtain⟨⟨l',BK⟩,h3,h⟩:=Rd.bind_some h;obtain⟨rfl,rfl⟩:=bN (aD h);obtain⟨i1,D,rfl,i2,i3⟩:=ih h3;refine⟨by simp[i1],D,rfl,i2,λq cs' hq=> ?_⟩
    cases q with
    |zero=>cases hq;exact⟨x,rfl,n,hv, .inr hg⟩
    |succ q=>exact i3 q cs' hq
   |_=>simp at h
  ·simp at h
theorem FU(b7:Ok E σ w c)(di:eG E σ a w c)(hd:∀d,o.dst=ah d->d<a.tmps.size){fn:Fn}{first g7:c_ c5}(ho:o.op= .makeFunc fn first g7)(h:(kM E nm o).val σ=ah e):fT P E σ a w c o e.ws:=by
 cases fn with
 |func f=>
  simp only[kM,ho]at h;obtain⟨h1,h⟩:=cj h;obtain⟨⟨l,ws⟩,h2,h⟩:=Rd.bind_some h;obtain rfl:=aD h;obtain⟨hl,D,rfl,hD,Le⟩:=Sw b7 di h2;have Oq:first= #[]:=by simpa using h1
  let K':aE->Prop:=λb=>c.K b\/∃n x,(n,x)∈D/\b=(c.P n).blk;let c':eB:=⟨c.P,c.G,K'⟩
  have kin:∀b,c.K b->K' b:=λb h=> .inl h;have own:∀n x,(n,x)∈D->jf (sM D) σ c (c.P n).blk:=λn x hm=>by obtain⟨cs,ys,_,hg,_⟩:=hD n x hm;exact⟨n,_,⟨x,hm⟩,hg,rfl⟩
  have fb:∀n cs,(n,Obj.mU cs)∈D->FB E w K' (c.P n).blk cs:=λn cs hm=>by obtain⟨cs',ys,hx,hg,hc⟩:=hD n _ hm;cases hx;exact⟨.inr ⟨n,_,hm,rfl⟩,λq x hq=>by obtain⟨u,hu,hh⟩:=hc q x hq;exact⟨u,hu,hh.frame (λ_ _=>rfl) kin⟩⟩
  refine Ht b7 di hd (c':=c') (w':=w) (v:= .func (.func f) #[] (g7.map a.eval)) (λm _=>⟨rfl,rfl⟩) ?_ ?_ ?_ ?_ kin ?_ ?_ (λb _ _=>rfl) (cm _) rfl rfl rfl ?_ ?_ ?_
  ·intro n x hm;obtain⟨cs,ys,rfl,hg,hc⟩:=hD n x hm;exact fb n cs hm
  ·intro n x b hm hf;obtain⟨cs,ys,rfl,_⟩:=hD n x hm;exact hf.elim
  ·intro n x n' x' b hm _ hf;obtain⟨cs,ys,rfl,_⟩:=hD n x hm;exact hf.elim
  ·intro n xs hm;obtain⟨cs,ys,hx,_⟩:=hD n _ hm;cases hx
  ·rintro b (h|⟨n,x,hm,rfl⟩)
   ·exact .inl h
   ·exact .inr (.inl (own n x hm))
  ·rintro b (h|⟨n,x,hm,rfl⟩)
   ·exact b7.lt b h
   ·exact vH.lt b7 (own n x hm).own
  ·refine⟨g7.map a.eval,rfl,by simp[hl],λq cs hq=> ?_⟩
   obtain⟨x,hx,n,hv,hor⟩:=Le q cs hq;rw[cC]at hx;refine⟨(c.P n).blk,by rw[KJ,hx,<-hv];rfl, ?_⟩
   rcases hor with hm|hg
   ·exact fb n cs hm
   ·exact FB.frame (b7.obj n _ hg) (λ_ _=>rfl) kin
  ·intro n hn;simp[ch,bw]at hn
  ·unfold execOp;rw[ho,Oq];refine ia (s:=Re (.func f) ((#[]:c_ c5).map a.eval) (g7.map a.eval)) ?_;simp[Re]
 |_=>simp[kM,ho]at h
end
end Go.FG

namespace Go.FG
theorem nZ:∀{l:ax (aE×dY)} {k:aE} {c:dY},eO l k=c->c≠ .iU->(k,c)∈l:=by
 intro l;induction l with
 |nil=>intro k c h hc;exact cw h.symm hc
 |cons d l ih=>
  obtain⟨k',c'⟩:=d;intro k c h hc;unfold eO at h;cases hb:bh k k' with
  |true=>rw[hb]at h;have:=aQ hb;subst this;have:c'=c:=h;subst this;exact du ..
  |false=>rw[hb]at h;exact cM _ (ih h hc)
theorem qq:∀{l:ax (aE×dY)} {k:aE} {c:dY},(k,c)∈l->(∀d∈l,d.2≠ .iU)->eO l k≠ .iU:=by
 intro l;induction l with
 |nil=>intro k c h;cases h
 |cons d l ih=>
  obtain⟨k',c'⟩:=d;intro k c h hn;unfold eO;cases hb:bh k k' with
  |true=>exact hn _ (du ..)
  |false=>
   rcases cq.1 h with h|h
   ·cases h;simp at hb
   ·exact ih h (λd hd=>hn d (cM _ hd))
theorem LC{nm:aE}{a:AA}{k:aE}{c:dY}:(k,c)∈FC nm a↔∃e ex xs,a= .ow e ex xs/\k=cK nm/\c= .o (.row e ex xs):=by
 cases a with
 |ow e ex xs=>simp only[FC,aY,iw];exact⟨λ⟨h1,h2⟩=>⟨e,ex,xs,rfl,h1,h2⟩,λ⟨e',sr,Is,h,h1,h2⟩=>by cases h;exact⟨h1,h2⟩⟩
 |_=>simp[FC]
theorem Ad:∀{xs:ax AA} {nm:aE} {k:aE} {c:dY},(k,c)∈tP nm xs↔∃j e ex ys,xs[j]? =ah (.ow e ex ys)/\k=cK (nm+j)/\c= .o (.row e ex ys):=by
 intro xs;induction xs with
 |nil=>intro nm k c;simp[tP]
 |cons a xs ih=>
  intro nm k c;simp only[tP,aZ,LC,ih];constructor
  ·rintro (⟨e,ex,ys,rfl,h1,h2⟩|⟨j,e,ex,ys,h0,h1,h2⟩)
   ·exact⟨0,e,ex,ys,rfl,h1,h2⟩
   ·exact⟨j+1,e,ex,ys,h0,by rw[h1];congr 1;omega,h2⟩
  ·rintro ⟨j,e,ex,ys,h0,h1,h2⟩;cases j with
   |zero=>cases h0;exact .inl ⟨e,ex,ys,rfl,h1,h2⟩
   |succ j=>exact .inr ⟨j,e,ex,ys,h0,by rw[h1];congr 1;omega,h2⟩
theorem gH{p:aE}{a:eC}{k:aE}{c:dY}:(k,c)∈uR p a↔(∃xs,a= .pt xs/\k=cK (dI p 900)/\c= .o (.box (fC (dI p 0) xs)))\/∃xs j e ex ys,((∃g,a= .v g xs)\/a= .pt xs)/\xs[j]? =ah (.ow e ex ys)/\k=cK (dI p j)/\c= .o (.row e ex ys):=by
 have hn:∀j,dI p 0+j=dI p j:=λj=>by unfold dI;omega
 cases a with
 |v g xs=>
  simp only[uR,Ad,hn];constructor
  ·rintro ⟨j,e,ex,ys,h⟩;exact .inr ⟨xs,j,e,ex,ys, .inl ⟨g,rfl⟩,h⟩
  ·rintro (⟨Is,h,_⟩|⟨Is,j,e,ex,ys,h,h'⟩)
   ·cases h
   ·rcases h with ⟨g',h⟩|h<;>cases h;exact⟨j,e,ex,ys,h'⟩
 |pt xs=>
  simp only[uR,cq,Ad,hn,iw];constructor
  ·rintro (⟨h1,h2⟩|⟨j,e,ex,ys,h⟩)
   ·exact .inl ⟨xs,rfl,h1,h2⟩
   ·exact .inr ⟨xs,j,e,ex,ys, .inr rfl,h⟩
  ·rintro (⟨Is,h,h1,h2⟩|⟨Is,j,e,ex,ys,h,h'⟩)
   ·cases h;exact .inl ⟨h1,h2⟩
   ·rcases h with ⟨g',h⟩|h<;>cases h;exact .inr ⟨j,e,ex,ys,h'⟩
 |fb xs=>
  simp only[uR,qJ,false_iff];rintro (⟨Is,h,_⟩|⟨Is,j,e,ex,ys,h,h'⟩)
  ·cases h
  ·rcases h with ⟨g',h⟩|h<;>cases h
theorem kE:∀{l:ax eC} {q:aE} {k:aE} {c:dY},(k,c)∈HG q l↔∃p a,l[p]? =ah a/\((k=oW (q+p)/\c= .v (rL (q+p) a))\/(k,c)∈uR (q+p) a):=by
 intro l;induction l with
 |nil=>intro q k c;simp[HG]
 |cons a l ih=>
  intro q k c;simp only[HG,cq,aZ,ih,iw];constructor
  ·rintro ((⟨h1,h2⟩|h)|⟨p,b,h0,h⟩)
   ·exact⟨0,a,rfl, .inl ⟨h1,h2⟩⟩
   ·exact⟨0,a,rfl, .inr h⟩
   ·exact⟨p+1,b,h0,by rw[show q+(p+1)=q+1+p by omega];exact h⟩
  ·rintro ⟨p,b,h0,h⟩;cases p with
   |zero=>
    cases h0;rcases h with ⟨h1,h2⟩|h
    ·exact .inl (.inl ⟨h1,h2⟩)
    ·exact .inl (.inr h)
   |succ p=>exact .inr (⟨p,b,h0,by rw[show q+1+p=q+(p+1)by omega];exact h⟩)
theorem FA{l:ax eC}{q:aE}:∀d∈HG q l,d.2≠ .iU:=by
 rintro ⟨k,c⟩ h;obtain⟨p,a,_,h⟩:=kE.1 h;rcases h with ⟨_,h⟩|h
 ·rw[h];simp
 ·rcases gH.1 h with ⟨_,_,_,h⟩|⟨_,_,_,_,_,_,_,_,h⟩<;>rw[h]<;>simp
theorem yP{args:ax eC}{m:aE}{ob:Obj}(h:inj args (cK m)= .o ob):∃p a,args[p]? =ah a/\((∃xs,a= .pt xs/\m=dI p 900/\ob= .box (fC (dI p 0) xs))\/∃xs j e ex ys,((∃g,a= .v g xs)\/a= .pt xs)/\xs[j]? =ah (.ow e ex ys)/\m=dI p j/\ob= .row e ex ys):=by
 obtain⟨p,a,h0,h⟩:=kE.1 (nZ h (by simp));rw[bO]at h;refine⟨p,a,h0, ?_⟩
 rcases h with ⟨h,_⟩|h
 ·exact cw h (kW _ _)
 ·rcases gH.1 h with ⟨xs,h1,h2,h3⟩|⟨xs,j,e,ex,ys,h1,h2,h3,h4⟩
  ·cases h3;exact .inl ⟨xs,h1,ju h2,rfl⟩
  ·cases h4;exact .inr ⟨xs,j,e,ex,ys,h1,h2,ju h3,rfl⟩
theorem FE{args:ax eC}{n:aE}:(∃a,args[n]? =ah a/\slot (inj args) n=rL n a)\/slot (inj args) n= .un:=by
 unfold slot;cases h:inj args (oW n)with
 |v x=>
  obtain⟨p,a,h0,h⟩:=kE.1 (nZ h (by simp));rw[bO]at h;rcases h with ⟨h1,h2⟩|h
  ·have:=D_ h1;subst this;cases h2;exact .inl ⟨a,h0,rfl⟩
  ·rcases gH.1 h with ⟨_,_,h,_⟩|⟨_,_,_,_,_,_,_,h,_⟩<;>exact cw h (qp _ _)
 |o=>exact .inr rfl
 |iU=>exact .inr rfl
theorem pn{args:ax eC}{p:aE}{a:eC}(h:args[p]? =ah a):(∀xs,a= .pt xs->inj args (cK (dI p 900))≠ .iU)/\∀xs j e ex ys,((∃g,a= .v g xs)\/a= .pt xs)->xs[j]? =ah (.ow e ex ys)->inj args (cK (dI p j))≠ .iU:=by
 constructor
 ·intro xs hx;exact qq (kE.2 ⟨p,a,h, .inr (gH.2 (.inl ⟨xs,hx,by rw[bO],rfl⟩))⟩) FA
 ·intro xs j e ex ys hx hj;exact qq (kE.2 ⟨p,a,h, .inr (gH.2 (.inr ⟨xs,j,e,ex,ys,hx,hj,by rw[bO],rfl⟩))⟩) FA
theorem gK:∀{xs:ax AA} {nm j:aE},(fC nm xs)[j]? =(xs[j]?).map (j8 (nm+j)):=by
 intro xs;induction xs with
 |nil=>intro nm j;simp[fC]
 |cons a xs ih=>
  intro nm j;cases j with
  |zero=>rfl
  |succ j=>simp only[fC,dy,ih];congr 2;omega
theorem g6:∀{xs:ax AA} {nm:aE},(fC nm xs).length=xs.length:=by
 intro xs;induction xs with
 |nil=>intro nm;rfl
 |cons a xs ih=>intro nm;simp[fC,ih]
theorem rM{nm:aE}{a:AA}{n:aE}(h:n∈bw (j8 nm a)):n=nm/\∃e ex ys,a= .ow e ex ys:=by cases a<;>simp[j8,bw]at h;exact⟨h,_,_,_,rfl⟩
theorem FD{args:ax eC}(n:aE):lC (inj args) (slot (inj args) n):=by
 rcases FE (args:=args) (n:=n)with ⟨a,h0,h⟩|h
 ·rw[h];intro m hm;have cells:∀xs,((∃g,a= .v g xs)\/a= .pt xs)->m∈(fC (dI n 0) xs).flatMap bw->inj args (cK m)≠ .iU:=by
   intro xs hx hm;obtain⟨v,hv,hm⟩:=bA.1 hm;obtain⟨j,hj⟩:=bV hv;rw[gK]at hj;cases hy:xs[j]? with
   |none=>rw[hy]at hj;cases hj
   |some y=>
    rw[hy]at hj;cases hj;obtain⟨rfl,e,ex,ys,rfl⟩:=rM hm;have:=(pn h0).2 xs j e ex ys hx hy;have hn:dI n 0+j=dI n j:=by unfold dI;omega
    rw[hn];exact this
  cases a with
  |v g xs=>exact cells xs (.inl ⟨g,rfl⟩) hm
  |pt xs=>
   have:m=dI n 900:=by simpa [rL,ch,bw]using hm
   rw[this];exact(pn h0).1 xs rfl
  |fb xs=>simp[rL,ch,bw]at hm
 ·rw[h];intro m hm;simp[ch]at hm
theorem DM{args:ax eC}{nm:aE}{xs:ax AV}(h:inj args (cK nm)= .o (.box xs)):∀a∈xs,iz (inj args) a:=by
 obtain⟨p,a,h0,hh⟩:=yP h;rcases hh with ⟨ys,rfl,_,hb⟩|⟨_,_,_,_,_,_,_,_,hb⟩
 ·cases hb;intro v hv m hm;obtain⟨j,hj⟩:=bV hv;rw[gK]at hj;cases hy:ys[j]? with
  |none=>rw[hy]at hj;cases hj
  |some y=>
   rw[hy]at hj;cases hj;obtain⟨rfl,e,ex,zs,rfl⟩:=rM hm;have:=(pn h0).2 ys j e ex zs (.inr rfl) hy;have hn:dI p 0+j=dI p j:=by unfold dI;omega
   rw[hn];exact this
 ·cases hb
end Go.FG

namespace Go.FG
theorem sD{p j:aE}(h:j<1000):(dI p j-900000000)/1000=p/\(dI p j-900000000)%1000=j:=by unfold dI;omega
theorem Al(p j:aE):900000000<=dI p j:=by unfold dI;omega
theorem sE{p j p' j':aE}(h:j<1000)(h':j'<1000)(e:dI p j=dI p' j'):p=p'/\j=j':=by unfold dI at e;omega
section
variable {P:cL} {E:eP} {σ:St} {a:Act} {w:bB} {c:eB} {o:eJ} {nm:aE} {e:qU}
theorem qn(b7:Ok E σ w c){n el:aE}{ex:aW}{xs:aU}(hg:σ (cK n)= .o (.row el ex xs)){K:aE->Prop}(hK:∀b,c.K b->K b)(hF:∀b,eN c n (.row el ex xs) b->K b):cQ E w K (mf (c.P n)) (.l el xs):=by
 obtain⟨⟨t2,q1,q2,q3⟩,q4,q5⟩:=b7.obj n _ hg;refine mN q1 q2 q3 (q4.frame (λ_=>rfl) (λi j y x u hy hx hr=> ?_)) (λhn=>hF _ (.inl ⟨hn,rfl⟩));split at hr
 ·rename_i nV;exact rZ hr (λhl hn=>hF _ (.inr ⟨nV,i,j,⟨y,x,hy,hx,hl⟩,hn,rfl⟩))
 ·exact hr.frame (λ_ _=>rfl) hK
theorem CI(b7:Ok E σ w c){n el:aE}{ex:aW}{xs:aU}(hg:σ (cK n)= .o (.row el ex xs)){K:aE->Prop}(hK:∀b,c.K b->K b)(hF:∀b,eN c n (.row el ex xs) b->K b){lo hi:aE}{v:a_}(hv:tJ (c.P n) lo hi v):cQ E w K v (.l el (dW xs lo hi)):=by obtain⟨⟨t2,q1,q2,q3⟩,q4,q5⟩:=b7.obj n _ hg;exact z5 q1 (qn b7 hg hK hF) q4.n q2 hv
def YE(σ:St)(c:eB)(my:ax aE)(b:aE):Prop:=c.K b\/∃n∈my,∃o,σ (cK n)= .o o/\eN c n o b
def tC(T:Tab)(σ:St)(w:bB)(c:eB)(my:ax aE)(k:Pk)(u:a_):Prop:=
 match k.src with
 | .own nm e ex=>∃xs,σ (cK nm)= .o (.row e ex xs)/\k.a= .ow e ex xs/\u=mf (c.P nm)
 | .no=>(∀c1:eB,(∀b,YE σ c my b->c1.K b)->∀nm,dP T w c1 (j8 nm k.a) u)/\∀e ex xs,k.a≠ .ow e ex xs
theorem tC.mono{T:Tab}{my P5:ax aE}{k:Pk}{u:a_}(h:tC T σ w c my k u)(hs:∀n∈my,n∈P5):tC T σ w c P5 k u:=by
 unfold tC at h⊢;split
 ·rename_i hk;rw[hk]at h;exact h
 ·rename_i hk;rw[hk]at h;exact⟨λc1 h1=>h.1 c1 (λb hb=>h1 b (hb.imp id (λ⟨n,hn,hh⟩=>⟨n,hs n hn,hh⟩))),h.2⟩
theorem Av(b7:Ok E σ w c){mt:aW}{x:AV}{k:Pk}{u:a_}(h:(xJ E mt x).val σ=ah k)(hx:dP E w c x u):tC E σ w c k.rd k u:=by
 have rd:∀{n el:aE} {ex:aW} {xs:aU},σ (cK n)= .o (.row el ex xs)->∀c1:eB,(∀b,YE σ c [n] b->c1.K b)->(∀b,c.K b->c1.K b)/\∀b,eN c n (.row el ex xs) b->c1.K b:=λhg c1 h=>⟨λb hb=>h b (.inl hb),λb hb=>h b (.inr ⟨_,aY.2 rfl,_,hg,hb⟩)⟩
 cases x with
 |i=>obtain rfl:=aD h;exact⟨λc1 _ _=>hx,λ_ _ _ hh=>by cases hh⟩
 |b=>obtain rfl:=aD h;exact⟨λc1 _ _=>hx,λ_ _ _ hh=>by cases hh⟩
 |s=>obtain rfl:=aD h;exact⟨λc1 _ _=>hx,λ_ _ _ hh=>by cases hh⟩
 |nl=>obtain rfl:=aD h;exact⟨λc1 _ _=>hx,λ_ _ _ hh=>by cases hh⟩
 |sh e xs=>obtain rfl:=aD h;exact⟨λc1 h1 _=>cQ.frame hx (λ_ _=>rfl) (λb hb=>h1 b (.inl hb)),λ_ _ _ hh=>by cases hh⟩
 |fn f g7=>obtain rfl:=aD h;exact⟨λc1 h1 _=>dP.frame (a:= .fn f g7) hx (λ_ _=>rfl) (λb hb=>h1 b (.inl hb)) (λn hn=>by simp[bw]at hn),λ_ _ _ hh=>by cases hh⟩
 |own n=>
  obtain⟨ob,hg,h⟩:=Rd.bind_some h;have hg:=cY hg;have hx:u=mf (c.P n):=hx;cases ob with
  |row el ex xs=>
   cases mt with
   |true=>obtain rfl:=aD h;exact⟨xs,hg,rfl,hx⟩
   |false=>
    obtain rfl:=aD h;refine⟨λc1 h1 _=> ?_,λ_ _ _ hh=>by cases hh⟩
    obtain⟨r1,r2⟩:=rd hg c1 h1;rw[hx];exact qn b7 hg r1 r2
  |eZ el xs=>
   obtain rfl:=aD h;refine⟨λc1 h1 _=> ?_,λ_ _ _ hh=>by cases hh⟩
   rw[hx];exact cQ.frame (b7.obj n _ hg).1 (λ_ _=>rfl) (λb hb=>h1 b (.inl hb))
  |_=>simp at h
 |vw n lo hi=>
  cases mt with
  |true=>simp[xJ]at h
  |false=>
  obtain⟨ob,hg,h⟩:=Rd.bind_some h;have hg:=cY hg;cases ob with
  |row el ex xs=>
   obtain rfl:=aD h;refine⟨λc1 h1 _=> ?_,λ_ _ _ hh=>by cases hh⟩
   obtain⟨r1,r2⟩:=rd hg c1 h1;exact CI b7 hg r1 r2 hx
  |eZ el xs=>
   obtain rfl:=aD h;refine⟨λc1 h1 _=> ?_,λ_ _ _ hh=>by cases hh⟩
   exact cQ.frame (nS b7 hg hx) (λ_ _=>rfl) (λb hb=>h1 b (.inl hb))
  |_=>simp at h
 |inn n i j=>
  obtain⟨ob,hg,h⟩:=Rd.bind_some h;have hg:=cY hg;cases ob with
  |row el ex xs=>
   cases ex with
   |false=>simp at h
   |true=>
   obtain⟨te,ht,h⟩:=Rd.bind_some h;have ht:=dC ht;split at h
   ·rename_i e2 xE;obtain⟨t2,Es,h⟩:=Rd.bind_some h;obtain⟨_,h⟩:=cj h;obtain rfl:=aD h;obtain⟨⟨hi,hx⟩,_⟩:=hx;obtain⟨zs,y,t3,q1,q2,q3,q4,q5,q6,q7,q8⟩:=uT b7 hg ht xE hi;refine⟨λc1 h1 _=> ?_,λ_ _ _ hh=>by cases hh⟩
    show cQ E w c1.K u (.l e2 (g9 (ar xs i j)));rw[ew q1 q2,hx];obtain⟨r1,r2⟩:=rd hg c1 h1;exact mN q3 q5 q6 (q7.frame (λ_=>rfl) (λi' j' y' x' u' hy' nV hr=>jb (ic q4 (q6 y' (aP hy')) nV) hr)) (λhn=>r2 _ (.inr ⟨rfl,i,j,⟨y,_,q1,q2,rfl⟩,hn,rfl⟩))
   ·simp at h
  |_=>simp at h
 |_=>simp[xJ]at h
theorem Cy(b7:Ok E σ w c){mt:aW}:∀{xs:ax AV} {l:ax Pk},(Aw E mt xs).val σ=ah l->l.length=xs.length/\∀(j:aE) (k:Pk),l[j]? =ah k->∃x,xs[j]? =ah x/\(xJ E mt x).val σ=ah k:=by
 intro xs;induction xs with
 |nil=>intro l h;obtain rfl:=aD h;exact⟨rfl,λj k h=>by simp at h⟩
 |cons x xs ih=>
  intro l h;obtain⟨k,h1,h⟩:=Rd.bind_some h;obtain⟨l',h2,h⟩:=Rd.bind_some h;obtain rfl:=aD h;obtain⟨i1,i2⟩:=ih h2;refine⟨by simp[i1],λj k' hj=> ?_⟩
  cases j with
  |zero=>cases hj;exact⟨x,rfl,h1⟩
  |succ j=>exact i2 j k' hj
structure xW (T:Tab) (σ:St) (w:bB) (c:eB) (my:ax aE) (pa:Pa) (v:a_):Prop where
 len:pa.cs.length<=100
 val:pa.box=aj->∃agg,pa.arg= .v agg (pa.cs.map (·.a))/\((agg=ak/\∃k,pa.cs=[k]/\tC T σ w c my k v)\/(agg=ai/\∃vals:c_ a_,v= .agg vals/\vals.size=pa.cs.length/\∀(j:aE) (k:Pk),pa.cs[j]? =ah k->∃u:a_,vals[j]? =ah u/\tC T σ w c my k u))
 box:∀n xs,pa.box=ah (n,xs)->pa.arg= .pt (pa.cs.map (·.a))/\v= .pointer (ah (ad (c.P n).blk 0))/\σ (cK n)= .o (.box xs)/\pa.cs.length=xs.length/\
  (∃vals,oX w (c.P n).blk vals/\vals.size=xs.length/\∀(j:aE) (k:Pk),pa.cs[j]? =ah k->∃u:a_,vals[j]? =ah u/\tC T σ w c my k u)/\
  ∀(j:aE) (k:Pk) (nm e:aE) (ex:aW),pa.cs[j]? =ah k->k.src= .own nm e ex->xs[j]? =ah (.own nm)
theorem DS{pa:Pa}{j:aE}{k:Pk}(h:pa.cs[j]? =ah k):∀n∈k.rd,n∈pa.my:=λn hn=>bA.2 ⟨k,aP h,hn⟩
theorem LO{mt:aW}{x:AV}{k:Pk}(h:(xJ E mt x).val σ=ah k){nm e:aE}{ex:aW}(hs:k.src= .own nm e ex):x= .own nm:=by
 cases x with
 |own n=>
  obtain⟨ob,hg,h⟩:=Rd.bind_some h;cases ob with
  |row el sr xs=>
   cases mt with
   |true=>obtain rfl:=aD h;cases hs;rfl
   |false=>obtain rfl:=aD h;cases hs
  |eZ el xs=>obtain rfl:=aD h;cases hs
  |_=>simp at h
 |vw n lo hi=>
  cases mt with
  |true=>simp[xJ]at h
  |false=>
  obtain⟨ob,hg,h⟩:=Rd.bind_some h;cases ob with
  |row=>obtain rfl:=aD h;cases hs
  |eZ=>obtain rfl:=aD h;cases hs
  |_=>simp at h
 |inn n i j=>
  obtain⟨ob,hg,h⟩:=Rd.bind_some h;cases ob with
  |row el ex xs=>
   cases ex with
   |false=>simp at h
   |true=>
   obtain⟨te,ht,h⟩:=Rd.bind_some h;split at h
   ·obtain⟨t2,Es,h⟩:=Rd.bind_some h;obtain⟨_,h⟩:=cj h;obtain rfl:=aD h;cases hs
   ·simp at h
  |_=>simp at h
 |i=>obtain rfl:=aD h;cases hs
 |b=>obtain rfl:=aD h;cases hs
 |s=>obtain rfl:=aD h;cases hs
 |nl=>obtain rfl:=aD h;cases hs
 |sh=>obtain rfl:=aD h;cases hs
 |fn=>obtain rfl:=aD h;cases hs
 |_=>simp[xJ]at h
theorem Sr(b7:Ok E σ w c){mt:aW}{x:SV}{pa:Pa}{v:a_}(h:(Zb E mt x).val σ=ah pa)(hl:pa.cs.length<=100)(hx:iA E w c x v):xW E σ w c pa.my pa v:=by
 have gen:∀agg xs,x= .v agg xs->((Aw E mt xs).bind λl=>Rd.ret (⟨.v agg (l.map (·.a)),aj,l⟩:Pa)).val σ=ah pa->xW E σ w c pa.my pa v:=by
  rintro agg xs rfl h;obtain⟨l,h1,h⟩:=Rd.bind_some h;obtain rfl:=aD h;obtain⟨i1,i2⟩:=Cy b7 h1;refine⟨hl,λ_=>⟨agg,rfl, ?_⟩,λn ys hb=>by cases hb⟩
  replace hx:o4 E w c agg xs v:=hx;unfold o4 at hx;split at hx
  ·rename_i y;left;obtain⟨k,rfl⟩:=f_.1 (i1.trans rfl);obtain⟨y',hy,hk⟩:=i2 0 k rfl;cases hy;exact⟨rfl,k,rfl,(Av b7 hk hx).mono (DS (j:=0) (pa:=⟨.v ak ([k].map (·.a)),aj,[k]⟩) rfl)⟩
  ·obtain⟨vals,rfl,hs,hv⟩:=hx;right;refine⟨rfl,vals,rfl,by rw[hs];exact i1.symm,λj k hj=> ?_⟩
   obtain⟨y,hy,hk⟩:=i2 j k hj;obtain⟨u,hu,ha⟩:=hv j y hy;exact⟨u,hu,(Av b7 hk ha).mono (DS (j:=j) (pa:=⟨.v ai (l.map (·.a)),aj,l⟩) hj)⟩
  ·exact hx.elim
 unfold Zb at h;split at h
 ·rename_i n;obtain⟨_,h⟩:=cj h;obtain⟨ob,hg,h⟩:=Rd.bind_some h;have hg:=cY hg;cases ob with
  |box xs=>
   obtain⟨l,h1,h⟩:=Rd.bind_some h;obtain rfl:=aD h;obtain⟨i1,i2⟩:=Cy b7 h1;obtain⟨vals,hb,hs,hv⟩:=b7.obj n _ hg;refine⟨hl,λhb=>(by cases hb),λm ys S3=> ?_⟩
   cases S3;refine⟨rfl,hx,hg,i1,⟨vals,hb,hs,λj k hj=> ?_⟩,λj k nm e ex hj Lp=> ?_⟩
   ·obtain⟨y,hy,hk⟩:=i2 j k hj;obtain⟨u,hu,ha⟩:=hv j y hy;exact⟨u,hu,(Av b7 hk ha).mono (DS (j:=j) (pa:=⟨.pt (l.map (·.a)),ah (n,xs),l⟩) hj)⟩
   ·obtain⟨y,hy,hk⟩:=i2 j k hj;rw[hy,LO hk Lp]
  |_=>simp at h
 ·rename_i agg xs _;exact gen _ _ rfl h
 ·simp at h
theorem JU{T:Tab}{k:Ck}{y:AV}{u:a_}(h:dP T w c y u):dP T w c (Ut k y) u:=by
 unfold Ut;split
 ·rename_i e;have:u= .slice aj 0 0:=h;subst this;exact .nl _ _ _
 ·exact h
theorem FQ:∀(ks:ax Ck) (xs:ax AV),(Ak ks xs).length=xs.length
 |[],[]=>rfl
 |[],_::_=>rfl
 |_::_,[]=>rfl
 |k::ks,y::r=>by simp[Ak,FQ ks r]
theorem JV{T:Tab}:∀(ks:ax Ck) (xs:ax AV) (j:aE) (y:AV),(Ak ks xs)[j]? =ah y->∃z,xs[j]? =ah z/\∀u,dP T w c z u->dP T w c y u
 |[],xs,j,y,h=>⟨y,by simpa [Ak]using h,λ_ h=>h⟩
 |_::_,[],j,y,h=>by simp[Ak]at h
 |k::ks,x::r,0,y,h=>by
  simp only[Ak,qI,iM]at h;subst h;exact⟨x,rfl,λu hu=>JU hu⟩
 |k::ks,x::r,j+1,y,h=>by simp only[Ak,dy]at h;exact JV ks r j y h
theorem aaK{T:Tab}{t:aA aE}{s:SV}{v:a_}(h:iA T w c s v):iA T w c (nlz T t s) v:=by
 unfold nlz;split
 ·exact h
 ·split
  ·rename_i ti g xs _;have h:o4 T w c g xs v:=h;show o4 T w c g (Ak ti.ks xs) v;unfold o4 at h;split at h
   ·rename_i y;cases hk:ti.ks with
    |nil=>exact h
    |cons k ks=>
     have e:∀z,Ak (k::ks) [z]=[Ut k z]:=λz=>by cases ks<;>rfl
     rw[e];exact JU h
   ·obtain⟨vals,h1,h2,h3⟩:=h;refine⟨vals,h1,by rw[FQ];exact h2,λj y hj=> ?_⟩
    obtain⟨z,hz,hy⟩:=JV (T:=T) (w:=w) (c:=c) ti.ks _ j y hj;obtain⟨u,hu,ha⟩:=h3 j z hz;exact⟨u,hu,hy u ha⟩
   ·cases h
  ·exact h
theorem NM(b7:Ok E σ w c)(di:eG E σ a w c){f:aE}{Mx:aA (ax aE)}:∀{xs:ax c5} {p:aE} {ps:ax Pa},(NL E f Mx p xs).val σ=ah ps->ps.length=xs.length/\∀(q:aE) (pa:Pa),ps[q]? =ah pa->∃x,xs[q]? =ah x/\xW E σ w c pa.my pa (a.eval x):=by
 intro xs;induction xs with
 |nil=>intro p ps h;obtain rfl:=aD h;exact⟨rfl,λq pa h=>by simp at h⟩
 |cons x xs ih=>
  intro p ps h;obtain⟨v,h1,h⟩:=Rd.bind_some h;obtain⟨pa,h2,h⟩:=Rd.bind_some h;obtain⟨hl,h⟩:=cj h;obtain⟨l,h3,h⟩:=Rd.bind_some h;obtain rfl:=aD h;obtain⟨i1,i2⟩:=ih h3;refine⟨by simp[i1],λq pa' hq=> ?_⟩
  cases q with
  |zero=>
   cases hq;refine⟨x,rfl,Sr b7 h2 (cu hl) ?_⟩
   cases E.mode f p with
   |true=>exact(kX di h1).1
   |false=>exact aaK (kX di h1).1
  |succ q=>exact i2 q pa' hq
theorem xW.mono{T:Tab}{my P5:ax aE}{pa:Pa}{v:a_}(h:xW T σ w c my pa v)(hs:∀n∈my,n∈P5):xW T σ w c P5 pa v:=by
 refine⟨h.len,λhb=> ?_,λn xs hb=> ?_⟩
 ·obtain⟨agg,h1,h2⟩:=h.val hb;refine⟨agg,h1, ?_⟩
  rcases h2 with ⟨h3,k,h4,h5⟩|⟨h3,vals,h4,h5,h6⟩
  ·exact .inl ⟨h3,k,h4,h5.mono hs⟩
  ·exact .inr ⟨h3,vals,h4,h5,λj k hj=>by obtain⟨u,hu,hk⟩:=h6 j k hj;exact⟨u,hu,hk.mono hs⟩⟩
 ·obtain⟨h1,h2,h3,h4,⟨vals,h5,h6,h7⟩,h8⟩:=h.box n xs hb;exact⟨h1,h2,h3,h4,⟨vals,h5,h6,λj k hj=>by obtain⟨u,hu,hk⟩:=h7 j k hj;exact⟨u,hu,hk.mono hs⟩⟩,h8⟩
end
end Go.FG

namespace Go.FG
theorem kF{α:Type}{f:α->ax aE}:∀{l:ax α},(l.flatMap f).Nodup->(∀(i j:aE) (x y:α) (z:aE),l[i]? =ah x->l[j]? =ah y->z∈f x->z∈f y->i=j)/\∀x∈l,(f x).Nodup:=by
 intro l;induction l with
 |nil=>intro _;exact⟨λi j x y z h=>by simp at h,λx h=>by cases h⟩
 |cons a l ih=>
  intro h;rw[vV]at h;obtain⟨h1,h2,h3⟩:=dV.1 h;obtain⟨i1,i2⟩:=ih h2;refine⟨λi j x y z hi hj hx hy=> ?_,λx hx=> ?_⟩
  ·cases i with
   |zero=>
    cases hi;cases j with
    |zero=>rfl
    |succ j=>exact cw rfl (h3 z hx z (bA.2 ⟨y,aP hj,hy⟩))
   |succ i=>
    cases j with
    |zero=>cases hj;exact cw rfl (h3 z hy z (bA.2 ⟨x,aP hi,hx⟩))
    |succ j=>rw[i1 i j x y z hi hj hx hy]
  ·rcases cq.1 hx with rfl|hx
   ·exact h1
   ·exact i2 x hx
def loc(ps:ax Pa)(m:aE):aA aE:=
 match ps[(m-900000000)/1000]? with
 |none=>aj
 |some pa=>if(m-900000000)%1000=900 then pa.box.map (·.1)else(pa.cs[(m-900000000)%1000]?).bind λk=>match k.src with| .own nm _ _=>ah nm| .no=>aj
theorem DQ{ps:ax Pa}{p j:aE}{pa:Pa}{k:Pk}{nm e:aE}{ex:aW}(hp:ps[p]? =ah pa)(hj:pa.cs[j]? =ah k)(hs:k.src= .own nm e ex)(hl:j<900):loc ps (dI p j)=ah nm:=by obtain⟨h1,h2⟩:=sD (p:=p) (j:=j) (by omega);unfold loc;rw[h1,h2,hp];simp only;rw[bJ (by omega),hj];simp only[Option.bind_some,hs]
theorem yQ{ps:ax Pa}{p n:aE}{pa:Pa}{xs:ax AV}(hp:ps[p]? =ah pa)(hb:pa.box=ah (n,xs)):loc ps (dI p 900)=ah n:=by obtain⟨h1,h2⟩:=sD (p:=p) (j:=900) (by omega);unfold loc;rw[h1,h2,hp];simp[hb]
def pf(σ:St)(c:eB)(ps:ax Pa):eB:=
 ⟨λm=>match loc ps m with|some n=>c.P n|none=>⟨ai,0,0,0,0,0⟩,λm=>match loc ps m with|some n=>c.G n|none=>λ_ _=>⟨ai,0,0,0,0,0⟩,YE σ c (ps.flatMap (·.my))⟩
theorem sj{σ:St}{c:eB}{ps:ax Pa}{m n:aE}(h:loc ps m=ah n):(pf σ c ps).P m=c.P n/\(pf σ c ps).G m=c.G n:=by unfold pf;simp only[h];exact⟨trivial,trivial⟩
section
variable {P:cL} {E:eP} {σ:St} {a:Act} {w:bB} {c:eB} {o:eJ} {nm:aE} {e:qU}
structure Handed (T:Tab) (σ:St) (w:bB) (c:eB) (ps:ax Pa) (yL:ax (ax CV)) (vs:c_ a_):Prop where
 size:vs.size=ps.length+yL.length
 at_:∀(q:aE) (pa:Pa),ps[q]? =ah pa->∃v,vs[q]? =ah v/\xW T σ w c (ps.flatMap (·.my)) pa v
 fb:∀(q:aE) (cs:ax CV),yL[q]? =ah cs->∃b,vs[ps.length+q]? =ah (.pointer (ah (ad b 0)))/\FB T w c.K b cs
 nd:(ps.flatMap (·.sC)).Nodup
 ap:∀n∈ps.flatMap (·.sC),n∉ps.flatMap (·.my)
def iR(ps:ax Pa)(yL:ax (ax CV)):ax eC:=ps.map (·.arg)++yL.map eC.fb
theorem tK{ps:ax Pa}{yL:ax (ax CV)}{p:aE}{x:eC}(h:(iR ps yL)[p]? =ah x):(∃pa,ps[p]? =ah pa/\x=pa.arg)\/(ps.length<=p/\∃cs,yL[p-ps.length]? =ah cs/\x= .fb cs):=by
 unfold iR at h;by_cases hp:p<ps.length
 ·rw[dB (by simpa using hp),bz]at h;cases hq:ps[p]? with
  |none=>rw[hq]at h;cases h
  |some pa=>rw[hq]at h;cases h;exact .inl ⟨pa,rfl,rfl⟩
 ·rw[cW (by simp;omega),bz,bP]at h;cases hq:yL[p-ps.length]? with
  |none=>rw[hq]at h;cases h
  |some cs=>rw[hq]at h;cases h;exact .inr ⟨by omega,cs,rfl,rfl⟩
theorem PR{T:Tab}{ps:ax Pa}{p j:aE}{pa:Pa}{k:Pk}{u:a_}(hp:ps[p]? =ah pa)(hj:pa.cs[j]? =ah k)(hl:j<900)(h:tC T σ w c (ps.flatMap (·.my)) k u):dP T w (pf σ c ps) (j8 (dI p j) k.a) u:=by
 unfold tC at h;split at h
 ·rename_i n e ex hs;obtain⟨xs,h1,h2,h3⟩:=h;rw[h2];show u=mf ((pf σ c ps).P (dI p j));rw[(sj (DQ hp hj hs hl)).1];exact h3
 ·exact h.1 _ (λb hb=>hb) _
theorem PO{T:Tab}{my:ax aE}{pa:Pa}{v:a_}(h:xW T σ w c my pa v){xs:ax AA}(hx:(∃g,pa.arg= .v g xs)\/pa.arg= .pt xs):xs=pa.cs.map (·.a)/\∀(j:aE) (k:Pk),pa.cs[j]? =ah k->∃u,tC T σ w c my k u:=by
 cases hb:pa.box with
 |none=>
  obtain⟨agg,h1,h2⟩:=h.val hb;rw[h1]at hx;have:xs=pa.cs.map (·.a):=by rcases hx with ⟨g,hx⟩|hx<;>cases hx;rfl
  refine⟨this,λj k hj=> ?_⟩
  rcases h2 with ⟨_,k',hk,hp⟩|⟨_,vals,_,_,hp⟩
  ·rw[hk]at hj;cases j with
   |zero=>cases hj;exact⟨_,hp⟩
   |succ j=>simp at hj
  ·obtain⟨u,_,hu⟩:=hp j k hj;exact⟨u,hu⟩
 |some nx=>
  obtain⟨n,ys⟩:=nx;obtain⟨h1,_,_,_,⟨vals,_,_,hp⟩,_⟩:=h.box n ys hb;rw[h1]at hx;have:xs=pa.cs.map (·.a):=by rcases hx with ⟨g,hx⟩|hx<;>cases hx;rfl
  exact⟨this,λj k hj=>by obtain⟨u,_,hu⟩:=hp j k hj;exact⟨u,hu⟩⟩
theorem uS(b7:Ok E σ w c){ps:ax Pa}{yL:ax (ax CV)}{vs:c_ a_}(hh:Handed E σ w c ps yL vs){m:aE}{ob:Obj}(h:inj (iR ps yL) (cK m)= .o ob):
  ∃n o p pa,loc ps m=ah n/\ps[p]? =ah pa/\n∈pa.sC/\σ (cK n)= .o o/\oe E w (pf σ c ps) m ob/\(∀b,eN (pf σ c ps) m ob b->eN c n o b)/\
   ((m=dI p 900/\∃xs,pa.box=ah (n,xs))\/∃j k e ex,m=dI p j/\j<900/\pa.cs[j]? =ah k/\k.src= .own n e ex):=by
 obtain⟨p,x,h0,h⟩:=yP h;have anJ:∀cs xs,x= .fb cs->¬((∃g,x= .v g xs)\/x= .pt xs):=by rintro cs xs rfl (⟨g,h⟩|h)<;>cases h
 rcases tK h0 with ⟨pa,hp,rfl⟩|⟨_,cs,_,hx⟩
 ·obtain⟨v,hv,HC⟩:=hh.at_ p pa hp;rcases h with ⟨xs,hx,rfl,rfl⟩|⟨xs,j,e,ex,ys,hx,hj,rfl,rfl⟩
  ·cases hb:pa.box with
   |none=>obtain⟨agg,h1,_⟩:=HC.val hb;rw[h1]at hx;cases hx
   |some nx=>
    obtain⟨n,zs⟩:=nx;obtain⟨h1,h2,h3,h4,⟨vals,h5,h6,h7⟩,_⟩:=HC.box n zs hb;rw[h1]at hx;cases hx;have Ou:=yQ hp hb;obtain⟨e1,e2⟩:=sj (σ:=σ) (c:=c) Ou;refine⟨n,_,p,pa,Ou,hp,by simp[Pa.sC,hb],h3, ?_,λb hf=>by rw[show b=_ from hf,e1];rfl, .inl ⟨rfl,zs,hb⟩⟩
    refine⟨vals,by rw[e1];exact h5,by rw[g6,bP,h6];exact h4.symm,λj y hj=> ?_⟩
    rw[gK,bz]at hj;cases hk:pa.cs[j]? with
    |none=>rw[hk]at hj;cases hj
    |some k=>
     rw[hk]at hj;cases hj;obtain⟨u,hu,Tc⟩:=h7 j k hk;have jt:j<900:=by have:=(aT.1 hk).1;have:=HC.len;omega
     refine⟨u,hu, ?_⟩
     have hn:dI p 0+j=dI p j:=by unfold dI;omega
     rw[hn];exact PR hp hk jt Tc
  ·obtain⟨Wm,Tc⟩:=PO HC hx;rw[Wm,bz]at hj;cases hk:pa.cs[j]? with
   |none=>rw[hk]at hj;cases hj
   |some k=>
    rw[hk]at hj;have hka:k.a= .ow e ex ys:=by simpa using hj
    obtain⟨u,hu⟩:=Tc j k hk;have jt:j<900:=by have:=(aT.1 hk).1;have:=HC.len;omega
    unfold tC at hu;split at hu
    ·rename_i n e' sr hs;obtain⟨zs,q1,q2,q3⟩:=hu;rw[hka]at q2;cases q2;have Ou:=DQ hp hk hs jt;obtain⟨e1,e2⟩:=sj (σ:=σ) (c:=c) Ou;refine⟨n,_,p,pa,Ou,hp, ?_,q1, ?_,λb hf=>by rw[kU (c:=⟨λ_=>c.P n,λ_=>c.G n,c.K⟩) (c':=pf σ c ps) ⟨e1,e2⟩]at hf;exact hf, .inr ⟨j,k,e,ex,rfl,jt,hk,hs⟩⟩
     ·refine bH _ (bA.2 ⟨k,aP hk, ?_⟩);simp[Pk.sC,hs]
     ·have mg:=b7.obj n _ q1;obtain⟨⟨t2,r1,r2,r3⟩,r4,r5⟩:=mg;refine⟨⟨t2,r1,by rw[e1];exact r2,r3⟩, ?_,λhx=>by rw[e1,e2];exact r5 hx⟩
      rw[e1,e2];refine r4.frame (λ_=>rfl) (λi j y x u hy hx hr=> ?_);split at hr
      ·rename_i nV;rw[bu nV];exact hr
      ·rename_i nV;rw[bJ nV];exact hr.frame (λ_ _=>rfl) (λb hb=> .inl hb)
    ·exact cw hka (hu.2 _ _ _)
 ·rcases h with ⟨xs,h,_⟩|⟨xs,j,e,ex,ys,h,_⟩
  ·rw[hx]at h;cases h
  ·exact cw h (anJ cs xs hx)
theorem enter(b7:Ok E σ w c){ps:ax Pa}{yL:ax (ax CV)}{vs:c_ a_}(hh:Handed E σ w c ps yL vs):
  Ok E (inj (iR ps yL)) w (pf σ c ps)/\(∀(p:aE) (x:eC),(iR ps yL)[p]? =ah x->∃v,vs[p]? =ah v/\iA E w (pf σ c ps) (rL p x) v)/\
  ∀b,vH (inj (iR ps yL)) (pf σ c ps) b->∃n∈ps.flatMap (·.sC),∃o,σ (cK n)= .o o/\eN c n o b:=by
 have FN:∀{p:aE} {pa:Pa} {n:aE},ps[p]? =ah pa->n∈pa.sC->n∈ps.flatMap (·.sC):=λhp hn=>bA.2 ⟨_,aP hp,hn⟩;obtain⟨nd1,nd2⟩:=kF hh.nd;refine⟨⟨λm ob h=> ?_,λm ob m' ob' b h h' hf uP=> ?_,λm ob b h hf hk=> ?_,λb hb=> ?_,λm xs h=>DM h,E.gp.fr b7.gp (λ_ _=>rfl) (λb hb=> .inl hb)⟩,λp x hx=> ?_, ?_⟩
 ·obtain⟨n,o,p,pa,_,_,_,_,h,_⟩:=uS b7 hh h;exact h
 ·obtain⟨n,o,p,pa,_,hp,hn,ho,_,ot,mh⟩:=uS b7 hh h;obtain⟨n',o',p',pa',_,mL,jG,tc,_,Ot,Wi⟩:=uS b7 hh h';have:=b7.sep n o n' o' b ho tc (ot b hf) (Ot b uP);subst this;have:=nd1 p p' pa pa' n hp mL hn jG;subst this;rw[hp]at mL;cases mL;have ndm:=nd2 pa (aP hp);unfold Pa.sC at ndm;obtain⟨_,m2,m3⟩:=dV.1 ndm;have adV:∀(j:aE) (k:Pk) (e:aE) (ex:aW),pa.cs[j]? =ah k->k.src= .own n e ex->n∈pa.cs.flatMap (·.sC):=λj k e ex hk hs=>bA.2 ⟨k,aP hk,by simp[Pk.sC,hs]⟩;rcases mh with ⟨rfl,xs,hb⟩|⟨j,k,e,ex,rfl,hj,hk,hs⟩
  ·rcases Wi with ⟨rfl,_⟩|⟨j',k',e',sr,rfl,DJ,ta,hs'⟩
   ·rfl
   ·exact cw rfl (m3 n (by simp[hb]) n (adV _ _ _ _ ta hs'))
  ·rcases Wi with ⟨rfl,xs,hb⟩|⟨j',k',e',sr,rfl,DJ,ta,hs'⟩
   ·exact cw rfl (m3 n (by simp[hb]) n (adV _ _ _ _ hk hs))
   ·have:=(kF m2).1 j j' k k' n hk ta (by simp[Pk.sC,hs]) (by simp[Pk.sC,hs']);rw[this]
 ·obtain⟨n,o,p,pa,_,hp,hn,ho,_,ot,_⟩:=uS b7 hh h;rcases hk with hk|⟨n',jG,o',tc,uP⟩
  ·exact b7.kk n o b ho (ot b hf) hk
  ·have:=b7.sep n o n' o' b ho tc (ot b hf) uP;subst this;exact hh.ap n (FN hp hn) jG
 ·rcases hb with hb|⟨n',jG,o',tc,uP⟩
  ·exact b7.lt b hb
  ·exact vH.lt b7 ⟨n',o',tc,uP⟩
 ·rcases tK hx with ⟨pa,hp,rfl⟩|⟨hle,cs,A3,rfl⟩
  ·obtain⟨v,hv,HC⟩:=hh.at_ p pa hp;refine⟨v,hv, ?_⟩
   have small:∀{j:aE} {k:Pk},pa.cs[j]? =ah k->j<900:=λhj=>by have:=(aT.1 hj).1;have:=HC.len;omega
   cases hb:pa.box with
   |none=>
    obtain⟨agg,h1,h2⟩:=HC.val hb;rw[h1];rcases h2 with ⟨rfl,k,hk,Tc⟩|⟨rfl,vals,rfl,hs,hc⟩
    ·rw[hk];have:=PR (j:=0) hp (by rw[hk];rfl) (by omega) Tc;exact this
    ·refine⟨vals,rfl,by rw[g6,bP];exact hs,λj y hj=> ?_⟩
     rw[gK,bz]at hj;cases hk:pa.cs[j]? with
     |none=>rw[hk]at hj;cases hj
     |some k=>
      rw[hk]at hj;cases hj;obtain⟨u,hu,Tc⟩:=hc j k hk;refine⟨u,hu, ?_⟩
      have hn:dI p 0+j=dI p j:=by unfold dI;omega
      rw[hn];exact PR hp hk (small hk) Tc
   |some nx=>obtain⟨n,zs⟩:=nx;obtain⟨h1,h2,_⟩:=HC.box n zs hb;rw[h1];show v= .pointer (ah (ad ((pf σ c ps).P (dI p 900)).blk 0));rw[(sj (yQ hp hb)).1];exact h2
  ·obtain⟨b,hv,hf⟩:=hh.fb (p-ps.length) cs A3;rw[show ps.length+(p-ps.length)=p by omega]at hv;exact⟨_,hv,b,rfl,hf.frame (λ_ _=>rfl) (λb hb=> .inl hb)⟩
 ·rintro b ⟨m,ob,h,hf⟩;obtain⟨n,o,p,pa,_,hp,hn,ho,_,ot,_⟩:=uS b7 hh h;exact⟨n,FN hp hn,o,ho,ot b hf⟩
end
end Go.FG

namespace Go.FG
def rR(p j:aE)(a:AA):AV:=match a with| .kp _=> .own (dI p j)|a=>j8 (dI p (100+j)) a
def mV(p:aE):aE->ax AA->ax AV
 |_,[]=>[]|j,a::r=>rR p j a::mV p (j+1) r
def F2(p j:aE)(a b:AA):ax (aE×dY):=
 match b with
 | .kp ys=>(match a with| .ow e ex _=>[(cK (dI p j), .o (.row e ex ys))]|_=>[])
 | .ow e ex ys=>[(cK (dI p (100+j)), .o (.row e ex ys))]
 |_=>[]
def tY(p:aE):aE->ax AA->ax AA->ax (aE×dY)
 |_,_,[]=>[]|j,as,b::r=>F2 p j (as.headD .nl) b++tY p (j+1) as.tail r
def Cw(p:aE)(a:eC)(l:ax AA):ax (aE×dY):=
 match a with
 | .v _ xs=>tY p 0 xs l
 | .pt xs=>(cK (dI p 900), .o (.box (mV p 0 l)))::tY p 0 xs l
 | .fb _=>[]
def LK:aE->ax eC->ax (ax AA)->ax (aE×dY)
 |_,[],_=>[]|p,a::r,l=>Cw p a (l.headD [])++LK (p+1) r l.tail
def LW:aE->ax eC->ax (aE×dY)
 |_,[]=>[]|q,a::r=>uR q a++LW (q+1) r
def oi(args:ax eC)(r:dz):St:=eO (LW 500 r.rs++LK 0 args r.outs)
def Dq(q:aE)(a:eC):aW×ax AV:=match a with| .v g xs=>(g,fC (dI q 0) xs)| .pt _=>(ak,[.bp (dI q 900) 0])| .fb xs=>(ak,[.fp xs 0])
def j9:aE->ax eC->ax (aW×ax AV)
 |_,[]=>[]|q,a::r=>Dq q a::j9 (q+1) r
def UL(rs:ax eC):SV:=qD (j9 500 rs)
def VT(T:Tab)(args:ax eC)(r:dz)(c1:eB)(w:bB)(v:a_)(w':bB):Prop:=
 ∃c3,Ok T (oi args r) w' c3/\nb (inj args) c1 w (oi args r) c3 w'/\(∀m,inj args (cK m)≠ .iU->c3.P m=c1.P m/\c3.G m=c1.G m)/\iA T w' c3 (UL r.rs) v
def kS(P:cL)(T:Tab)(g:aE)(spec:ax eC->aA (aW×dz)):Prop:=
 ∀args r,spec args=ah (ai,r)->∀(w:bB) (c1:eB) (vs:c_ a_),Ok T (inj args) w c1->vs.size=args.length->(∀(p:aE) (x:eC),args[p]? =ah x->∃v,vs[p]? =ah v/\iA T w c1 (rL p x) v)->
  (∃fn,P.funcs[g]? =ah fn/\fn.body.isSome=ai/\(fn.name== "runtime.NumGoroutine")=ak)/\Calls P g vs w (λ| .returned v,w'=>VT T args r c1 w v w'|_,_=>False)
abbrev A_:=aE×aA aE×Obj
def find(L:ax A_)(m:aE):aA aE:=
 match L with
 |[]=>aj
 |(n,t,_)::r=>if m=n then t else find r m
theorem Fh{L:ax A_}{m x:aE}(h:find L m=ah x):∃ob,(m,ah x,ob)∈L:=by
 induction L with
 |nil=>cases h
 |cons d L ih=>
  obtain⟨n,t,ob⟩:=d;unfold find at h;split at h
  ·rename_i hm;subst hm;rw[h];exact⟨ob,du ..⟩
  ·obtain⟨ob,h⟩:=ih h;exact⟨ob,cM _ h⟩
theorem SR{L:ax A_}{m:aE}{t:aA aE}{ob:Obj}(h:(m,t,ob)∈L)(hn:(L.map (·.1)).Nodup):find L m=t:=by
 induction L with
 |nil=>cases h
 |cons d L ih=>
  obtain⟨n,t',ob'⟩:=d;rw[eK,jC]at hn;unfold find;rcases cq.1 h with h'|h'
  ·cases h';rw[bu rfl]
  ·have iq:m≠n:=λe=>hn.1 (cO.2 ⟨_,h',e⟩);rw[bJ iq];exact ih h' hn.2
def kJ(ok:aW)(L:ax A_)(v v3:AV):Prop:=
 (v=v3/\match v with| .i _ _=>True| .b _=>True| .s _=>True| .nl=>True| .sh _ _=>ok=ai|_=>False)\/∃n x ob,v= .own n/\v3= .own x/\(n,ah x,ob)∈L
def Vp(L:ax A_)(v v3:AV):Prop:=∃n x ob,v= .bp n 0/\v3= .bp x 0/\(n,ah x,ob)∈L
def mA(ok:aW)(L:ax A_)(vs vs3:ax AV):Prop:=vs.length=vs3.length/\∀(j:aE) (v v3:AV),vs[j]? =ah v->vs3[j]? =ah v3->kJ ok L v v3
def ArgRel(ok:aW)(L:ax A_)(s s3:aW×ax AV):Prop:=s.1=s3.1/\s.2.length=s3.2.length/\∀(j:aE) (v v3:AV),s.2[j]? =ah v->s3.2[j]? =ah v3->kJ ok L v v3\/Vp L v v3
def CM(ok:aW)(L:ax A_)(s s3:ax (aW×ax AV)):Prop:=s.length=s3.length/\∀(j:aE) (x x3:aW×ax AV),s[j]? =ah x->s3[j]? =ah x3->ArgRel ok L x x3
structure Vs (σ σ3:St) (c c3:eB) (ok:aW) (sC:ax aE) (L:ax A_) (n:aE) (t:aA aE) (ob:Obj):Prop where
 old:σ (cK n)≠ .iU->n∈sC
 new:σ (cK n)= .iU->n<900000000
 dead:t=aj->ob= .dead
 some_:∀x,t=ah x->(σ (cK n)≠ .iU->c3.P x=c.P n/\c3.G x=c.G n)/\
  ((∃e ex ys,ob= .row e ex ys/\σ3 (cK x)= .o (.row e ex ys)/\(ex=ai\/ok=ai))\/∃vs vs3,ob= .box vs/\σ3 (cK x)= .o (.box vs3)/\mA ok L vs vs3)
section
variable {P:cL} {E:eP} {σ:St} {a:Act} {w:bB} {c:eB} {o:eJ} {nm:aE} {e:qU}
theorem leave(b7:Ok E σ w c)(di:eG E σ a w c)(hd:∀d,o.dst=ah d->d<a.tmps.size){ps:ax Pa}{yL:ax (ax CV)}{vs:c_ a_}(hh:Handed E σ w c ps yL vs)
  {r:dz} {v:a_} {w':bB} {c3:eB} (DK:Ok E (oi (iR ps yL) r) w' c3) (vI:nb (inj (iR ps yL)) (pf σ c ps) w (oi (iR ps yL) r) c3 w') (vK:iA E w' c3 (UL r.rs) v)
  {ok:aW} {L:ax A_} {Fz:ax (aE×Obj)} (hL:∀n t ob,(n,t,ob)∈L->Vs σ (oi (iR ps yL) r) c c3 ok (ps.flatMap (·.sC)) L n t ob) (Fv:(L.map (·.1)).Nodup)
  (alb:∀n n' x ob ob',(n,ah x,ob)∈L->(n',ah x,ob')∈L->n=n') (od:∀n∈ps.flatMap (·.sC),∃t ob,(n,t,ob)∈L)
  (ZD:∀n x,(n,x)∈Fz->ok=ai/\n∈ps.flatMap (·.my)/\∃el ex xs,σ (cK n)= .o (.row el ex xs)/\x= .eZ el xs) (hFa:ok=ai->∀n∈ps.flatMap (·.my),∃x,(n,x)∈Fz)
  {ss:ax (aW×ax AV)} (hss:CM ok L ss (j9 500 r.rs)):
  ∃c',Ok E (wr σ (jq (Fz++L.map λt=>(t.1,t.2.2))++dw o (qD ss))) w' c'/\eG E (wr σ (jq (Fz++L.map λt=>(t.1,t.2.2))++dw o (qD ss))) (a.put o.dst v) w' c'/\nb σ c w (wr σ (jq (Fz++L.map λt=>(t.1,t.2.2))++dw o (qD ss))) c' w'/\iN σ c c':=by
 obtain⟨Ox,_,adK⟩:=enter b7 hh;let D:ax (aE×Obj):=Fz++L.map λt=>(t.1,t.2.2)
 have O8:∀n x,(n,x)∈D->(n,x)∈Fz\/∃t,(n,t,x)∈L:=by
  intro n x hm;rcases aZ.1 hm with h|h
  ·exact .inl h
  ·obtain⟨⟨n',t,ob⟩,h1,h2⟩:=cO.1 h;cases h2;exact .inr ⟨t,h1⟩
 have inD:∀n t ob,(n,t,ob)∈L->(n,ob)∈D:=λn t ob h=>bH _ (cO.2 ⟨_,h,rfl⟩);have anH:∀n,n∈ps.flatMap (·.sC)->sM D n:=λn hn=>by obtain⟨t,ob,h⟩:=od n hn;exact⟨ob,inD n t ob h⟩
 have Au:∀b,vH (inj (iR ps yL)) (pf σ c ps) b->jf (sM D) σ c b:=λb hb=>by obtain⟨n,hn,ob,h1,h2⟩:=adK b hb;exact⟨n,ob,anH n hn,h1,h2⟩
 let K':aE->Prop:=λb=>if ok=ai then c3.K b else c.K b
 let c':eB:=⟨λm=>match find L m with|some x=>c3.P x|none=>c.P m,λm=>match find L m with|some x=>c3.G x|none=>c.G m,K'⟩
 have at_:∀n x ob,(n,ah x,ob)∈L->c'.P n=c3.P x/\c'.G n=c3.G x:=λn x ob h=>by have:=SR h Fv;simp only[c',this];exact⟨trivial,trivial⟩
 have aeh:∀n,find L n=aj->c'.P n=c.P n/\c'.G n=c.G n:=λn h=>by simp only[c',h];exact⟨trivial,trivial⟩
 have hA:iN σ c c':=by
  intro m hm;cases hf:find L m with
  |none=>exact aeh m hf
  |some x=>
   obtain⟨ob,hx⟩:=Fh hf;obtain⟨e1,e2⟩:=at_ m x ob hx;have he:=hL m _ ob hx;rw[e1,e2];by_cases hn:σ (cK m)= .iU
   ·have:=he.new hn;rcases hm with h|h
    ·exact cw hn h
    ·omega
   ·exact(he.some_ x rfl).1 hn
 have YF:ok=ai->∀b,K' b↔c3.K b:=λh b=>by simp only[K',h,if_true]
 have Kno:ok=ak->∀b,K' b↔c.K b:=λh b=>by simp only[K',h];simp
 have K13:∀b,(pf σ c ps).K b->c3.K b:=vI.K;have cK1:∀b,c.K b->(pf σ c ps).K b:=λb hb=> .inl hb;have hK:∀b,c.K b->K' b:=λb hb=>by
  cases h:ok with
  |true=>exact(YF h b).2 (K13 b (cK1 b hb))
  |false=>exact(Kno h b).2 hb
 have Rv:∀b,K' b->c.K b\/jf (sM D) σ c b\/w.heap.size<=b:=λb hb=>by
  cases h:ok with
  |true=>
   rcases vI.kn b ((YF h b).1 hb)with h1|h1|h1
   ·rcases h1 with h1|⟨n,hn,ob,h2,h3⟩
    ·exact .inl h1
    ·obtain⟨x,hx⟩:=hFa h n hn;exact .inr (.inl ⟨n,ob,⟨x,bR _ hx⟩,h2,h3⟩)
   ·exact .inr (.inl (Au b h1))
   ·exact .inr (.inr h1)
  |false=>exact .inl ((Kno h b).1 hb)
 have DG:∀b,K' b->b<w'.heap.size:=λb hb=>by
  cases h:ok with
  |true=>exact DK.lt b ((YF h b).1 hb)
  |false=>exact gF (b7.lt b ((Kno h b).1 hb)) vI.size
 have Og:∀n x ob b,(n,ah x,ob)∈L->eN c' n ob b->∃o3,oi (iR ps yL) r (cK x)= .o o3/\eN c3 x o3 b:=by
  intro n x ob b hm hf;obtain⟨e1,e2⟩:=at_ n x ob hm;rcases((hL n _ ob hm).some_ x rfl).2 with ⟨e,ex,ys,rfl,h3,_⟩|⟨us,Yi,rfl,h3,_⟩
  ·refine⟨_,h3, ?_⟩
   simp only[eN,e1,e2]at hf⊢;exact hf
  ·refine⟨_,h3, ?_⟩
   simp only[eN,e1]at hf⊢;exact hf
 have NZ:∀{v v3:AV} {u:a_},kJ ok L v v3->dP E w' c3 v3 u->dP E w' c' v u/\∀n∈bw v,sM D n:=by
  rintro v v3 u (⟨rfl,h⟩|⟨n,x,ob,rfl,rfl,hm⟩) hu
  ·cases v with
   |sh e xs=>exact⟨cQ.frame hu (λ_ _=>rfl) (λb hb=>(YF h b).2 hb),λn hn=>by simp[bw]at hn⟩
   |i=>exact⟨hu,λn hn=>by simp[bw]at hn⟩
   |b=>exact⟨hu,λn hn=>by simp[bw]at hn⟩
   |s=>exact⟨hu,λn hn=>by simp[bw]at hn⟩
   |nl=>exact⟨hu,λn hn=>by simp[bw]at hn⟩
   |_=>exact h.elim
  ·refine⟨?_,λm uQ=> ?_⟩
   ·show u=mf (c'.P n);rw[(at_ n x ob hm).1];exact hu
   ·have:m=n:=by simpa [bw]using uQ
    subst this;exact⟨ob,inD _ _ _ hm⟩
 have akA:∀{v v3:AV} {u:a_},Vp L v v3->dP E w' c3 v3 u->dP E w' c' v u/\∀n∈bw v,sM D n:=by
  rintro v v3 u ⟨n,x,ob,rfl,rfl,hm⟩ hu;refine⟨?_,λm uQ=> ?_⟩
  ·show u= .pointer (ah (ad (c'.P n).blk 0));rw[(at_ n x ob hm).1];exact hu
  ·have:m=n:=by simpa [bw]using uQ
   subst this;exact⟨ob,inD _ _ _ hm⟩
 have VW:∀{s s3:aW×ax AV} {u:a_},ArgRel ok L s s3->o4 E w' c3 s3.1 s3.2 u->o4 E w' c' s.1 s.2 u/\∀n∈s.2.flatMap bw,sM D n:=by
  rintro ⟨g,xs⟩ ⟨g3,xs3⟩ u ⟨h1,h2,h3⟩ hu;have h1:g=g3:=h1;subst h1;have one:∀(j:aE) (y:AV) (uu:a_),xs[j]? =ah y->(∀y3,xs3[j]? =ah y3->dP E w' c3 y3 uu)->dP E w' c' y uu/\∀n∈bw y,sM D n:=by
   intro j y uu hj hu3;have jt:j<xs3.length:=by rw[<-h2];exact(aT.1 hj).1
   have JF:=h3 j y xs3[j] hj (by simp[jt]);have qB:=hu3 xs3[j] (by simp[jt]);rcases JF with h|h
   ·exact NZ h qB
   ·exact akA h qB
  replace hu:o4 E w' c3 g xs3 u:=hu;unfold o4 at hu;split at hu
  ·rename_i y3;obtain⟨y,rfl⟩:=f_.1 (show xs.length=1 from h2);obtain⟨k1,k2⟩:=one 0 y u rfl (λy3' h=>by cases h;exact hu);exact⟨k1,λn hn=>k2 n (by simpa using hn)⟩
  ·obtain⟨vals,rfl,hs,hv⟩:=hu;have cell:∀(j:aE) (y:AV),xs[j]? =ah y->∃uu:a_,vals[j]? =ah uu/\dP E w' c' y uu/\∀n∈bw y,sM D n:=by
    intro j y hj;have jt:j<xs3.length:=by rw[<-h2];exact(aT.1 hj).1
    obtain⟨uu,hu,ha⟩:=hv j xs3[j] (by simp[jt]);obtain⟨k1,k2⟩:=one j y uu hj (λy3' h=>by simp[jt]at h;rw[<-h];exact ha);exact⟨uu,hu,k1,k2⟩
   refine⟨⟨vals,rfl,by rw[hs];exact h2.symm,λj y hj=> ?_⟩,λn hn=> ?_⟩
   ·obtain⟨uu,k1,k2,_⟩:=cell j y hj;exact⟨uu,k1,k2⟩
   ·obtain⟨y,hy,hn⟩:=bA.1 hn;obtain⟨j,hj⟩:=bV hy;obtain⟨uu,_,_,k3⟩:=cell j y hj;exact k3 n hn
  ·exact hu.elim
 have agu:iA E w' c' (qD ss) v/\∀n∈ch (qD ss),sM D n:=by
  obtain⟨hl,hr⟩:=hss;have jh:∀(l l3:ax (aW×ax AV)),l=ss->l3=j9 500 r.rs->iA E w' c3 (.jh l3) v->iA E w' c' (.jh l) v/\∀n∈ch (.jh l),sM D n:=by
   rintro l l3 rfl rfl ⟨us,rfl,hs,hv⟩;have cell:∀(j:aE) (x:aW×ax AV),l[j]? =ah x->∃u:a_,us[j]? =ah u/\o4 E w' c' x.1 x.2 u/\∀n∈x.2.flatMap bw,sM D n:=by
    intro j x hj;have jt:j<(j9 500 r.rs).length:=by rw[<-hl];exact(aT.1 hj).1
    have h3:(j9 500 r.rs)[j]? =ah ((j9 500 r.rs)[j].1,(j9 500 r.rs)[j].2):=by simp[jt]
    obtain⟨u,hu,ha⟩:=hv j _ _ h3;obtain⟨k1,k2⟩:=VW (hr j x _ hj h3) ha;exact⟨u,hu,k1,k2⟩
   refine⟨⟨us,rfl,by rw[hs];exact hl.symm,λj g xs hj=> ?_⟩,λn hn=> ?_⟩
   ·obtain⟨u,k1,k2,_⟩:=cell j (g,xs) hj;exact⟨u,k1,k2⟩
   ·obtain⟨x,hx,hn⟩:=bA.1 hn;obtain⟨j,hj⟩:=bV hx;obtain⟨u,_,_,k3⟩:=cell j x hj;exact k3 n hn
  unfold UL at vK;cases h3:j9 500 r.rs with
  |nil=>rw[h3]at vK hl;have:ss=[]:=fa hl;subst this;exact jh [] [] rfl h3.symm vK
  |cons x l=>
   cases l with
   |nil=>obtain⟨g,xs⟩:=x;rw[h3]at vK hl;obtain⟨⟨g',Is⟩,rfl⟩:=f_.1 (show ss.length=1 from hl);exact VW (s3:=(g,xs)) (hr 0 _ _ rfl (by rw[h3];rfl)) vK
   |cons y l=>
    rw[h3]at vK hl;match ss,hl with
    |s1::s2::st,_=>exact jh _ (x::y::l) rfl h3.symm vK
    |[_],hl=>simp at hl
    |[],hl=>simp at hl
 refine⟨c', ?_⟩
 have:=EY b7 di hd (D:=D) (s:=qD ss) (v:=v) (w':=w') (c':=c') hA ?_ ?_ ?_ ?_ hK Rv DG ?_ vI.size vI.os vI.tape vI.output agu.1 (λn hn=> .inr (agu.2 n hn))
 ·exact⟨this.1,this.2.1,this.2.2,hA⟩
 ·intro n x hm;rcases O8 n x hm with hm|⟨t,hm⟩
  ·obtain⟨Oy,hn,el,ex,xs,hg,rfl⟩:=ZD n x hm;have adH:find L n=none:=by
    cases hf:find L n with
    |none=>rfl
    |some x=>obtain⟨ob,hx⟩:=Fh hf;have:=(hL n _ ob hx).old (by rw[hg];simp);exact cw hn (hh.ap n this)
   obtain⟨e1,_⟩:=aeh n adH;obtain⟨h1,h2,ti,h3,h4⟩:=jY b7 hg;show cQ E w' K' (mf (c'.P n)) _/\(c'.P n).n=_/\_;rw[e1];refine⟨?_,h1,ti,h3,h4.1⟩
   have:=qn b7 hg (K:=(pf σ c ps).K) cK1 (λb hb=> .inr ⟨n,hn,_,hg,hb⟩);exact this.frame (vI.Vu Ox) (λb hb=>(YF Oy b).2 (K13 b hb))
  ·have he:=hL n t x hm;cases t with
   |none=>rw[he.dead rfl];trivial
   |some y=>
    obtain⟨e1,e2⟩:=at_ n y x hm;rcases(he.some_ y rfl).2 with ⟨el,ex,ys,rfl,h3,hor⟩|⟨us,Yi,rfl,h3,hl,hc⟩
    ·obtain⟨⟨t2,r1,r2,r3⟩,r4,r5⟩:=DK.obj y _ h3;refine⟨⟨t2,r1,by rw[e1];exact r2,r3⟩, ?_,λhx=>by rw[e1,e2];exact r5 hx⟩
     rw[e1,e2];refine r4.frame (λ_=>rfl) (λi j yy xx u hy hx hr=> ?_);split at hr
     ·rename_i nV;rw[bu nV];exact hr
     ·rename_i nV;rw[bJ nV];have Oy:=hor.resolve_left nV;exact hr.frame (λ_ _=>rfl) (λb hb=>(YF Oy b).2 hb)
    ·obtain⟨vals,hb,hs,hv⟩:=DK.obj y _ h3;refine⟨vals,by rw[e1];exact hb,by rw[hs];exact hl.symm,λj yy hj=> ?_⟩
     have jt:j<Yi.length:=by rw[<-hl];exact(aT.1 hj).1
     obtain⟨u,hu,ha⟩:=hv j Yi[j] (by simp[jt]);exact⟨u,hu,(NZ (hc j yy Yi[j] hj (by simp[jt])) ha).1⟩
 ·intro n x b hm hf;rcases O8 n x hm with hm|⟨t,hm⟩
  ·obtain⟨_,_,el,ex,xs,_,rfl⟩:=ZD n x hm;exact hf.elim
  ·cases t with
   |none=>rw[(hL n _ x hm).dead rfl]at hf;exact hf.elim
   |some y=>
    obtain⟨o3,h3,hf3⟩:=Og n y x b hm hf;have tO:jf (sM D) σ c b\/w.heap.size<=b:=(vI.own b ⟨y,o3,h3,hf3⟩).imp (Au b) id;refine⟨tO,λhk=> ?_⟩
    cases h:ok with
    |true=>exact DK.kk y o3 b h3 hf3 ((YF h b).1 hk)
    |false=>
     have hk:=(Kno h b).1 hk;rcases tO with tO|tO
     ·exact b7.HQ tO.own hk
     ·have:=b7.lt b hk;omega
 ·intro n x n' x' b hm uQ hf uP;rcases O8 n x hm with hm|⟨t,hm⟩
  ·obtain⟨_,_,el,ex,xs,_,rfl⟩:=ZD n x hm;exact hf.elim
  ·rcases O8 n' x' uQ with uQ|⟨t',uQ⟩
   ·obtain⟨_,_,el,ex,xs,_,rfl⟩:=ZD n' x' uQ;exact uP.elim
   ·cases t with
    |none=>rw[(hL n _ x hm).dead rfl]at hf;exact hf.elim
    |some y=>
     cases t' with
     |none=>rw[(hL n' _ x' uQ).dead rfl]at uP;exact uP.elim
     |some y'=>obtain⟨o3,h3,hf3⟩:=Og n y x b hm hf;obtain⟨o3',JF,akZ⟩:=Og n' y' x' b uQ uP;have:=DK.sep y o3 y' o3' b h3 JF hf3 akZ;subst this;exact alb n n' y x x' hm uQ
 ·intro n xs hm y hy m hmm;rcases O8 n _ hm with hm|⟨t,hm⟩
  ·obtain⟨_,_,el,ex,zs,_,h⟩:=ZD n _ hm;cases h
  ·have he:=hL n t _ hm;cases t with
   |none=>have:=he.dead rfl;cases this
   |some z=>
    rcases(he.some_ z rfl).2 with ⟨el,ex,ys,h,_⟩|⟨us,Yi,h,h3,hl,hc⟩
    ·cases h
    ·cases h;obtain⟨j,hj⟩:=bV hy;have jt:j<Yi.length:=by rw[<-hl];exact(aT.1 hj).1
     rcases hc j y Yi[j] hj (by simp[jt])with ⟨h1,h2⟩|⟨n',x',ob',h1,_,h2⟩
     ·exfalso;subst h1;cases h:Yi[j]<;>rw[h]at hmm h2<;>first|(simp[bw]at hmm;done)|exact h2
     ·rw[h1]at hmm;have:m=n':=by simpa [bw]using hmm
      subst this;exact .inr ⟨ob',inD _ _ _ h2⟩
 ·intro b hb Ov;exact vI.same b hb (λho=>Ov (Au b ho))
end
end Go.FG

namespace Go.FG
def IB(a:eC)(xs:ax AA):Prop:=(∃g,a= .v g xs)\/a= .pt xs
inductive zc (args:ax eC) (r:dz):aE->dY->Prop
 |rb (q xs):r.rs[q]? =ah (.pt xs)->zc args r (dI (500+q) 900) (.o (.box (fC (dI (500+q) 0) xs)))
 |rr (q a xs j e ex ys):r.rs[q]? =ah a->IB a xs->xs[j]? =ah (.ow e ex ys)->zc args r (dI (500+q) j) (.o (.row e ex ys))
 |ob (p xs):args[p]? =ah (.pt xs)->zc args r (dI p 900) (.o (.box (mV p 0 (r.outs.getD p []))))
 |kp (p a xs j e ex z ys):args[p]? =ah a->IB a xs->xs[j]? =ah (.ow e ex z)->(r.outs.getD p [])[j]? =ah (.kp ys)->zc args r (dI p j) (.o (.row e ex ys))
 |nw (p a xs j e ex ys):args[p]? =ah a->IB a xs->(r.outs.getD p [])[j]? =ah (.ow e ex ys)->zc args r (dI p (100+j)) (.o (.row e ex ys))
theorem FM:∀{l:ax eC} {q:aE} {k:aE} {c:dY},(k,c)∈LW q l↔∃i a,l[i]? =ah a/\(k,c)∈uR (q+i) a:=by
 intro l;induction l with
 |nil=>intro q k c;simp[LW]
 |cons a l ih=>
  intro q k c;simp only[LW,aZ,ih];constructor
  ·rintro (h|⟨i,b,h0,h⟩)
   ·exact⟨0,a,rfl,h⟩
   ·exact⟨i+1,b,h0,by rw[show q+(i+1)=q+1+i by omega];exact h⟩
  ·rintro ⟨i,b,h0,h⟩;cases i with
   |zero=>cases h0;exact .inl h
   |succ i=>exact .inr ⟨i,b,h0,by rw[show q+1+i=q+(i+1)by omega];exact h⟩
theorem FL:∀{l:ax eC} {p:aE} {os:ax (ax AA)} {k:aE} {c:dY},(k,c)∈LK p l os↔∃i a,l[i]? =ah a/\(k,c)∈Cw (p+i) a (os.getD i []):=by
 intro l;induction l with
 |nil=>intro p os k c;simp[LK]
 |cons a l ih=>
  intro p os k c;have h0:os.headD []=os.getD 0 []:=by cases os<;>rfl
  have h1:∀i,os.tail.getD i []=os.getD (i+1) []:=λi=>by cases os<;>simp
  simp only[LK,aZ,ih,h0,h1];constructor
  ·rintro (h|⟨i,b,hb,h⟩)
   ·exact⟨0,a,rfl,h⟩
   ·exact⟨i+1,b,hb,by rw[show p+(i+1)=p+1+i by omega];exact h⟩
  ·rintro ⟨i,b,hb,h⟩;cases i with
   |zero=>cases hb;exact .inl h
   |succ i=>exact .inr ⟨i,b,hb,by rw[show p+1+i=p+(i+1)by omega];exact h⟩
theorem wJ{p j:aE}{a b:AA}{k:aE}{c:dY}:(k,c)∈F2 p j a b↔(∃e ex z ys,a= .ow e ex z/\b= .kp ys/\k=cK (dI p j)/\c= .o (.row e ex ys))\/∃e ex ys,b= .ow e ex ys/\k=cK (dI p (100+j))/\c= .o (.row e ex ys):=by
 cases b with
 |kp ys=>
  cases a with
  |ow e ex z=>
   constructor
   ·intro h;have h:=aY.1 h;cases h;exact .inl ⟨e,ex,z,ys,rfl,rfl,rfl,rfl⟩
   ·rintro (⟨e',sr,z',A7,h1,h2,h3,h4⟩|⟨_,_,_,h,_⟩)
    ·cases h1;cases h2;rw[h3,h4];exact aY.2 rfl
    ·cases h
  |_=>simp[F2]
 |ow e ex ys=>
  constructor
  ·intro h;have h:=aY.1 h;cases h;exact .inr ⟨e,ex,ys,rfl,rfl,rfl⟩
  ·rintro (⟨_,_,_,_,_,h,_⟩|⟨e',sr,A7,h2,h3,h4⟩)
   ·cases h
   ·cases h2;rw[h3,h4];exact aY.2 rfl
 |_=>simp[F2]
theorem HK{p:aE}:∀{l:ax AA} {j:aE} {as:ax AA} {k:aE} {c:dY},(k,c)∈tY p j as l↔∃i b,l[i]? =ah b/\(k,c)∈F2 p (j+i) (as.getD i .nl) b:=by
 intro l;induction l with
 |nil=>intro j as k c;simp[tY]
 |cons b l ih=>
  intro j as k c;have h0:as.headD .nl=as.getD 0 .nl:=by cases as<;>rfl
  have h1:∀i,as.tail.getD i .nl=as.getD (i+1) .nl:=λi=>by cases as<;>simp
  simp only[tY,aZ,ih,h0,h1];constructor
  ·rintro (h|⟨i,b',hb,h⟩)
   ·exact⟨0,b,rfl,h⟩
   ·exact⟨i+1,b',hb,by rw[show j+(i+1)=j+1+i by omega];exact h⟩
  ·rintro ⟨i,b',hb,h⟩;cases i with
   |zero=>cases hb;exact .inl h
   |succ i=>exact .inr ⟨i,b',hb,by rw[show j+1+i=j+(i+1)by omega];exact h⟩
theorem DF{xs:ax AA}{i e:aE}{ex:aW}{z:aU}:xs.getD i .nl= .ow e ex z↔xs[i]? =ah (.ow e ex z):=by
 rw[cD];cases h:xs[i]? with
 |none=>simp
 |some x=>simp
theorem pq{p:aE}{a:eC}{l:ax AA}{k:aE}{c:dY}:(k,c)∈Cw p a l↔(∃xs,a= .pt xs/\k=cK (dI p 900)/\c= .o (.box (mV p 0 l)))\/∃xs,IB a xs/\((∃j e ex z ys,xs[j]? =ah (.ow e ex z)/\l[j]? =ah (.kp ys)/\k=cK (dI p j)/\c= .o (.row e ex ys))\/∃j e ex ys,l[j]? =ah (.ow e ex ys)/\k=cK (dI p (100+j))/\c= .o (.row e ex ys)):=by
 have cells:∀xs,(k,c)∈tY p 0 xs l↔((∃j e ex z ys,xs[j]? =ah (.ow e ex z)/\l[j]? =ah (.kp ys)/\k=cK (dI p j)/\c= .o (.row e ex ys))\/∃j e ex ys,l[j]? =ah (.ow e ex ys)/\k=cK (dI p (100+j))/\c= .o (.row e ex ys)):=by
  intro xs;rw[HK];constructor
  ·rintro ⟨i,b,hb,h⟩;rw[bO]at h;rcases wJ.1 h with ⟨e,ex,z,ys,h1,rfl,h2,h3⟩|⟨e,ex,ys,rfl,h2,h3⟩
   ·exact .inl ⟨i,e,ex,z,ys,DF.1 h1,hb,h2,h3⟩
   ·exact .inr ⟨i,e,ex,ys,hb,h2,h3⟩
  ·rintro (⟨i,e,ex,z,ys,h1,hb,h2,h3⟩|⟨i,e,ex,ys,hb,h2,h3⟩)
   ·exact⟨i,_,hb,wJ.2 (.inl ⟨e,ex,z,ys,DF.2 h1,rfl,by rw[bO];exact h2,h3⟩)⟩
   ·exact⟨i,_,hb,wJ.2 (.inr ⟨e,ex,ys,rfl,by rw[bO];exact h2,h3⟩)⟩
 cases a with
 |v g xs=>
  simp only[Cw,cells];constructor
  ·intro h;exact .inr ⟨xs, .inl ⟨g,rfl⟩,h⟩
  ·rintro (⟨ys,h,_⟩|⟨ys,h|h,h'⟩)
   ·cases h
   ·obtain⟨g',h⟩:=h;cases h;exact h'
   ·cases h
 |pt xs=>
  simp only[Cw,cq,cells,iw];constructor
  ·rintro (⟨h1,h2⟩|h)
   ·exact .inl ⟨xs,rfl,h1,h2⟩
   ·exact .inr ⟨xs, .inr rfl,h⟩
  ·rintro (⟨ys,h,h1,h2⟩|⟨ys,h|h,h'⟩)
   ·exact .inl ⟨h1,h2⟩
   ·obtain⟨g',h⟩:=h;cases h
   ·cases h;exact .inr h'
 |fb xs=>
  simp only[Cw,qJ,false_iff];rintro (⟨ys,h,_⟩|⟨ys,h|h,_⟩)
  ·cases h
  ·obtain⟨g',h⟩:=h;cases h
  ·cases h
theorem uI{args:ax eC}{r:dz}{m:aE}{c:dY}:(cK m,c)∈LW 500 r.rs++LK 0 args r.outs↔zc args r m c:=by
 rw[aZ,FM,FL];constructor
 ·rintro (⟨q,a,h0,h⟩|⟨p,a,h0,h⟩)
  ·rcases gH.1 h with ⟨xs,rfl,h1,rfl⟩|⟨xs,j,e,ex,ys,hx,hj,h1,rfl⟩
   ·rw[ju h1];exact .rb q xs h0
   ·rw[ju h1];exact .rr q a xs j e ex ys h0 hx hj
  ·rw[bO]at h;rcases pq.1 h with ⟨xs,rfl,h1,rfl⟩|⟨xs,hx,⟨j,e,ex,z,ys,h2,h3,h1,rfl⟩|⟨j,e,ex,ys,h3,h1,rfl⟩⟩
   ·rw[ju h1];exact .ob p xs h0
   ·rw[ju h1];exact .kp p a xs j e ex z ys h0 hx h2 h3
   ·rw[ju h1];exact .nw p a xs j e ex ys h0 hx h3
 ·intro h;cases h with
  |rb q xs h0=>exact .inl ⟨q,_,h0,gH.2 (.inl ⟨xs,rfl,rfl,rfl⟩)⟩
  |rr q a xs j e ex ys h0 hx hj=>exact .inl ⟨q,a,h0,gH.2 (.inr ⟨xs,j,e,ex,ys,hx,hj,rfl,rfl⟩)⟩
  |ob p xs h0=>exact .inr ⟨p,_,h0,pq.2 (.inl ⟨xs,rfl,by rw[bO],by rw[bO]⟩)⟩
  |kp p a xs j e ex z ys h0 hx h2 h3=>exact .inr ⟨p,a,h0,pq.2 (.inr ⟨xs,hx, .inl ⟨j,e,ex,z,ys,h2,h3,by rw[bO],rfl⟩⟩)⟩
  |nw p a xs j e ex ys h0 hx h3=>exact .inr ⟨p,a,h0,pq.2 (.inr ⟨xs,hx, .inr ⟨j,e,ex,ys,h3,by rw[bO],rfl⟩⟩)⟩
def UO:aA AA->aA dY
 |some (.ow e ex ys)=>ah (.o (.row e ex ys))|_=>aj
def kpC(a b:aA AA):aA dY:=
 match a,b with|some (.ow e ex _),ah (.kp ys)=>ah (.o (.row e ex ys))|_,_=>aj
def NJ:eC->ax AA| .v _ xs=>xs| .pt xs=>xs| .fb _=>[]
theorem IB.eq{a:eC}{xs:ax AA}(h:IB a xs):NJ a=xs:=by rcases h with ⟨g,rfl⟩|rfl<;>rfl
def Cc(args:ax eC)(r:dz)(P J:aE):aA dY:=
 if 500<=P then(match r.rs[P-500]? with
  |some a=>if J=900 then ah (.o (.box (fC (dI P 0) (NJ a))))else UO (NJ a)[J]?
  |none=>aj)
 else(match args[P]? with
  |some a=>if J=900 then ah (.o (.box (mV P 0 (r.outs.getD P []))))else if J<100 then kpC (NJ a)[J]? (r.outs.getD P [])[J]? else UO (r.outs.getD P [])[J-100]?
  |none=>aj)
structure Small (args:ax eC) (r:dz):Prop where
 a:∀(p:aE) (a:eC) (xs:ax AA),args[p]? =ah a->IB a xs->p<500
 rl:∀(q:aE) (a:eC) (xs:ax AA),r.rs[q]? =ah a->IB a xs->xs.length<=100
 o:∀p:aE,(r.outs.getD p []).length<=100
theorem Fa{args:ax eC}{r:dz}(hs:Small args r){m:aE}{c:dY}(h:zc args r m c):∃P J,m=dI P J/\J<1000/\Cc args r P J=ah c:=by
 cases h with
 |rb q xs h0=>exact⟨500+q,900,rfl,by omega,by simp[Cc,h0,NJ]⟩
 |rr q a xs j e ex ys h0 hx hj=>
  have:=hs.rl q a xs h0 hx;have jt:=(aT.1 hj).1;refine⟨500+q,j,rfl,by omega, ?_⟩
  have:j≠900:=by omega
  simp[Cc,h0,hx.eq,hj,this,UO]
 |ob p xs h0=>
  have:=hs.a p _ xs h0 (.inr rfl);have:¬500<=p:=by omega
  exact⟨p,900,rfl,by omega,by simp[Cc,h0,this]⟩
 |kp p a xs j e ex z ys h0 hx h2 h3=>
  have:=hs.a p _ xs h0 hx;have h5:¬500<=p:=by omega
  have jt:=(aT.1 h3).1;have:=hs.o p;have Lh:j≠900:=by omega
  have RA:j<100:=by omega
  refine⟨p,j,rfl,by omega, ?_⟩
  simp only[Cc,h0,hx.eq,h2,h3,Lh,RA,h5,if_false,if_true,kpC]
 |nw p a xs j e ex ys h0 hx h3=>
  have:=hs.a p _ xs h0 hx;have h5:¬500<=p:=by omega
  have jt:=(aT.1 h3).1;have:=hs.o p;have Lh:¬100+j=900:=by omega
  have RA:¬100+j<100:=by omega
  refine⟨p,100+j,rfl,by omega, ?_⟩
  have hj3:100+j-100=j:=by omega
  simp only[Cc,h0,h3,Lh,RA,hj3,h5,if_false,UO]
theorem wS:∀{l:ax (aE×dY)} {k:aE} {c:dY},(k,c)∈l->(∀c',(k,c')∈l->c'=c)->eO l k=c:=by
 intro l;induction l with
 |nil=>intro k c h;cases h
 |cons d l ih=>
  obtain⟨k',c'⟩:=d;intro k c h hu;unfold eO;cases hb:bh k k' with
  |true=>have:=aQ hb;subst this;exact hu c' (du ..)
  |false=>
   rcases cq.1 h with h|h
   ·cases h;simp at hb
   ·exact ih h (λc'' h''=>hu c'' (cM _ h''))
theorem uH{args:ax eC}{r:dz}(hs:Small args r){m:aE}{c:dY}(h:zc args r m c):oi args r (cK m)=c:=by refine wS (uI.2 h) (λc' h'=> ?_);obtain⟨P,J,h1,h2,h3⟩:=Fa hs h;obtain⟨P',J',Hu,Lb,JF⟩:=Fa hs (uI.1 h');obtain⟨rfl,rfl⟩:=sE h2 Lb (h1.symm.trans Hu);rw[h3]at JF;cases JF;rfl
theorem ph{args:ax eC}{r:dz}{m:aE}{o:Obj}(h:oi args r (cK m)= .o o):zc args r m (.o o):=uI.1 (nZ h (by simp))
theorem tX{p:aE}:∀{xs:ax AA} {j i:aE},(mV p j xs)[i]? =(xs[i]?).map (rR p (j+i)):=by
 intro xs;induction xs with
 |nil=>intro j i;simp[mV]
 |cons a xs ih=>
  intro j i;cases i with
  |zero=>rfl
  |succ i=>simp only[mV,dy,ih];congr 2;omega
theorem td{p:aE}:∀{xs:ax AA} {j:aE},(mV p j xs).length=xs.length:=by
 intro xs;induction xs with
 |nil=>intro j;rfl
 |cons a xs ih=>intro j;simp[mV,ih]
theorem CB:∀{l:ax eC} {q i:aE},(j9 q l)[i]? =(l[i]?).map (Dq (q+i)):=by
 intro l;induction l with
 |nil=>intro q i;simp[j9]
 |cons a l ih=>
  intro q i;cases i with
  |zero=>rfl
  |succ i=>simp only[j9,dy,ih];congr 2;omega
theorem uV:∀{l:ax eC} {q:aE},(j9 q l).length=l.length:=by
 intro l;induction l with
 |nil=>intro q;rfl
 |cons a l ih=>intro q;simp[j9,ih]
end Go.FG

namespace Go.FG
def la(L:ax A_):ax (aE×dY):=jq (L.map λt=>(t.1,t.2.2))
theorem gU(L R:ax A_):la (L++R)=la L++la R:=by simp[la,jq]
def Mz(ok:aW)(σ:St)(n:aE)(a:AA):Prop:=
 match a with
 | .ow _ ex _=>(ex=ai\/ok=ai)/\σ (cK n)= .iU/\n<900000000
 | .sh _ _=>ok=ai| .kp _=>False| .fn _ _=>False|_=>True
def LF(n x:aE)(a:AA):ax A_:=match a with| .ow e ex ys=>[(n,ah x, .row e ex ys)]|_=>[]
theorem FK{n x:aE}{a:AA}{m:aE}{t:aA aE}{ob:Obj}:(m,t,ob)∈LF n x a↔∃e ex ys,a= .ow e ex ys/\m=n/\t=ah x/\ob= .row e ex ys:=by
 cases a with
 |ow e ex ys=>
  constructor
  ·intro h;have h:=aY.1 h;cases h;exact⟨e,ex,ys,rfl,rfl,rfl,rfl⟩
  ·rintro ⟨e',sr,A7,h,rfl,rfl,rfl⟩;cases h;exact aY.2 rfl
 |_=>simp[LF]
theorem kJ.mono{ok:aW}{L L':ax A_}{v v3:AV}(h:kJ ok L v v3)(hs:∀e∈L,e∈L'):kJ ok L' v v3:=h.imp id (λ⟨n,x,ob,h1,h2,h3⟩=>⟨n,x,ob,h1,h2,hs _ h3⟩)
theorem mA.mono{ok:aW}{L L':ax A_}{v v3:ax AV}(h:mA ok L v v3)(hs:∀e∈L,e∈L'):mA ok L' v v3:=⟨h.1,λj x y hx hy=>(h.2 j x y hx hy).mono hs⟩
section
variable {P:cL} {E:eP} {σ:St} {a:Act} {w:bB} {c:eB} {o:eJ} {nm:aE} {e:qU}
theorem B6{ok:aW}{n:aE}{a:AA}{v:AV}{ws:ax (aE×dY)}(h:(qb ok n a).val σ=ah (v,ws)):Mz ok σ n a/\v=j8 n a/\∀x,ws=la (LF n x a)/\kJ ok (LF n x a) v (j8 x a):=by
 cases a with
 |i=>obtain⟨rfl,rfl⟩:=bN (aD h);exact⟨trivial,rfl,λx=>⟨rfl, .inl ⟨rfl,trivial⟩⟩⟩
 |b=>obtain⟨rfl,rfl⟩:=bN (aD h);exact⟨trivial,rfl,λx=>⟨rfl, .inl ⟨rfl,trivial⟩⟩⟩
 |s=>obtain⟨rfl,rfl⟩:=bN (aD h);exact⟨trivial,rfl,λx=>⟨rfl, .inl ⟨rfl,trivial⟩⟩⟩
 |nl=>obtain⟨rfl,rfl⟩:=bN (aD h);exact⟨trivial,rfl,λx=>⟨rfl, .inl ⟨rfl,trivial⟩⟩⟩
 |sh e xs=>obtain⟨h1,h⟩:=cj h;obtain⟨rfl,rfl⟩:=bN (aD h);exact⟨h1,rfl,λx=>⟨rfl, .inl ⟨rfl,h1⟩⟩⟩
 |ow e ex xs=>obtain⟨h1,h⟩:=cj h;obtain⟨u,h2,h⟩:=Rd.bind_some h;obtain⟨rfl,rfl⟩:=bN (aD h);obtain⟨f1,f2⟩:=jF h2;exact⟨⟨by simpa using h1,f1,f2⟩,rfl,λx=>⟨rfl, .inr ⟨n,x,_,rfl,rfl,aY.2 rfl⟩⟩⟩
 |kp=>simp[qb]at h
 |fn=>simp[qb]at h
theorem zA{ok:aW}{P:aE}:∀{xs:ax AA} {n j:aE} {vs:ax AV} {ws:ax (aE×dY)},(yE ok n xs).val σ=ah (vs,ws)->vs=fC n xs/\(∀(i:aE) (a:AA),xs[i]? =ah a->Mz ok σ (n+i) a)/\
  ∃L,ws=la L/\(∀m t ob,(m,t,ob)∈L↔∃i e ex ys,xs[i]? =ah (.ow e ex ys)/\m=n+i/\t=ah (dI P (j+i))/\ob= .row e ex ys)/\∀(i:aE) (v:AV) (a:AA),vs[i]? =ah v->xs[i]? =ah a->kJ ok L v (j8 (dI P (j+i)) a):=by
 intro xs;induction xs with
 |nil=>intro n j vs ws h;obtain⟨rfl,rfl⟩:=bN (aD h);exact⟨rfl,λi a h=>by simp at h,[],rfl,λm t ob=>by simp,λi v a h=>by simp at h⟩
 |cons a xs ih=>
  intro n j vs ws h;obtain⟨⟨v,w1⟩,h1,h⟩:=Rd.bind_some h;obtain⟨⟨vr,w2⟩,h2,h⟩:=Rd.bind_some h;obtain⟨rfl,rfl⟩:=bN (aD h);obtain⟨b1,rfl,b2⟩:=B6 h1;obtain⟨rfl,b3⟩:=b2 (dI P j);obtain⟨i1,i2,L,rfl,i3,i4⟩:=ih (j:=j+1) h2;refine⟨by rw[i1];rfl,λi a' hi=> ?_,LF n (dI P j) a++L,by rw[gU],λm t ob=> ?_,λi v' a' hv ha=> ?_⟩
  ·cases i with
   |zero=>cases hi;exact b1
   |succ i=>have:=i2 i a' hi;rwa[show n+1+i=n+(i+1)by omega]at this
  ·rw[aZ,FK,i3];constructor
   ·rintro (⟨e,ex,ys,rfl,rfl,rfl,rfl⟩|⟨i,e,ex,ys,h1,rfl,rfl,rfl⟩)
    ·exact⟨0,e,ex,ys,rfl,rfl,rfl,rfl⟩
    ·exact⟨i+1,e,ex,ys,h1,by omega,by rw[show j+1+i=j+(i+1)by omega],rfl⟩
   ·rintro ⟨i,e,ex,ys,h1,rfl,rfl,rfl⟩;cases i with
    |zero=>cases h1;exact .inl ⟨e,ex,ys,rfl,rfl,rfl,rfl⟩
    |succ i=>exact .inr ⟨i,e,ex,ys,h1,by omega,by rw[show j+1+i=j+(i+1)by omega],rfl⟩
  ·cases i with
   |zero=>cases hv;cases ha;exact b3.mono (λe he=>bR _ he)
   |succ i=>have:=(i4 i v' a' hv ha).mono (L':=LF n (dI P j) a++L) (λe he=>bH _ he);rwa[show j+1+i=j+(i+1)by omega]at this
def EH(σ:St)(ok:aW)(b P:aE)(x:eC)(L:ax A_)(n:aE)(t:aA aE)(ob:Obj):Prop:=
 (∃xs j e ex ys,IB x xs/\xs[j]? =ah (.ow e ex ys)/\n=b+j/\t=ah (dI P j)/\ob= .row e ex ys/\(ex=ai\/ok=ai)/\σ (cK n)= .iU/\n<900000000)\/
 ∃xs,x= .pt xs/\n=b+30/\t=ah (dI P 900)/\ob= .box (fC b xs)/\σ (cK n)= .iU/\n<900000000/\mA ok L (fC b xs) (fC (dI P 0) xs)
theorem G4{ok:aW}{b P:aE}{x:eC}{s:aW×ax AV}{ws:ax (aE×dY)}(h:(Dt ok b x).val σ=ah (s,ws)):∃L,ws=la L/\(∀n t ob,(n,t,ob)∈L->EH σ ok b P x L n t ob)/\ArgRel ok L s (Dq P x):=by
 have rN:∀j,dI P (0+j)=dI P 0+j:=λj=>by unfold dI;omega
 cases x with
 |v g xs=>
  obtain⟨⟨vs,w1⟩,h1,h⟩:=Rd.bind_some h;obtain⟨rfl,rfl⟩:=bN (aD h);obtain⟨rfl,i2,L,rfl,i3,i4⟩:=zA (P:=P) (j:=0) h1;refine⟨L,rfl,λn t ob hm=> ?_,rfl,by simp[Dq,g6],λj v v3 hv Bx=> .inl ?_⟩
  ·obtain⟨i,e,ex,ys,h1,rfl,rfl,rfl⟩:=(i3 n t ob).1 hm;have:=i2 i _ h1;exact .inl ⟨xs,i,e,ex,ys, .inl ⟨g,rfl⟩,h1,rfl,by rw[bO],rfl,this⟩
  ·have Bx:(fC (dI P 0) xs)[j]? =ah v3:=Bx;rw[gK]at Bx;cases hx:xs[j]? with
   |none=>rw[hx]at Bx;cases Bx
   |some a=>rw[hx]at Bx;cases Bx;have:=i4 j v a hv hx;rwa[rN]at this
 |pt xs=>
  obtain⟨⟨vs,w1⟩,h1,h⟩:=Rd.bind_some h;obtain⟨u,h2,h⟩:=Rd.bind_some h;obtain⟨rfl,rfl⟩:=bN (aD h);obtain⟨f1,f2⟩:=jF h2;obtain⟨rfl,i2,L,rfl,i3,i4⟩:=zA (P:=P) (j:=0) h1;have cr:mA ok L (fC b xs) (fC (dI P 0) xs):=by
   refine⟨by rw[g6,g6],λj v v3 hv Bx=> ?_⟩
   rw[gK]at Bx;cases hx:xs[j]? with
   |none=>rw[hx]at Bx;cases Bx
   |some a=>rw[hx]at Bx;cases Bx;have:=i4 j v a hv hx;rwa[rN]at this
  refine⟨L++[(b+30,ah (dI P 900), .box (fC b xs))],by rw[gU];rfl,λn t ob hm=> ?_,rfl,rfl,λj v v3 hv Bx=> .inr ?_⟩
  ·rcases aZ.1 hm with hm|hm
   ·obtain⟨i,e,ex,ys,h1,rfl,rfl,rfl⟩:=(i3 n t ob).1 hm;have:=i2 i _ h1;exact .inl ⟨xs,i,e,ex,ys, .inr rfl,h1,rfl,by rw[bO],rfl,this⟩
   ·rw[aY]at hm;cases hm;exact .inr ⟨xs,rfl,rfl,rfl,rfl,f1,f2,cr.mono (λe he=>bR _ he)⟩
  ·cases j with
   |zero=>cases hv;cases Bx;exact⟨_,_,_,rfl,rfl,bH _ (aY.2 rfl)⟩
   |succ j=>simp at hv
 |fb xs=>simp[Dt]at h
theorem ArgRel.mono{ok:aW}{L L':ax A_}{s s3:aW×ax AV}(h:ArgRel ok L s s3)(hs:∀e∈L,e∈L'):ArgRel ok L' s s3:=⟨h.1,h.2.1,λj x y hx hy=>(h.2.2 j x y hx hy).imp (λh=>h.mono hs) (λ⟨n,x,ob,h1,h2,h3⟩=>⟨n,x,ob,h1,h2,hs _ h3⟩)⟩
theorem EH.mono{ok:aW}{b P:aE}{x:eC}{L L':ax A_}{n:aE}{t:aA aE}{ob:Obj}(h:EH σ ok b P x L n t ob)(hs:∀e∈L,e∈L'):EH σ ok b P x L' n t ob:=h.imp id (λ⟨xs,h1,h2,h3,h4,h5,h6,h7⟩=>⟨xs,h1,h2,h3,h4,h5,h6,h7.mono hs⟩)
theorem ET{ok:aW}:∀{l:ax eC} {b P:aE} {ss:ax (aW×ax AV)} {ws:ax (aE×dY)},(zC ok b l).val σ=ah (ss,ws)->∃L,ws=la L/\(∀n t ob,(n,t,ob)∈L->∃q x,l[q]? =ah x/\EH σ ok (b+40*q) (P+q) x L n t ob)/\CM ok L ss (j9 P l):=by
 intro l;induction l with
 |nil=>intro b P ss ws h;obtain⟨rfl,rfl⟩:=bN (aD h);exact⟨[],rfl,λn t ob h=>(by cases h),rfl,λj x x3 h=>by simp at h⟩
 |cons x l ih=>
  intro b P ss ws h;obtain⟨⟨v,w1⟩,h1,h⟩:=Rd.bind_some h;obtain⟨⟨vr,w2⟩,h2,h⟩:=Rd.bind_some h;obtain⟨rfl,rfl⟩:=bN (aD h);obtain⟨L1,rfl,a1,a2⟩:=G4 (P:=P) h1;obtain⟨L2,rfl,b1,b2,b3⟩:=ih (P:=P+1) h2;refine⟨L1++L2,by rw[gU],λn t ob hm=> ?_,by simp[j9,b2],λj s s3 hs hs3=> ?_⟩
  ·rcases aZ.1 hm with hm|hm
   ·exact⟨0,x,rfl,(a1 n t ob hm).mono (λe he=>bR _ he)⟩
   ·obtain⟨q,y,hq,hr⟩:=b1 n t ob hm;refine⟨q+1,y,hq, ?_⟩
    rw[show b+40*(q+1)=b+40+40*q by omega,show P+(q+1)=P+1+q by omega];exact hr.mono (λe he=>bH _ he)
  ·cases j with
   |zero=>cases hs;cases hs3;exact a2.mono (λe he=>bR _ he)
   |succ j=>exact(b3 j s s3 hs hs3).mono (λe he=>bH _ he)
end
end Go.FG

namespace Go.FG
section
variable {P:cL} {E:eP} {σ:St} {a:Act} {w:bB} {c:eB} {o:eJ} {nm:aE} {e:qU}
def pJ(σ:St)(ok bx:aW)(b p j:aE)(k:Pk)(a:AA)(n:aE)(t:aA aE)(ob:Obj):Prop:=
 (∃e ex,k.src= .own n e ex/\t=aj/\ob= .dead)\/
 (∃e ex ys,k.src= .own n e ex/\a= .kp ys/\t=ah (dI p j)/\ob= .row e ex ys/\(ex=ai\/ok=ai))\/
 ∃e ex ys,bx=ai/\a= .ow e ex ys/\n=b+j/\t=ah (dI p (100+j))/\ob= .row e ex ys/\(ex=ai\/ok=ai)/\σ (cK n)= .iU/\n<900000000
theorem PM{ok:aW}{b p j:aE}{k:Pk}{a:AA}{ws:ax (aE×dY)}(h:(Cx ok k a).val σ=ah ws):∃L,ws=la L/\(∀n t ob,(n,t,ob)∈L->pJ σ ok ak b p j k a n t ob)/\∀n e ex,k.src= .own n e ex->∃t ob,(n,t,ob)∈L:=by
 cases hs:k.src with
 |no=>
  have h:(Rd.ret []:Rd (ax (aE×dY))).val σ=ah ws:=by unfold Cx at h;rw[hs]at h;exact h
  obtain rfl:=aD h;exact⟨[],rfl,λn t ob h=>(by cases h),λn e ex h=>by cases h⟩
 |own n e ex=>
  cases a with
  |kp ys=>
   have h:(bif ex||ok then Rd.ret [(cK n,dY.o (.row e ex ys))]else .fail).val σ=ah ws:=by unfold Cx at h;rw[hs]at h;exact h
   obtain⟨h1,h⟩:=cj h;obtain rfl:=aD h;refine⟨[(n,ah (dI p j), .row e ex ys)],rfl,λm t ob hm=> ?_,λm e' sr h=> ?_⟩
   ·rw[aY]at hm;cases hm;exact .inr (.inl ⟨e,ex,ys,hs,rfl,rfl,rfl,by simpa using h1⟩)
   ·cases h;exact⟨_,_,aY.2 rfl⟩
  |nl=>
   have h:(Rd.ret [(cK n,dY.o .dead)]:Rd (ax (aE×dY))).val σ=ah ws:=by unfold Cx at h;rw[hs]at h;exact h
   obtain rfl:=aD h;refine⟨[(n,aj, .dead)],rfl,λm t ob hm=> ?_,λm e' sr h=> ?_⟩
   ·rw[aY]at hm;cases hm;exact .inl ⟨e,ex,hs,rfl,rfl⟩
   ·cases h;exact⟨_,_,aY.2 rfl⟩
  |_=>unfold Cx at h;rw[hs]at h;simp at h
theorem LM{ok:aW}{b p:aE}:∀{r:ax Pk} {l:ax AA} {j:aE} {ws:ax (aE×dY)},(H3 ok r l).val σ=ah ws->∃L,ws=la L/\(∀n t ob,(n,t,ob)∈L->∃i k,r[i]? =ah k/\pJ σ ok ak b p (j+i) k (l.getD i .nl) n t ob)/\
  ∀(i:aE) (k:Pk) (n e:aE) (ex:aW),r[i]? =ah k->k.src= .own n e ex->∃t ob,(n,t,ob)∈L:=by
 intro r;induction r with
 |nil=>intro l j ws h;obtain rfl:=aD h;exact⟨[],rfl,λn t ob h=>(by cases h),λi k n e ex h=>by simp at h⟩
 |cons k r ih=>
  intro l j ws h;obtain⟨w1,h1,h⟩:=Rd.bind_some h;obtain⟨w2,h2,h⟩:=Rd.bind_some h;obtain rfl:=aD h;obtain⟨L1,rfl,a1,a2⟩:=PM (b:=b) (p:=p) (j:=j) h1;obtain⟨L2,rfl,b1,b2⟩:=ih (j:=j+1) h2;have e0:l.headD .nl=l.getD 0 .nl:=by cases l<;>rfl
  have e1:∀i,l.tail.getD i .nl=l.getD (i+1) .nl:=λi=>by cases l<;>simp
  refine⟨L1++L2,by rw[gU],λn t ob hm=> ?_,λi k' n e ex hk hs=> ?_⟩
  ·rcases aZ.1 hm with hm|hm
   ·exact⟨0,k,rfl,by rw[<-e0];exact a1 n t ob hm⟩
   ·obtain⟨i,k',hk,hc⟩:=b1 n t ob hm;rw[e1]at hc;exact⟨i+1,k',hk,by rw[show j+(i+1)=j+1+i by omega];exact hc⟩
  ·cases i with
   |zero=>cases hk;obtain⟨t,ob,h⟩:=a2 n e ex hs;exact⟨t,ob,bR _ h⟩
   |succ i=>obtain⟨t,ob,h⟩:=b2 i k' n e ex hk hs;exact⟨t,ob,bH _ h⟩
theorem LJ{ok:aW}{b p j:aE}{k:Pk}{v v':AV}{a:AA}{ws:ax (aE×dY)}(hv:∀n e ex,k.src= .own n e ex->v= .own n)(h:(Aq ok (b+j) k v a).val σ=ah (v',ws)):
  ∃L,ws=la L/\(∀n t ob,(n,t,ob)∈L->pJ σ ok ai b p j k a n t ob)/\(∀n e ex,k.src= .own n e ex->∃t ob,(n,t,ob)∈L)/\kJ ok L v' (rR p j a):=by
 have new:∀{v':AV} {ws:ax (aE×dY)},(qb ok (b+j) a).val σ=ah (v',ws)->∃L,ws=la L/\(∀n t ob,(n,t,ob)∈L->pJ σ ok ai b p j k a n t ob)/\kJ ok L v' (rR p j a):=by
  intro v' ws h;obtain⟨b1,rfl,b2⟩:=B6 h;obtain⟨rfl,b3⟩:=b2 (dI p (100+j));refine⟨_,rfl,λn t ob hm=> ?_, ?_⟩
  ·obtain⟨e,ex,ys,rfl,rfl,rfl,rfl⟩:=FK.1 hm;exact .inr (.inr ⟨e,ex,ys,rfl,rfl,rfl,rfl,rfl,b1⟩)
  ·have:rR p j a=j8 (dI p (100+j)) a:=by cases a<;>first|rfl|exact b1.elim
   rw[this];exact b3
 cases hs:k.src with
 |no=>
  have h:(qb ok (b+j) a).val σ=ah (v',ws):=by unfold Aq at h;rw[hs]at h;exact h
  obtain⟨L,rfl,a1,a2⟩:=new h;exact⟨L,rfl,a1,λm e' sr h=>(by cases h),a2⟩
 |own n e ex=>
  have other:((qb ok (b+j) a).bind λ(x:AV×ax (aE×dY))=>Rd.ret (x.1,(cK n,dY.o .dead)::x.2)).val σ=ah (v',ws)->∃L,ws=la L/\(∀n t ob,(n,t,ob)∈L->pJ σ ok ai b p j k a n t ob)/\(∀n' e' sr,Src.own n e ex= .own n' e' sr->∃t ob,(n',t,ob)∈L)/\kJ ok L v' (rR p j a):=by
   intro h;obtain⟨⟨v1,w1⟩,h1,h⟩:=Rd.bind_some h;obtain⟨rfl,rfl⟩:=bN (aD h);obtain⟨L,rfl,a1,a2⟩:=new h1;refine⟨(n,aj, .dead)::L,rfl,λm t ob hm=> ?_,λm e' sr h=> ?_,a2.mono (λe he=>cM _ he)⟩
   ·rcases cq.1 hm with hm|hm
    ·cases hm;exact .inl ⟨e,ex,hs,rfl,rfl⟩
    ·exact a1 m t ob hm
   ·cases h;exact⟨_,_,du ..⟩
  cases a with
  |kp ys=>
   have h:(bif ex||ok then Rd.ret (v,[(cK n,dY.o (.row e ex ys))])else .fail).val σ=ah (v',ws):=by unfold Aq at h;rw[hs]at h;exact h
   obtain⟨h1,h⟩:=cj h;obtain⟨rfl,rfl⟩:=bN (aD h);refine⟨[(n,ah (dI p j), .row e ex ys)],rfl,λm t ob hm=> ?_,λm e' sr h=> ?_, .inr ⟨n,dI p j,_,hv n e ex hs,rfl,aY.2 rfl⟩⟩
   ·rw[aY]at hm;cases hm;exact .inr (.inl ⟨e,ex,ys,hs,rfl,rfl,rfl,by simpa using h1⟩)
   ·cases h;exact⟨_,_,aY.2 rfl⟩
  |_=>exact other (by unfold Aq at h;rw[hs]at h;exact h)
theorem H0{ok:aW}{b p:aE}:∀{r:ax Pk} {vs:ax AV} {l:ax AA} {j:aE} {GH:ax AV} {ws:ax (aE×dY)},(∀(i:aE) (k:Pk) (n e:aE) (ex:aW),r[i]? =ah k->k.src= .own n e ex->vs[i]? =ah (.own n))->(qm ok (b+j) r vs l).val σ=ah (GH,ws)->
  l.length=r.length/\∃L,ws=la L/\(∀n t ob,(n,t,ob)∈L->∃i k,r[i]? =ah k/\pJ σ ok ai b p (j+i) k (l.getD i .nl) n t ob)/\
  (∀(i:aE) (k:Pk) (n e:aE) (ex:aW),r[i]? =ah k->k.src= .own n e ex->∃t ob,(n,t,ob)∈L)/\GH.length=l.length/\∀(i:aE) (v:AV) (a:AA),GH[i]? =ah v->l[i]? =ah a->kJ ok L v (rR p (j+i) a):=by
 intro r;induction r with
 |nil=>
  intro vs l j GH ws hv h;cases vs with
  |cons=>cases l<;>simp[qm]at h
  |nil=>
   cases l with
   |cons=>simp[qm]at h
   |nil=>obtain⟨rfl,rfl⟩:=bN (aD h);exact⟨rfl,[],rfl,λn t ob h=>(by cases h),λi k n e ex h=>by simp at h,rfl,λi v a h=>by simp at h⟩
 |cons k r ih=>
  intro vs l j GH ws hv h;cases vs with
  |nil=>cases l<;>simp[qm]at h
  |cons v vs=>
   cases l with
   |nil=>simp[qm]at h
   |cons a l=>
    obtain⟨⟨v1,w1⟩,h1,h⟩:=Rd.bind_some h;obtain⟨⟨vr,w2⟩,h2,h⟩:=Rd.bind_some h;obtain⟨rfl,rfl⟩:=bN (aD h);obtain⟨L1,rfl,a1,a2,a3⟩:=LJ (p:=p) (λn e ex hs=>by have:=hv 0 k n e ex rfl hs;simpa using this) h1;obtain⟨i0,L2,rfl,b1,b2,b3,b4⟩:=ih (j:=j+1) (λi k' n e ex hk hs=>hv (i+1) k' n e ex hk hs) h2;refine⟨by simp[i0],L1++L2,by rw[gU],λn t ob hm=> ?_,λi k' n e ex hk hs=> ?_,by simp[b3],λi v' a' hv' ha'=> ?_⟩
    ·rcases aZ.1 hm with hm|hm
     ·exact⟨0,k,rfl,a1 n t ob hm⟩
     ·obtain⟨i,k',hk,hc⟩:=b1 n t ob hm;exact⟨i+1,k',hk,by rw[show j+(i+1)=j+1+i by omega];exact hc⟩
    ·cases i with
     |zero=>cases hk;obtain⟨t,ob,h⟩:=a2 n e ex hs;exact⟨t,ob,bR _ h⟩
     |succ i=>obtain⟨t,ob,h⟩:=b2 i k' n e ex hk hs;exact⟨t,ob,bH _ h⟩
    ·cases i with
     |zero=>cases hv';cases ha';exact a3.mono (λe he=>bR _ he)
     |succ i=>have:=(b4 i v' a' hv' ha').mono (L':=L1++L2) (λe he=>bH _ he);rwa[show j+1+i=j+(i+1)by omega]at this
def EF(σ:St)(ok:aW)(b p:aE)(pa:Pa)(l:ax AA)(L:ax A_)(n:aE)(t:aA aE)(ob:Obj):Prop:=
 (∃i k,pa.cs[i]? =ah k/\pJ σ ok pa.box.isSome b p i k (l.getD i .nl) n t ob)\/∃xs GH,pa.box=ah (n,xs)/\t=ah (dI p 900)/\ob= .box GH/\mA ok L GH (mV p 0 l)
theorem PK{T:Tab}{my:ax aE}{v:a_}{ok:aW}{b p:aE}{pa:Pa}(HC:xW T σ w c my pa v){l:ax AA}{ws:ax (aE×dY)}(h:(PJ ok b pa l).val σ=ah ws):
  ∃L,ws=la L/\(∀n t ob,(n,t,ob)∈L->EF σ ok b p pa l L n t ob)/\∀n∈pa.sC,∃t ob,(n,t,ob)∈L:=by
 have cs:∀n,n∈pa.cs.flatMap (·.sC)->∃(i:aE) (k:Pk) (e:aE) (ex:aW),pa.cs[i]? =ah k/\k.src= .own n e ex:=by
  intro n hn;obtain⟨k,hk,hn⟩:=bA.1 hn;obtain⟨i,hi⟩:=bV hk;unfold Pk.sC at hn;split at hn
  ·rename_i m e ex hs;have:=aY.1 hn;subst this;exact⟨i,k,e,ex,hi,hs⟩
  ·cases hn
 unfold PJ at h;split at h
 ·rename_i n xs hb;obtain⟨⟨GH,w1⟩,h1,h⟩:=Rd.bind_some h;obtain rfl:=aD h;obtain⟨_,_,_,hl,_,tO⟩:=HC.box n xs hb;obtain⟨i0,L,rfl,a1,a2,a3,a4⟩:=H0 (b:=b) (p:=p) (j:=0) tO (by rw[uf];exact h1);have cr:mA ok L GH (mV p 0 l):=by
   refine⟨by rw[td,a3],λi v v3 hv Bx=> ?_⟩
   rw[tX]at Bx;cases hx:l[i]? with
   |none=>rw[hx]at Bx;cases Bx
   |some y=>rw[hx]at Bx;cases Bx;exact a4 i v y hv hx
  refine⟨L++[(n,ah (dI p 900), .box GH)],by rw[gU];rfl,λm t ob hm=> ?_,λm hm=> ?_⟩
  ·rcases aZ.1 hm with hm|hm
   ·obtain⟨i,k,hk,hc⟩:=a1 m t ob hm;rw[bO]at hc;exact .inl ⟨i,k,hk,by rw[hb];exact hc⟩
   ·rw[aY]at hm;cases hm;exact .inr ⟨xs,GH,hb,rfl,rfl,cr.mono (λe he=>bR _ he)⟩
  ·unfold Pa.sC at hm;rw[hb]at hm;rcases aZ.1 hm with hm|hm
   ·have:=aY.1 hm;subst this;exact⟨_,_,bH _ (aY.2 rfl)⟩
   ·obtain⟨i,k,e,ex,hk,hs⟩:=cs m hm;obtain⟨t,ob,h⟩:=a2 i k m e ex hk hs;exact⟨t,ob,bR _ h⟩
 ·rename_i hb;obtain⟨L,rfl,a1,a2⟩:=LM (b:=b) (p:=p) (j:=0) h;refine⟨L,rfl,λm t ob hm=> ?_,λm hm=> ?_⟩
  ·obtain⟨i,k,hk,hc⟩:=a1 m t ob hm;rw[bO]at hc;exact .inl ⟨i,k,hk,by rw[hb];exact hc⟩
  ·unfold Pa.sC at hm;rw[hb,fF]at hm;obtain⟨i,k,e,ex,hk,hs⟩:=cs m hm;exact a2 i k m e ex hk hs
theorem EF.mono{ok:aW}{b p:aE}{pa:Pa}{l:ax AA}{L L':ax A_}{n:aE}{t:aA aE}{ob:Obj}(h:EF σ ok b p pa l L n t ob)(hs:∀e∈L,e∈L'):EF σ ok b p pa l L' n t ob:=
 h.imp id (λ⟨xs,GH,h1,h2,h3,h4⟩=>⟨xs,GH,h1,h2,h3,h4.mono hs⟩)
theorem LL{T:Tab}{my:ax aE}{ok:aW}:∀{ps:ax Pa} {b p:aE} {os:ax (ax AA)} {ws:ax (aE×dY)},(∀(q:aE) (pa:Pa),ps[q]? =ah pa->∃v,xW T σ w c my pa v)->(H2 ok b ps os).val σ=ah ws->
  ∃L,ws=la L/\(∀n t ob,(n,t,ob)∈L->∃q pa,ps[q]? =ah pa/\EF σ ok (b+40*q) (p+q) pa (os.getD q []) L n t ob)/\∀n∈ps.flatMap (·.sC),∃t ob,(n,t,ob)∈L:=by
 intro ps;induction ps with
 |nil=>intro b p os ws _ h;obtain rfl:=aD h;exact⟨[],rfl,λn t ob h=>(by cases h),λn h=>(by cases h)⟩
 |cons pa ps ih=>
  intro b p os ws Z3 h;obtain⟨w1,h1,h⟩:=Rd.bind_some h;obtain⟨w2,h2,h⟩:=Rd.bind_some h;obtain rfl:=aD h;obtain⟨v,HC⟩:=Z3 0 pa rfl;obtain⟨L1,rfl,a1,a2⟩:=PK (p:=p) HC h1;obtain⟨L2,rfl,b1,b2⟩:=ih (p:=p+1) (λq pa' hq=>Z3 (q+1) pa' hq) h2;have e0:os.headD []=os.getD 0 []:=by cases os<;>rfl
  have e1:∀i,os.tail.getD i []=os.getD (i+1) []:=λi=>by cases os<;>simp
  refine⟨L1++L2,by rw[gU],λn t ob hm=> ?_,λn hn=> ?_⟩
  ·rcases aZ.1 hm with hm|hm
   ·exact⟨0,pa,rfl,by rw[<-e0];exact(a1 n t ob hm).mono (λe he=>bR _ he)⟩
   ·obtain⟨q,pa',hq,hc⟩:=b1 n t ob hm;rw[e1]at hc;refine⟨q+1,pa',hq, ?_⟩
    rw[show b+40*(q+1)=b+40+40*q by omega,show p+(q+1)=p+1+q by omega];exact hc.mono (λe he=>bH _ he)
  ·rw[vV]at hn;rcases aZ.1 hn with hn|hn
   ·obtain⟨t,ob,h⟩:=a2 n hn;exact⟨t,ob,bR _ h⟩
   ·obtain⟨t,ob,h⟩:=b2 n hn;exact⟨t,ob,bH _ h⟩
theorem Oj:∀{l:ax aE} {ws:ax (aE×dY)},(Oi l).val σ=ah ws->∃Fz:ax (aE×Obj),ws=jq Fz/\(∀n x,(n,x)∈Fz->n∈l/\∃el ex xs,σ (cK n)= .o (.row el ex xs)/\x= .eZ el xs)/\∀n∈l,∃x,(n,x)∈Fz:=by
 intro l;induction l with
 |nil=>intro ws h;obtain rfl:=aD h;exact⟨[],rfl,λn x h=>(by cases h),λn h=>(by cases h)⟩
 |cons m l ih=>
  intro ws h;obtain⟨ob,hg,h⟩:=Rd.bind_some h;have hg:=cY hg;cases ob with
  |row el ex xs=>
   obtain⟨w1,h1,h⟩:=Rd.bind_some h;obtain rfl:=aD h;obtain⟨Fz,rfl,a1,a2⟩:=ih h1;refine⟨(m, .eZ el xs)::Fz,rfl,λn x hm=> ?_,λn hn=> ?_⟩
   ·rcases cq.1 hm with hm|hm
    ·cases hm;exact⟨du ..,el,ex,xs,hg,rfl⟩
    ·obtain⟨h1,h2⟩:=a1 n x hm;exact⟨cM _ h1,h2⟩
   ·rcases cq.1 hn with rfl|hn
    ·exact⟨_,du ..⟩
    ·obtain⟨x,h⟩:=a2 n hn;exact⟨x,cM _ h⟩
  |_=>simp at h
end
end Go.FG

namespace Go.FG
section
variable {P:cL} {E:eP} {σ:St} {a:Act} {w:bB} {c:eB} {o:eJ} {nm:aE} {e:qU}
theorem afq{T:Tab}{my:ax aE}{pa:Pa}{v:a_}(h:xW T σ w c my pa v):∃xs,IB pa.arg xs/\xs=pa.cs.map (·.a)/\∀(j:aE) (k:Pk),pa.cs[j]? =ah k->∃u,tC T σ w c my k u:=by
 have h1:IB pa.arg (pa.cs.map (·.a)):=by
  cases hb:pa.box with
  |none=>obtain⟨g,h1,_⟩:=h.val hb;exact .inl ⟨g,h1⟩
  |some nx=>obtain⟨n,xs⟩:=nx;exact .inr (h.box n xs hb).1
 exact⟨_,h1,rfl,(PO h h1).2⟩
theorem SW{l:ax AA}{i:aE}{ys:aU}(h:l.getD i .nl= .kp ys):l[i]? =ah (.kp ys):=by
 rw[cD]at h;cases hx:l[i]? with
 |none=>rw[hx]at h;cases h
 |some x=>rw[hx]at h;rw[<-h];rfl
theorem CD{f:aE}{fn:Func}{vs Xh:c_ a_}{cl:Call}{fx:c5}(ho:o.op= .call cl)(hc:cl.callee= .value fx)(hf:P.funcs[f]? =ah fn)(hb:fn.body.isSome=ai)(hn:(fn.name== "runtime.NumGoroutine")=ak)(he:a.eval fx= .func (.func f) #[] Xh):
  (execOp a.eval o).run P w= .ok (.enter f (cl.args.map a.eval++Xh)) w:=by
 have S3:fn.body.isNone=false:=by cases h:fn.body<;>simp_all
 unfold execOp;rw[ho];simp only[resolve,hc,he,Deferred.ofValue,b8,cB,bn,invoke,callFunc,program,nA,hf,hn,S3,cU,if_false,Array.empty_append]
def nameOf(nm:aE)(ps:ax Pa)(P J:aE):aA aE:=
 if 500<=P then ah (if J=900 then nm+1+40*(P-500)+30 else nm+1+40*(P-500)+J)
 else if J<100\/J=900 then loc ps (dI P J)else ah (nm+400+40*P+(J-100))
theorem nB:∀{l r:ax aE},p_ l r=ai->∀n∈l,n∉r
 |[],_,_,n,h=>by cases h
 |m::l,r,h,n,hn=>by
  simp only[p_,aF,dt]at h;rcases cq.1 hn with rfl|hn
  ·exact oS h.1
  ·exact nB h.2 n hn
theorem FT(hE:dS P E)(hF:∀g,kS P E g (E.call g))(b7:Ok E σ w c)(di:eG E σ a w c)(hd:∀d,o.dst=ah d->d<a.tmps.size){cl:Call}{fx:c5}(ho:o.op= .call cl)(hb:cl.callee= .value fx){f:aE}{g7:ax (ax CV)}(ef:dP E w c (.fn f g7) (a.eval fx)){Mx:aA (ax aE)}(h:(Dv E nm o f cl.args.toList Mx g7).val σ=ah e)(hc:e.cond=ai):fT P E σ a w c o e.ws:=by
  obtain⟨Xh,he,Z3,ado⟩:=ef;unfold Dv at h;obtain⟨ps,h2,h⟩:=Rd.bind_some h;obtain⟨h3,h⟩:=cj h;simp only[aF]at h3;obtain⟨hlen,HC⟩:=NM b7 di h2;split at h
  ·rename_i cnd r Fp;obtain⟨h4,h⟩:=cj h;simp only[aF]at h4;obtain⟨w0,h5,h⟩:=Rd.bind_some h;obtain⟨w1,h6,h⟩:=Rd.bind_some h;obtain⟨⟨ss,w2⟩,h7,h⟩:=Rd.bind_some h;obtain⟨h8,h⟩:=cj h;obtain rfl:=aD h;have hc:cnd=true:=hc;subst hc;have ass:=cu h4.1.1;have alz:∀{q:aE} {pa:Pa},ps[q]? =ah pa->∀n∈pa.my,n∈ps.flatMap (·.my):=λhq n hn=>bA.2 ⟨_,aP hq,hn⟩;have hh:Handed E σ w c ps g7 (cl.args.map a.eval++Xh):=by
    refine⟨by simp[Z3,hlen],λq pa hq=> ?_,λq cs hq=> ?_,pr h3.1,nB h3.2⟩
    ·obtain⟨x,hx,hp⟩:=HC q pa hq;rw[cC]at hx;have Te:=(dF.1 hx).1;exact⟨a.eval x,by rw[A8 (by simpa using Te),KJ,hx];rfl,hp.mono (alz hq)⟩
    ·obtain⟨b,S3,hf⟩:=ado q cs hq;refine⟨b, ?_,hf⟩
     rw[Array.getElem?_append_right (by simp[hlen]),<-S3];congr 1;simp[hlen]
   have Z4:∀(q:aE) (pa:Pa),ps[q]? =ah pa->∃v,xW E σ w c (ps.flatMap (·.my)) pa v:=λq pa hq=>by obtain⟨v,_,h⟩:=hh.at_ q pa hq;exact⟨v,h⟩
   obtain⟨Ox,alA,_⟩:=enter b7 hh;have fm:(cl.args.map a.eval++Xh).size=(iR ps g7).length:=by simp[iR,Z3,hlen]
   have ZK:E.call f (iR ps g7)=ah (ai,r):=Fp;obtain⟨⟨fn,g1,g2,g3⟩,Hy⟩:=hF f _ r ZK w (pf σ c ps) _ Ox fm alA;obtain⟨Fz,rfl,z1,z2⟩:=Oj h5;obtain⟨Lo,rfl,l1,l2⟩:=LL (p:=0) Z4 h6;obtain⟨Lr,rfl,m1,m2⟩:=ET (P:=500) h7;generalize adI:(E.tk nm||(ps.flatMap (·.my)).isEmpty)=ok at l1 m1 m2;have Wj:Small (iR ps g7) r:=by
    refine⟨λp x xs hp hx=> ?_,λq x xs hq hx=> ?_,λp=> ?_⟩
    ·rcases tK hp with ⟨pa,hq,_⟩|⟨_,cs,_,rfl⟩
     ·have:=(aT.1 hq).1;omega
     ·rcases hx with ⟨g,hx⟩|hx<;>cases hx
    ·have:=bj.1 h4.1.2 x (aP hq);have:=cu this;rcases hx with ⟨g,rfl⟩|rfl<;>(simp only[mc]at this;omega)
    ·rw[cD];cases hx:r.outs[p]? with
     |none=>simp
     |some l=>have:=bj.1 h4.2 l (aP hx);exact cu this
   have ES:∀{q:aE} {pa:Pa},ps[q]? =ah pa->(iR ps g7)[q]? =ah pa.arg:=λ{q} {pa} hq=>by have:=(aT.1 hq).1;unfold iR;rw[dB (by simpa using this),bz,hq];rfl
   have FN:∀{q:aE} {pa:Pa} {n:aE},ps[q]? =ah pa->n∈pa.sC->n∈ps.flatMap (·.sC):=λhp hn=>bA.2 ⟨_,aP hp,hn⟩;have ac4:∀{q i n e:aE} {ex:aW} {pa:Pa} {k:Pk},ps[q]? =ah pa->pa.cs[i]? =ah k->k.src= .own n e ex->n∈ps.flatMap (·.sC):=λhq hk hs=>FN hq (bH _ (bA.2 ⟨_,aP hk,by simp[Pk.sC,hs]⟩));have small:∀{q i:aE} {pa:Pa} {k:Pk},ps[q]? =ah pa->pa.cs[i]? =ah k->i<100:=λhq hk=>by obtain⟨v,hv⟩:=Z4 _ _ hq;have:=(aT.1 hk).1;have:=hv.len;omega
   unfold fT;intro K Q hK;unfold KN;rw[CD (vs:=cl.args.map a.eval++Xh) ho hb g1 g2 g3 he,Rf];refine Calls.mono Hy (λen w'' hR=> ?_);cases en with
   |panicked=>exact hR.elim
   |outgrown=>exact hR.elim
   |returned v=>
    obtain⟨c3,DK,vI,sw,vK⟩:=hR;have fN:∀m,inj (iR ps g7) (cK m)≠ .iU->c3.P m=(pf σ c ps).P m/\c3.G m=(pf σ c ps).G m:=sw;have hL:∀n t ob,(n,t,ob)∈Lo++Lr->Vs σ (oi (iR ps g7) r) c c3 ok (ps.flatMap (·.sC)) (Lo++Lr) n t ob/\∀x,t=ah x->∃PP J,x=dI PP J/\J<1000/\nameOf nm ps PP J=ah n:=by
     intro n t ob hm;rcases aZ.1 hm with hm|hm
     ·obtain⟨q,pa,hq,tc⟩:=l1 n t ob hm;obtain⟨v0,Mw⟩:=Z4 q pa hq;obtain⟨xs,hx1,RC,hx3⟩:=afq Mw;have Te:=(aT.1 hq).1;rw[bO]at tc;rcases tc with ⟨i,k,hk,hco⟩|⟨ys,GH,hbx,rfl,rfl,hcr⟩
      ·have hi:=small hq hk;rcases hco with ⟨e',ex,hs,rfl,rfl⟩|⟨e',ex,ys,hs,ha,rfl,rfl,hex⟩|⟨e',ex,ys,hbx,ha,rfl,rfl,rfl,hex,hf,ji⟩
       ·refine⟨⟨λ_=>ac4 hq hk hs,λhn=> ?_,λ_=>rfl,λx hx=>(by cases hx)⟩,λx hx=>(by cases hx)⟩
        obtain⟨u,hu⟩:=hx3 i k hk;unfold tC at hu;rw[hs]at hu;obtain⟨zs,hg,_⟩:=hu;rw[hg]at hn;cases hn
       ·obtain⟨u,hu⟩:=hx3 i k hk;unfold tC at hu;rw[hs]at hu;obtain⟨zs,hg,hka,_⟩:=hu;refine⟨⟨λ_=>ac4 hq hk hs,λhn=>(by rw[hg]at hn;cases hn),λhx=>(by cases hx),λx hx=> ?_⟩,λx hx=> ?_⟩
        ·cases hx;refine⟨λ_=> ?_, .inl ⟨e',ex,ys,rfl, ?_,hex⟩⟩
         ·obtain⟨q1,q2⟩:=fN (dI q i) ((pn (ES hq)).2 xs i e' ex zs hx1 (by rw[RC,bz,hk];simp[hka]));obtain⟨q3,q4⟩:=sj (σ:=σ) (c:=c) (DQ hq hk hs (by omega));exact⟨q1.trans q3,q2.trans q4⟩
         ·exact uH Wj (.kp q pa.arg xs i e' ex zs ys (ES hq) hx1 (by rw[RC,bz,hk];simp[hka]) (SW ha))
        ·cases hx;refine⟨q,i,rfl,by omega, ?_⟩
         unfold nameOf;rw[bJ (by omega),bu (.inl hi)];exact DQ hq hk hs (by omega)
       ·have hla:=DF.1 ha;refine⟨⟨λhn=>cw hf hn,λ_=>ji,λhx=>(by cases hx),λx hx=> ?_⟩,λx hx=> ?_⟩
        ·cases hx;exact⟨λhn=>cw hf hn, .inl ⟨e',ex,ys,rfl,uH Wj (.nw q pa.arg xs i e' ex ys (ES hq) hx1 hla),hex⟩⟩
        ·cases hx;refine⟨q,100+i,rfl,by omega, ?_⟩
         unfold nameOf;rw[bJ (by omega),bJ (by omega)];congr 1;omega
      ·obtain⟨p1,p2,p3,_⟩:=Mw.box n ys hbx;refine⟨⟨λ_=>FN hq (by simp[Pa.sC,hbx]),λhn=>(by rw[p3]at hn;cases hn),λhx=>(by cases hx),λx hx=> ?_⟩,λx hx=> ?_⟩
       ·cases hx;refine⟨λ_=> ?_, .inr ⟨GH,_,rfl,uH Wj (.ob q _ (by rw[ES hq,p1])),hcr.mono (λe he=>bR _ he)⟩⟩
        obtain⟨q1,q2⟩:=fN (dI q 900) ((pn (ES hq)).1 _ p1);obtain⟨q3,q4⟩:=sj (σ:=σ) (c:=c) (yQ hq hbx);exact⟨q1.trans q3,q2.trans q4⟩
       ·cases hx;refine⟨q,900,rfl,by omega, ?_⟩
        unfold nameOf;rw[bJ (by omega),bu (.inr rfl)];exact yQ hq hbx
     ·obtain⟨q,x0,hq,hra⟩:=m1 n t ob hm;rcases hra with ⟨xs,j,e',ex,ys,hx,hj,rfl,rfl,rfl,hex,hf,ji⟩|⟨xs,rfl,rfl,rfl,rfl,hf,ji,hcr⟩
      ·have jt:=(aT.1 hj).1;have:=Wj.rl q x0 xs hq hx;refine⟨⟨λhn=>cw hf hn,λ_=>ji,λhx=>(by cases hx),λx nV=> ?_⟩,λx nV=> ?_⟩
       ·cases nV;exact⟨λhn=>cw hf hn, .inl ⟨e',ex,ys,rfl,uH Wj (.rr q x0 xs j e' ex ys hq hx hj),hex⟩⟩
       ·cases nV;refine⟨500+q,j,rfl,by omega, ?_⟩
        unfold nameOf;rw[bu (by omega),bJ (by omega),show 500+q-500=q by omega]
      ·refine⟨⟨λhn=>cw hf hn,λ_=>ji,λhx=>(by cases hx),λx nV=> ?_⟩,λx nV=> ?_⟩
       ·cases nV;exact⟨λhn=>cw hf hn, .inr ⟨_,_,rfl,uH Wj (.rb q xs hq),hcr.mono (λe he=>bH _ he)⟩⟩
       ·cases nV;refine⟨500+q,900,rfl,by omega, ?_⟩
        unfold nameOf;rw[bu (by omega),bu rfl,show 500+q-500=q by omega]
    have Fv:((Lo++Lr).map (·.1)).Nodup:=by
     have:=pr h8;rw[<-gU]at this;unfold la jq at this;rw[kT,kT]at this;have e1:(Lo++Lr).map (((λx:aE×dY=>x.1)∘λd:aE×Obj=>(cK d.1,dY.o d.2))∘λt:A_=>(t.1,t.2.2))=((Lo++Lr).map (·.1)).map cK:=by rw[kT];rfl
     rw[e1]at this;exact qj this
    have Oy:ok=ai->∀n∈ps.flatMap (·.my),∃x,(n,x)∈Fz:=by
     intro hk n hn;rw[<-adI]at hk;cases DL:E.tk nm with
     |true=>rw[DL]at z2;exact z2 n hn
     |false=>
      rw[DL]at hk;have:ps.flatMap (·.my)=[]:=by simpa using hk
      rw[this]at hn;cases hn
    have ZD:∀n x,(n,x)∈Fz->ok=ai/\n∈ps.flatMap (·.my)/\∃el ex xs,σ (cK n)= .o (.row el ex xs)/\x= .eZ el xs:=by
     intro n x hn;obtain⟨y1,y2⟩:=z1 n x hn;cases DL:E.tk nm with
     |true=>rw[DL]at y1;exact⟨by rw[<-adI,DL];rfl,y1,y2⟩
     |false=>rw[DL]at y1;cases y1
    have hws:jq Fz++(la Lo++la Lr)++dw o (qD ss)=jq (Fz++(Lo++Lr).map λt=>(t.1,t.2.2))++dw o (qD ss):=by rw[<-gU];simp only[la,jq,c8]
    obtain⟨c',k1,k2,k3,k4⟩:=leave b7 di hd hh DK vI vK (L:=Lo++Lr) (Fz:=Fz) (λn t ob hm=>(hL n t ob hm).1) Fv
     (λn n' x ob ob' h1 h2=>by obtain⟨P1,J1,e1,e2,e3⟩:=(hL n _ ob h1).2 x rfl;obtain⟨P2,J2,f1,f2,f3⟩:=(hL n' _ ob' h2).2 x rfl;obtain⟨rfl,rfl⟩:=sE e2 f2 (e1.symm.trans f1);rw[e3]at f3;exact aD f3)
     (λn hn=>by obtain⟨t,ob,h⟩:=l2 n hn;exact⟨t,ob,bR _ h⟩) ZD Oy
     (show CM ok (Lo++Lr) ss (j9 500 r.rs)from⟨m2.1,λj x x3 hx hx3=>(m2.2 j x x3 hx hx3).mono (λe he=>bH _ he)⟩)
    show K (a.put o.dst v) w'';rw[<-hws]at k1 k2 k3;exact hK v w'' c' k1 k2 k3 k4.w
  ·simp at h
theorem D1(b7:Ok E σ w c)(di:eG E σ a w c){o:eJ}(hd:∀d,o.dst=ah d->d<a.tmps.size){nm:aE}{ob ob':Obj}{s:SV}{v:a_}{w':bB}
  (hn:σ (cK nm)= .o ob) (mg:oe E w' c nm ob') (ot:∀b,eN c nm ob' b->eN c nm ob b)
  (Ft:∀xs,ob'= .box xs->∀a∈xs,iz σ a)
  (vK:iA E w' c s v) (Bw:lC σ s)
  (hW:∀b,b<w.heap.size->¬eN c nm ob b->w'.heap[b]? =w.heap[b]?) (fm:w.heap.size<=w'.heap.size) (Ll:w'.os=w.os) (Th:w'.tape=w.tape) (S_:w'.output=w.output):
  Ok E (wr σ ([(cK nm, .o ob')]++dw o s)) w' c/\eG E (wr σ ([(cK nm, .o ob')]++dw o s)) (a.put o.dst v) w' c/\nb σ c w (wr σ ([(cK nm, .o ob')]++dw o s)) c w':=by
 let σ1:=nG σ (cK nm) (.o ob');obtain⟨s1,s2,s3⟩:=oz σ1 o s;have key:∀m,wr σ1 (dw o s) (cK m)=if m=nm then .o ob' else σ (cK m):=λm=>by rw[s3];exact nv _ _ _ _
 have iq:∀m,σ (cK m)≠ .iU->wr σ1 (dw o s) (cK m)≠ .iU:=λm hm=>by rw[key];split<;>simp_all
 have gO:∀b,eN c nm ob b->jf (λm=>m=nm) σ c b:=λb hb=>⟨nm,ob,rfl,hn,hb⟩
 have hh:=b7.change (σ':=wr σ1 (dw o s)) (w':=w') (c':=c) (λm=>m=nm) (λm hm=>by rw[key,bJ hm]) iq (iN.refl _ _)
  (λb hb Ov=>hW b hb (λhf=>Ov (gO b hf))) fm (λ_ h=>h) (λ_ h=> .inl h) (λb hb=>gF (b7.lt b hb) fm)
  (λm x hm ho=>by subst hm;rw[key,bu rfl]at ho;cases ho;exact mg)
  (λm x b hm ho hf=>by subst hm;rw[key,bu rfl]at ho;cases ho;exact⟨.inl (gO b (ot b hf)),b7.kk _ _ b hn (ot b hf)⟩)
  (λm x m' x' b hm uQ _ _ _ _=>by rw[hm,uQ])
  (λm xs hm ho y hy n jG=>by subst hm;rw[key,bu rfl]at ho;cases ho;exact iq n (Ft xs rfl y hy n jG)) Ll Th S_
 refine⟨hh.1, ?_,hh.2⟩
 refine di.change b7 hh.2 (iN.refl _ _) iq o v (λn jG=>by rw[s1 n jG];exact gY _ _ _ _) (λd ho=>⟨hd d ho, ?_, ?_⟩)
 ·rw[s2 d ho];exact vK
 ·rw[s2 d ho];intro n jG;rw[key];split
  ·simp
  ·exact Bw n jG
theorem HW(hE:dS P E)(hF:∀g,kS P E g (E.call g))(b7:Ok E σ w c)(di:eG E σ a w c)(hd:∀d,o.dst=ah d->d<a.tmps.size){cl:Call}{fx x y:c5}(ho:o.op= .call cl)(hb:cl.callee= .value fx)(qA:cl.args.toList=[x,y])
  {f n i j:aE} (ef:dP E w c (.fn f []) (a.eval fx)) (hx:dP E w c (.inn n i j) (a.eval x)) (h:(z_ E o f n i j y).val σ=ah e) (hc:e.cond=ai):fT P E σ a w c o e.ws:=by
 unfold z_ at h;obtain⟨⟨k,m⟩,h1,h⟩:=Rd.bind_some h;have ey:=ox di h1;obtain⟨ob,h2,h⟩:=Rd.bind_some h;have hg:=cY h2;split at h
 ·rename_i el xs;obtain⟨te,h3,h⟩:=Rd.bind_some h;have h6:=dC h3;split at h
  ·rename_i e2 xE;split at h
   ·rename_i cnd r Fp;split at h
    ·rename_i k2 m2 A7 hrs JI;obtain rfl:=aD h;have hc:cnd=true:=hc;subst hc;obtain⟨⟨hi,hxv⟩,_⟩:=hx;obtain⟨zs,yy,t2,r1,r2,r3,r4,r5,r6,r7,r8⟩:=uT b7 hg h6 xE hi;rw[ew r1 r2]at Fp;simp only[g9]at Fp;obtain⟨⟨t1,q1,fm,lK⟩,fN,gO⟩:=b7.obj n _ hg;obtain rfl:te=t1:=aD (h6.symm.trans q1);have km:i<xs.length:=(aT.1 r1).1;obtain⟨iu,pv,hpb⟩:=fN.pos hi;have Bv:fD xs i j:=⟨yy,_,r1,r2,rfl⟩
     generalize hq:c.G n i j=p at r5 r7 r8 hxv;let c1:eB:=⟨λ_=>p,λ_ _ _=>⟨ai,0,0,0,0,0⟩,c.K⟩
     let args:ax eC:=[.v ak [.ow e2 ai zs], .v ak [.i k m]]
     have hO:∀q o',inj args (cK q)= .o o'->q=dI 0 0/\o'= .row e2 ai zs:=by
      intro q o' hq';have hm:=nZ hq' (by simp);simp only[args,HG,rL,uR,tP,FC,cq,dH,fF,zk,qJ,or_false,iw]at hm;rcases hm with ⟨hm,_⟩|⟨hm,h⟩|⟨hm,_⟩
      ·exact cw hm (kW _ _)
      ·exact⟨ju hm,dY.o.inj h⟩
      ·exact cw hm (kW _ _)
     have hX:inj args (cK (dI 0 0))= .o (.row e2 ai zs):=rfl;have Pf:∀i j,¬fD zs i j:=by rintro i j ⟨y,x,h1,h2,h3⟩;rw[ic r4 (r6 y (aP h1)) h2]at h3;cases h3
     have V9:∀b,eN c1 (dI 0 0) (.row e2 ai zs) b->p.nil=ak/\b=p.blk:=by
      rintro b (⟨h1,h2⟩|⟨_,i,j,h,_⟩)
      ·exact⟨h1,h2⟩
      ·exact cw h (Pf i j)
     have hpf:p.nil=ak->eN c n (.row el ai xs) p.blk:=λhn=> .inr ⟨rfl,i,j,Bv,by rw[hq];exact hn,by rw[hq]⟩;have Ox:Ok E (inj args) w c1:=by
      refine⟨?_, ?_, ?_, ?_, ?_,b7.gp⟩
      ·intro q o' h;obtain⟨rfl,rfl⟩:=hO q o' h;exact⟨⟨t2,r3,r5,r6⟩,r7.frame (λ_=>rfl) (λi j y x u h1 h2 hr=>by rw[bu rfl];exact vi (ic r4 (r6 y (aP h1)) h2) hr),λ_=>⟨λi j h=>cw h (Pf i j),λi j i' j' h=>cw h (Pf i j)⟩⟩
      ·intro q o' q' o'' b h h' _ _;rw[(hO q o' h).1,(hO q' o'' h').1]
      ·intro q o' b h hf hk;obtain⟨rfl,rfl⟩:=hO q o' h;obtain⟨hn,rfl⟩:=V9 b hf;exact b7.kk _ _ _ hg (hpf hn) hk
      ·exact b7.lt
      ·intro q bs h;obtain⟨_,h⟩:=hO q _ h;cases h
     have Tj:(cl.args.map a.eval).size=args.length:=by
      have:cl.args.size=2:=by rw[<-dp,qA];rfl
      simp[args,this]
     have Rw:cl.args.map a.eval= #[a.eval x,a.eval y]:=by apply qG;rw[xQ,qA];rfl
     obtain⟨Xh,he,Z3,_⟩:=ef;have alu:Xh= #[]:=xP (by simpa using Z3);subst alu;obtain⟨⟨fn,g1,g2,g3⟩,Hy⟩:=hF f args r Fp w c1 #[a.eval x,a.eval y] Ox rfl (by
      intro q arg hqa;match q with
      |0=>cases hqa;exact⟨_,rfl,hxv⟩
      |1=>cases hqa;exact⟨_,rfl,ey⟩
      |q+2=>cases hqa)
     unfold fT;intro K Q hK;unfold KN;rw[CD (vs:= #[a.eval x,a.eval y]) ho hb g1 g2 g3 he,Rw,Array.append_empty,Rf];refine Calls.mono Hy (λen w' hR=> ?_);cases en with
     |panicked=>exact hR.elim
     |outgrown=>exact hR.elim
     |returned v=>
      obtain⟨c3,DK,vI,sw,vK⟩:=hR;obtain⟨rs,outs⟩:=r;simp only at hrs JI;subst hrs;subst JI;have hv:v= .int k2 m2:=vK;have hp3:c3.P (dI 0 0)=p:=(sw (dI 0 0) (by rw[hX];simp)).1;have hX3:oi args ⟨[.v ak [.i k2 m2]],[[.kp A7]]⟩ (cK (dI 0 0))= .o (.row e2 ai A7):=rfl;obtain⟨⟨t3,u1,u2,u3⟩,u4,_⟩:=DK.obj _ _ hX3;obtain rfl:t2=t3:=aD (r3.symm.trans u1);rw[hp3]at u2 u4;have akP:im w' p A7 (λ_ _ u x=>Sc u x):=u4.frame (λ_=>rfl) (λi j y x u h1 h2 hr=>by rw[bu rfl]at hr;exact vA hr (ic r4 (u3 y (aP h1)) h2));have nU:∀b,b<w.heap.size->¬(p.nil=ak/\b=p.blk)->w'.heap[b]? =w.heap[b]? :=λb hb Wf=>vI.same b hb (by rintro ⟨q,o',h1,h2⟩;obtain⟨rfl,rfl⟩:=hO q o' h1;exact Wf (V9 b h2));have hjk:j<te.ks.length:=(aT.1 xE).1;have ZU:[CV.l e2 A7].map CV.kd=(te.ks.drop j).take [CV.l e2 A7].length:=by rw[bQ,List.take_one,VP,xE];rfl
      have pk:=sI (i:=i) (j:=j) (cs:=[CV.l e2 A7]) lK ZU (by simp;omega) km;have HA:=jW lK;have zX:=jW pk;have same:∀i' j',fD (eA xs i j [CV.l e2 A7]) i' j'->fD xs i' j':=λi' j' hx=>(HA i' j').2 (by have:=(zX i' j').1 hx;rwa[iY]at this);have ji:∀b,eN c n (.row el ai xs) b->b<w.heap.size:=λb hb=>vH.lt b7 ⟨n,_,hg,hb⟩;have Z2:p.nil=ak->(c.P n).blk≠p.blk:=λhn e=>(gO rfl).out i j Bv (by rw[hq];exact hn) iu (by rw[hq];exact e.symm);have lU:im w' (c.P n) (eA xs i j [CV.l e2 A7]) (λi1 j1 u1 x1=>if ai=ai then XC E w' (c.G n) i1 j1 u1 x1 else cQ E w' c.K u1 x1):=by
       obtain⟨vs,k1,k2,k3,k4,k5⟩:=fN.mem iu;refine⟨by rw[iY];exact fN.n,λhn=>(by rw[iu]at hn;cases hn),λ_=>⟨vs,k1.frame (nU _ (ji _ (.inl ⟨iu,rfl⟩)) (λh=>Z2 h.1 h.2)),k2,k3,k4,λi1 y1 j1 x1 g1 g2=> ?_⟩⟩
       rw[vj r1]at g1;simp only[if_true]at k5⊢;by_cases Fs:i1=i
       ·subst Fs;rw[bu rfl]at g1;cases g1;have GD:yy.length=te.ks.length:=by rw[<-lK yy (aP r1)];simp
        rw[nY (by simp;omega)]at g2;by_cases hqq:j<=j1/\j1<j+[CV.l e2 A7].length
        ·rw[bu hqq]at g2;have:j1=j:=by simp at hqq;omega
         subst this;simp at g2;subst g2;obtain⟨u,hu,hr⟩:=k5 _ _ _ _ r1 r2;refine⟨u,hu,hr.1,t2,r3,r4,by rw[hq];exact r5,u3,by rw[hq];exact akP⟩
        ·rw[bJ hqq]at g2;obtain⟨u,hu,hr⟩:=k5 _ _ _ _ r1 g2;refine⟨u,hu,hr.frame (λhl hn=>nU _ (ji _ (.inr ⟨rfl,_,_,⟨yy,x1,r1,g2,hl⟩,hn,rfl⟩)) (λe=> ?_))⟩
         have:=((gO rfl).one _ _ _ _ ⟨yy,x1,r1,g2,hl⟩ Bv hn (by rw[hq];exact e.1) (by rw[hq];exact e.2)).2;simp at hqq;omega
       ·rw[bJ Fs]at g1;obtain⟨u,hu,hr⟩:=k5 _ _ _ _ g1 g2;exact⟨u,hu,hr.frame (λhl hn=>nU _ (ji _ (.inr ⟨rfl,_,_,⟨y1,x1,g1,g2,hl⟩,hn,rfl⟩)) (λe=>Fs ((gO rfl).one _ _ _ _ ⟨y1,x1,g1,g2,hl⟩ Bv hn (by rw[hq];exact e.1) (by rw[hq];exact e.2)).1))⟩
      obtain⟨z1,z2,z3⟩:=D1 b7 di hd hg (ob':= .row el ai (eA xs i j [CV.l e2 A7])) (w':=w') (s:= .v ak [.i k2 m2]) (v:=v)
       ⟨⟨te,q1,fm,pk⟩,lU,λhx=>⟨λi1 j1 hh=>(gO hx).out i1 j1 (same i1 j1 hh),λi1 j1 i2 j2 h1 h2=>(gO hx).one i1 j1 i2 j2 (same i1 j1 h1) (same i2 j2 h2)⟩⟩
       (by
        rintro b (hb|⟨hx,i1,j1,hh,hn⟩)
        ·exact .inl hb
        ·exact .inr ⟨hx,i1,j1,same i1 j1 hh,hn⟩)
       (λzs hz=>by cases hz) hv (λn hn=>by simp[ch,bw]at hn)
       (λb hb Mu=>nU b hb (λe=>Mu (by rw[e.2];exact hpf e.1))) vI.size vI.os vI.tape vI.output
      exact hK v w' c z1 z2 z3 (iN.refl _ _).w
    ·simp at h
   ·simp at h
  ·simp at h
 ·simp at h
theorem Eh{α:Type}{x y:Rd α}{σ:St}{e:α}(h:(x.or y).val σ=ah e):x.val σ=ah e\/y.val σ=ah e:=by
 induction x with
 |ret a=>exact .inl h
 |fail=>exact .inr h
 |get k f ih=>
  have h':((f (σ k)).or y).val σ=ah e:=by rw[<-h];unfold Rd.val;simp only[Rd.or,Rd.run];rw[j5,j5]
  rcases ih (σ k) h' with h|h
  ·refine .inl ?_;rw[<-h];unfold Rd.val;simp only[Rd.run];rw[j5,j5]
  ·exact .inr h
theorem Am(hE:dS P E)(hF:∀g,kS P E g (E.call g))(b7:Ok E σ w c)(di:eG E σ a w c)(hd:∀d,o.dst=ah d->d<a.tmps.size){cl:Call}{fx:c5}(ho:o.op= .call cl)(hb:cl.callee= .value fx){f:aE}{g7:ax (ax CV)}(ef:dP E w c (.fn f g7) (a.eval fx)){Mx:ax aE}(h:(Jh E nm o f cl.args.toList Mx g7).val σ=ah e)(hc:e.cond=ai):fT P E σ a w c o e.ws:=by
 rcases Eh h with h|h
 ·exact FT hE hF b7 di hd ho hb ef h hc
 ·exact FT hE hF b7 di hd ho hb ef h hc
theorem Uz(hE:dS P E)(hF:∀g,kS P E g (E.call g))(b7:Ok E σ w c)(di:eG E σ a w c)(hd:∀d,o.dst=ah d->d<a.tmps.size){cl:Call}{fx:c5}(ho:o.op= .call cl)(hb:cl.callee= .value fx)(h:(kM E nm o).val σ=ah e)(hc:e.cond=ai):fT P E σ a w c o e.ws:=by
 simp only[kM,ho,hb]at h;obtain⟨fv,h1,h⟩:=Rd.bind_some h;have ef:=(ij di h1).1;cases fv with
 |fn f g7=>
  simp only at h;split at h
  ·rename_i x y qA;obtain⟨sx,h2,h⟩:=Rd.bind_some h;split at h
   ·rename_i n i j;cases hm:E.mode f 0 with
    |true=>rw[hm,ay]at h;exact HW hE hF b7 di hd ho hb qA ef (kX di h2).1 h hc
    |false=>rw[hm,aC]at h;exact Am hE hF b7 di hd ho hb ef h hc
   ·exact Am hE hF b7 di hd ho hb ef h hc
  ·exact Am hE hF b7 di hd ho hb ef h hc
 |_=>simp at h
end
end Go.FG

namespace Go.FG
section
variable {P:cL} {E:eP} {σ:St} {a:Act} {w:bB} {c:eB} {o:eJ} {nm:aE} {e:qU}
theorem afp(hE:dS P E)(hF:∀g,kS P E g (E.call g))(b7:Ok E σ w c)(di:eG E σ a w c)(hd:∀d,o.dst=ah d->d<a.tmps.size)(h:(kM E nm o).val σ=ah e)(hc:e.cond=ai):fT P E σ a w c o e.ws:=by
 cases ho:o.op with
 |move x=>exact J5 b7 di hd (.inl ho) h
 |assign x=>exact J5 b7 di hd (.inr ho) h
 |nilCheck x=>exact FV b7 di hd ho h
 |pick x y z=>exact UB b7 di hd ho h hc
 |alloc t=>exact PA hE b7 di hd ho h
 |box t x=>exact aaV b7 di hd ho h
 |build t ps=>exact PC hE b7 di hd ho h
 |buildSlice t n ps=>exact BC hE b7 di hd ho h hc
 |load t p=>exact UA hE b7 di hd ho h
 |store t p x=>exact PH hE b7 di hd ho h
 |fieldAddr t p f=>exact DU hE b7 di hd ho h
 |field t x f=>exact PE hE b7 di hd ho h
 |indexAddr t x i=>exact DV hE b7 di hd ho h hc
 |index t x i=>exact PF hE b7 di hd ho h hc
 |binOp op t x y ty=>exact PB hE b7 di hd ho h hc
 |unOp op t x=>exact UC b7 di hd ho h
 |convert s d x=>exact HX hE b7 di hd ho h hc
 |makeSlice t l m=>exact DW hE b7 di hd ho h hc
 |slice t x lo hi mx=>exact PG hE b7 di hd ho h hc
 |extract x i=>exact HY b7 di hd ho h
 |makeFunc f first g7=>exact FU b7 di hd ho h
 |call cl=>
  cases hb:cl.callee with
  |value f=>exact Uz hE hF b7 di hd ho hb h hc
  |builtin b=>
   cases b with
   |len=>exact aaX hE b7 di hd ho hb h
   |cap=>exact aaW hE b7 di hd ho hb h
   |min=>exact Cu ak b7 di hd ho hb h
   |max=>exact Cu ai b7 di hd ho hb h
   |clear=>exact PD hE b7 di hd ho hb h
   |append=>exact LH hE b7 di hd ho hb h hc
   |_=>simp[kM,ho,hb]at h
  |_=>simp[kM,ho,hb]at h
 |_=>simp[kM,ho]at h
end
end Go.FG

namespace Go.FG
theorem AR{σ:St}{k:aE}{c:dY}(h:σ k=c):nG σ k c=σ:=by
 funext n;by_cases hn:n=k
 ·subst hn;rw[rV,h]
 ·rw[wT σ c hn]
def Rb(c c':eB):Prop:=∀m,900000000<=m->c'.P m=c.P m/\c'.G m=c.G m
theorem Rb.refl(c:eB):Rb c c:=λ_ _=>⟨rfl,rfl⟩
theorem Rb.trans{c c1 c2:eB}(h:Rb c c1)(k:Rb c1 c2):Rb c c2:=λm hm=>⟨(k m hm).1.trans (h m hm).1,(k m hm).2.trans (h m hm).2⟩
theorem Tw{m:aE}(h:900000000<=m):uh m=false:=by
 unfold uh;cases hb:o0 m 900000000 with
 |true=>have:m<900000000:=by simpa [xU]using hb
        omega
 |false=>simp
theorem oC.aga{σ:St}{c c':eB}(h:oC σ c c'):Rb c c':=λm hm=>⟨(h m (.inr hm)).1,(h m (.inr hm)).2 (Tw hm)⟩
def kZ(all:c_ eJ)(o:eJ)(σ:St):aA aW:=
 match o.guard with
 |none=>ah ai
 |some (g,want)=>match (all.getD g default).dst with
  |none=>aj
  |some d=>match σ (oW d)with| .v (.v ak [.b x])=>ah (x==want)| .v (.jh [])=>ah ak|_=>aj
def oq(all:c_ eJ)(o:eJ):ax aE:=
 match o.guard with
 |none=>[]
 |some (g,_)=>match (all.getD g default).dst with|none=>[]|some d=>[oW d]
def s7(E:eP)(all:c_ eJ)(nm:aE)(o:eJ)(σ:St)(ws:ax (aE×dY))(lg:Lg):Prop:=
 (kZ all o σ=ah ai/\∃e l,(kM E nm o).run σ []=ah (e,l)/\e.cond=ai/\ws=e.ws/\lg=⟨oq all o++l,e.ws.map (·.1)⟩)\/
 (kZ all o σ=ah ak/\ws=dw o (.jh [])/\lg=⟨oq all o,(dw o (.jh [])).map (·.1)⟩)
def HO(mW i:aE):aE:=(mW+1)*1000000+i*1000
abbrev Tr:=ax (ax (aE×dY)×Lg)
def uk(E:eP)(all:c_ eJ)(mW:aE):aE->ax eJ->St->Tr->St->Prop
 |_,[],σ,tr,σ'=>tr=[]/\σ'=σ
 |i,o::os,σ,tr,σ'=>∃ws lg Ye,tr=(ws,lg)::Ye/\s7 E all (HO mW i) o σ ws lg/\uk E all mW (i+1) os (wr σ ws) Ye σ'
theorem LI{R:Type}(E:eP)(all:c_ eJ)(mW:aE):∀(os:ax eJ) (i:aE) (σ:St) (lg:ax Lg) (K:St->ax Lg->aA R) (r:R),ops E all mW i os σ lg K=ah r->
  ∃tr σ',uk E all mW i os σ tr σ'/\K σ' ((tr.map (·.2)).reverse++lg)=ah r:=by
 intro os;induction os with
 |nil=>intro i σ lg K r h;exact⟨[],σ,⟨rfl,rfl⟩,by simpa [ops]using h⟩
 |cons o os ih=>
  intro i σ lg K r h;have next:∀ws l,s7 E all (HO mW i) o σ ws l->ops E all mW (i+1) os (wr σ ws) (l::lg) K=ah r->∃tr σ',uk E all mW i (o::os) σ tr σ'/\K σ' ((tr.map (·.2)).reverse++lg)=ah r:=by intro ws l hs h;obtain⟨tr,σ',h1,h2⟩:=ih _ _ _ _ _ h;exact⟨(ws,l)::tr,σ',⟨ws,l,tr,rfl,hs,h1⟩,by simpa using h2⟩
  have afr:∀rs,rs=oq all o->kZ all o σ=ah ai->(match (kM E (HO mW i) o).run σ []with
    |some (e,l)=>bif e.cond then ops E all mW (i+1) os (wr σ e.ws) (⟨rs++l,e.ws.map (·.1)⟩::lg) K else aj
    |none=>aj)=ah r->∃tr σ',uk E all mW i (o::os) σ tr σ'/\K σ' ((tr.map (·.2)).reverse++lg)=ah r:=by
   intro rs hrs hw h
   cases hr:(kM E (HO mW i) o).run σ []with
   |none=>rw[hr]at h;cases h
   |some el=>
    obtain⟨e,l⟩:=el;rw[hr]at h;cases hc:e.cond with
    |false=>simp[hc]at h
    |true=>simp only[hc,ay]at h;exact next e.ws _ (.inl ⟨hw,e,l,hr,hc,rfl,by rw[hrs]⟩) h
  unfold ops at h;simp(config:={zeta:=false}) only[Cj]at h;cases hg:o.guard with
  |none=>rw[hg]at h;exact afr [] (by simp[oq,hg]) (by simp[kZ,hg]) h
  |some gw=>
   obtain⟨g,want⟩:=gw;rw[hg]at h;dsimp only at h;cases hd:(all.getD g default).dst with
   |none=>rw[hd]at h;cases h
   |some d=>
    rw[hd]at h;dsimp only at h;have vI:oq all o=[oW d]:=by unfold oq;rw[hg];dsimp only;rw[hd]
    cases hs:σ (oW d)with
    |v sv=>
     rw[hs]at h;cases sv with
     |v agg xs=>
      cases agg with
      |true=>cases h
      |false=>
       match xs with
       |[]=>cases h
       |_::_::_=>simp at h
       |[av]=>
        cases av with
        |b x=>
         have hwa:kZ all o σ=ah (x==want):=by unfold kZ;rw[hg];dsimp only;rw[hd];dsimp only;rw[hs]
         have hup:nG σ (oW d) (.v (.v ak [.b x]))=σ:=AR hs;have skip:kZ all o σ=ah ak->ops E all mW (i+1) os (wr (nG σ (oW d) (.v (.v ak [.b x]))) (dw o (.jh []))) (⟨[oW d],(dw o (.jh [])).map (·.1)⟩::lg) K=ah r->∃tr σ',uk E all mW i (o::os) σ tr σ'/\K σ' ((tr.map (·.2)).reverse++lg)=ah r:=by intro hw h;rw[hup]at h;exact next (dw o (.jh [])) _ (.inr ⟨hw,rfl,by rw[vI]⟩) h
         have Xg:kZ all o σ=ah ai->(match (kM E (HO mW i) o).run (nG σ (oW d) (.v (.v ak [.b x]))) []with
           |some (e,l)=>bif e.cond then ops E all mW (i+1) os (wr (nG σ (oW d) (.v (.v ak [.b x]))) e.ws) (⟨oW d::l,e.ws.map (·.1)⟩::lg) K else aj
           |none=>aj)=ah r->∃tr σ',uk E all mW i (o::os) σ tr σ'/\K σ' ((tr.map (·.2)).reverse++lg)=ah r:=by
          intro hw h
          rw[hup]at h
          exact afr [oW d] vI.symm hw h
         cases x with
         |true=>
          cases want with
          |true=>exact Xg (by rw[hwa];rfl) h
          |false=>exact skip (by rw[hwa];rfl) h
         |false=>
          cases want with
          |true=>exact skip (by rw[hwa];rfl) h
          |false=>exact Xg (by rw[hwa];rfl) h
        |_=>simp at h
     |jh l=>cases l with
      |nil=>
       have hwa:kZ all o σ=ah false:=by unfold kZ;rw[hg];dsimp only;rw[hd];dsimp only;rw[hs]
       exact next (dw o (.jh [])) _ (.inr ⟨hwa,rfl,by rw[vI]⟩) h
      |cons=>simp at h
     |un=>simp at h
    |o x=>rw[hs]at h;cases h
    |iU=>rw[hs]at h;cases h
section
variable {P:cL} {E:eP} {σ:St} {a:Act} {w:bB} {c:eB} {o:eJ} {nm:aE} {e:qU}
theorem CK(di:eG E σ a w c){all:c_ eJ}{x:aW}(h:kZ all o σ=ah x):s6 o (yielded all a.tmps)=x:=by
 unfold kZ at h;unfold s6;cases hg:o.guard with
 |none=>rw[hg]at h;simp at h;simp[<-h]
 |some gw=>
  obtain⟨g,want⟩:=gw;rw[hg]at h;simp only at h⊢;cases hd:(all.getD g default).dst with
  |none=>rw[hd]at h;cases h
  |some d=>
   rw[hd]at h;have hgo:(all[g]?).bind (·.dst)=ah d:=by
    rw[dX]at hd;cases hq:all[g]? with
    |none=>rw[hq]at hd;cases hd
    |some og=>rw[hq]at hd;exact hd
   simp only at h;split at h
   ·rename_i y hy;have h1:=di.ok d;have:slot σ d= .v ak [.b y]:=by unfold slot;rw[hy]
    rw[this]at h1;have h1:a.eval (.tmp d)= .bool y:=h1;have ht:a.tmps[d]? =ah (.bool y):=by
     have h2:a.tmps.getD d undef= .bool y:=h1;rw[dX]at h2;cases hq:a.tmps[d]? with
     |none=>rw[hq]at h2;cases h2
     |some v=>rw[hq]at h2;rw[show v=_ from h2]
    have GD:yielded all a.tmps g=ah y:=by unfold yielded;rw[hgo];simp[ht]
    rw[GD];simp at h;rw[<-h];cases y<;>cases want<;>rfl
   ·rename_i hy;have h1:=di.ok d;have:slot σ d= .jh []:=by unfold slot;rw[hy]
    rw[this]at h1;obtain⟨vs,h1,h3,_⟩:=h1;have h4:vs= #[]:=by simpa using h3
    subst h4;have ht:a.tmps.getD d undef= .tuple #[]:=h1;have GD:yielded all a.tmps g=none:=by
     unfold yielded;rw[hgo];rw[dX]at ht;cases hq:a.tmps[d]? with
     |none=>simp[hq]
     |some v=>rw[hq]at ht;simp at ht;simp[hq,ht]
    rw[GD];have h5:ak=x:=by simpa using h
    rw[<-h5];cases want<;>rfl
   ·cases h
theorem Act.Qj(a:Act)(d:aA Tmp)(v:a_):(a.put d v).tmps.size=a.tmps.size:=by cases d<;>simp[Rc]
theorem yV(hE:dS P E)(hF:∀g,kS P E g (E.call g))(b7:Ok E σ w c)(di:eG E σ a w c)(hd:∀d,o.dst=ah d->d<a.tmps.size){all:c_ eJ}{i:aE}(hi:all[i]? =ah o){ws:ax (aE×dY)}{lg:Lg}(h:s7 E all nm o σ ws lg)
  {K:Act->bB->Prop} {Q:Exit->Act->bB->Prop} (hK:∀v w' c',Ok E (wr σ ws) w' c'->eG E (wr σ ws) (a.put o.dst v) w' c'->nb σ c w (wr σ ws) c' w'->oC σ c c'->K (a.put o.dst v) w'):wpOp P all Q i K a w:=by
 unfold wpOp;rw[hi];simp only;rcases h with ⟨hw,e,l,hr,hc,rfl,_⟩|⟨hw,rfl,_⟩
 ·rw[bu (CK di hw)];exact .inl (afp hE hF b7 di hd (Rd.Im hr) hc K Q hK)
 ·rw[bJ (by rw[CK di hw];simp)];obtain⟨s1,s2,s3⟩:=oz σ o (.jh []);obtain⟨h1,h2⟩:=b7.slot s3;refine hK undef w c h1 ?_ h2 (iN.refl _ _).w;refine di.change b7 h2 (iN.refl _ _) (λnm hn=>by rw[s3];exact hn) o undef s1 (λd ho=>⟨hd d ho, ?_, ?_⟩)
  ·rw[s2 d ho];exact⟨#[],rfl,rfl,λj agg xs hj=>by simp at hj⟩
  ·rw[s2 d ho];intro n hn;simp[ch]at hn
structure At (P:cL) (E:eP) (N:aE) (σ0:St) (c0:eB) (w0:bB) (σ:St) (a:Act) (w:bB) (c:eB):Prop where
 ok:Ok E σ w c
 sl:eG E σ a w c
 sz:a.tmps.size=N
 gr:nb σ0 c0 w0 σ c w
 ag:Rb c0 c
theorem At.step{N:aE}{σ0:St}{c0:eB}{w0:bB}(h:At P E N σ0 c0 w0 σ a w c){d:aA Tmp}{v:a_}{w':bB}{c':eB}{σ':St}(h1:Ok E σ' w' c')(h2:eG E σ' (a.put d v) w' c')(h3:nb σ c w σ' c' w')(h4:oC σ c c'):At P E N σ0 c0 w0 σ' (a.put d v) w' c':=
 ⟨h1,h2,by rw[Act.Qj];exact h.sz,h.gr.trans h3,h.ag.trans h4.aga⟩
theorem Ha(hE:dS P E)(hF:∀g,kS P E g (E.call g)){N:aE}{σ0:St}{c0:eB}{w0:bB}{all:c_ eJ}{mW:aE}{Q:Exit->Act->bB->Prop}:∀(os:ax eJ) (i:aE) (σ:St) (tr:Tr) (σ':St),uk E all mW i os σ tr σ'->(∀j o,os[j]? =ah o->all[i+j]? =ah o)->(∀o∈os,∀d,o.dst=ah d->d<N)->
  (∀a w c,At P E N σ0 c0 w0 σ' a w c->Q .normal a w)->∀a w c,At P E N σ0 c0 w0 σ a w c->wpOps P all Q (mv i os.length) a w:=by
 intro os;induction os with
 |nil=>intro i σ tr σ' h _ _ hQ a w c fN;obtain⟨_,rfl⟩:=h;exact hQ a w c fN
 |cons o os ih=>intro i σ tr σ' h od zW hQ a w c fN;obtain⟨ws,lg,Ye,rfl,hs,Rx⟩:=h;have hi:all[i]? =ah o:=od 0 o rfl;rw[cS,List.range'_succ,wpOps_cons];refine yV hE hF fN.ok fN.sl (λd hd=>by rw[fN.sz];exact zW o (du ..) d hd) hi hs (λv w' c' h1 h2 h3 h4=> ?_);exact ih (i+1) _ _ _ Rx (λj o' hj=>by have:=od (j+1) o' hj;rwa[show i+(j+1)=i+1+j by omega]at this) (λo' tc=>zW o' (cM _ tc)) hQ _ _ _ (fN.step h1 h2 h3 h4)
end
end Go.FG

namespace Go.FG
theorem Rd.UP{α:Type}(m:Rd α):∀{σ:St} {l l':ax aE} {a:α},m.run σ l=ah (a,l')->∀k∈l,k∈l':=by
 induction m with
 |ret a=>intro σ l l' b h k hk;cases h;exact hk
 |fail=>intro σ l l' b h;cases h
 |get k f ih=>intro σ l l' b h k' ta;exact ih _ h k' (cM _ ta)
theorem Rd.L6{α:Type}(m:Rd α):∀{σ σ':St} {l l':ax aE} {a:α},m.run σ l=ah (a,l')->(∀k∈l',σ' k=σ k)->m.run σ' l=ah (a,l'):=by
 induction m with
 |ret a=>intro σ σ' l l' b h _;exact h
 |fail=>intro σ σ' l l' b h;cases h
 |get k f ih=>intro σ σ' l l' b h hk;have h:(f (σ k)).run σ (k::l)=ah (b,l'):=h;have ta:σ' k=σ k:=hk k (Rd.UP _ h k (du ..));show(f (σ' k)).run σ' (k::l)=ah (b,l');rw[ta];exact ih _ h hk
theorem vq{all:c_ eJ}{o:eJ}{σ σ':St}(h:∀k∈oq all o,σ' k=σ k):kZ all o σ'=kZ all o σ:=by
 unfold kZ oq at*
 cases hg:o.guard with
 |none=>rfl
 |some gw=>
  obtain⟨g,want⟩:=gw;rw[hg]at h;dsimp only at h⊢;cases hd:(all.getD g default).dst with
  |none=>rfl
  |some d=>rw[hd]at h;dsimp only at h⊢;rw[h (oW d) (aY.2 rfl)]
theorem s7.congr{E:eP}{all:c_ eJ}{nm:aE}{o:eJ}{σ σ':St}{ws:ax (aE×dY)}{lg:Lg}(h:s7 E all nm o σ ws lg)(hk:∀k∈lg.rs,σ' k=σ k):s7 E all nm o σ' ws lg:=by
 rcases h with ⟨h1,e,l,h2,h3,rfl,rfl⟩|⟨h1,rfl,rfl⟩
 ·refine .inl ⟨by rw[vq (λk ta=>hk k (bR _ ta))];exact h1,e,l,Rd.L6 _ h2 (λk ta=>hk k (bH _ ta)),h3,rfl,rfl⟩
 ·exact .inr ⟨by rw[vq (λk ta=>hk k ta)];exact h1,rfl,rfl⟩
theorem s7.keys{E:eP}{all:c_ eJ}{nm:aE}{o:eJ}{σ:St}{ws:ax (aE×dY)}{lg:Lg}(h:s7 E all nm o σ ws lg):lg.ws=ws.map (·.1):=by rcases h with ⟨h1,e,l,h2,h3,rfl,rfl⟩|⟨h1,rfl,rfl⟩<;>rfl
theorem n5:∀{ws:ax (aE×dY)} {σ:St} {k:aE},k∉ws.map (·.1)->wr σ ws k=σ k:=by
 intro ws;induction ws with
 |nil=>intro σ k _;rfl
 |cons d ws ih=>obtain⟨k',c⟩:=d;intro σ k h;rw[eK,cq,not_or]at h;show wr (nG σ k' c) ws k=σ k;rw[ih h.2,wT σ c h.1]
theorem QZ:∀{ws:ax (aE×dY)} {σ σ':St} {k:aE},k∈ws.map (·.1)->wr σ ws k=wr σ' ws k:=by
 intro ws;induction ws with
 |nil=>intro σ σ' k h;cases h
 |cons d ws ih=>
  obtain⟨k',c⟩:=d;intro σ σ' k h;show wr (nG σ k' c) ws k=wr (nG σ' k' c) ws k;by_cases hk:k∈ws.map (·.1)
  ·exact ih hk
  ·have:k=k':=by
    rcases cq.1 h with h|h
    ·exact h
    ·exact cw h hk
   subst this;rw[n5 hk,n5 hk,rV,rV]
theorem QY{ws:ax (aE×dY)}{σ σ':St}{k:aE}(h:σ k=σ' k):wr σ ws k=wr σ' ws k:=by
 by_cases hk:k∈ws.map (·.1)
 ·exact QZ hk
 ·rw[n5 hk,n5 hk];exact h
def A6:Tr->aE->(aE->aW)->St->St
 |[],_,_,σ=>σ
 |(ws,_)::tr,i,S,σ=>A6 tr (i+1) S (bif S i then wr σ ws else σ)
theorem sJ:∀{tr:Tr} {i:aE} {S S':aE->aW} {σ σ':St} {k:aE},σ k=σ' k->(∀j ws lg,tr[j]? =ah (ws,lg)->S (i+j)≠S' (i+j)->k∉ws.map (·.1))->A6 tr i S σ k=A6 tr i S' σ' k:=by
 intro tr;induction tr with
 |nil=>intro i S S' σ σ' k h _;exact h
 |cons d tr ih=>
  obtain⟨ws,lg⟩:=d;intro i S S' σ σ' k h hd;refine ih ?_ (λj BK A5 hj iq=>hd (j+1) BK A5 hj (by rwa[show i+(j+1)=i+1+j by omega]));by_cases hS:S i=S' i
  ·rw[hS];cases S' i
   ·exact h
   ·exact QY h
  ·have hk:=hd 0 ws lg rfl hS;cases hs:S i<;>cases hs':S' i
   ·exact cw (hs.trans hs'.symm) hS
   ·show σ k=wr σ' ws k;rw[n5 hk];exact h
   ·show wr σ ws k=σ' k;rw[n5 hk];exact h
   ·exact cw (hs.trans hs'.symm) hS
theorem AL:∀{tr:Tr} {i:aE} {S:aE->aW} {σ:St},(∀j,i<=j->S j=ak)->A6 tr i S σ=σ:=by
 intro tr;induction tr with
 |nil=>intro i S σ _;rfl
 |cons d tr ih=>obtain⟨ws,lg⟩:=d;intro i S σ h;show A6 tr (i+1) S (bif S i then wr σ ws else σ)=σ;rw[h i (cm _)];exact ih (λj hj=>h j (by omega))
theorem QK:∀{tr:Tr} {i j:aE} {S:aE->aW} {σ:St} {ws:ax (aE×dY)} {lg:Lg},tr[j]? =ah (ws,lg)->S (i+j)=ai->(∀q,i+j<q->S q=ak)->∃τ,A6 tr i S σ=wr τ ws:=by
 intro tr;induction tr with
 |nil=>intro i j S σ ws lg h;simp at h
 |cons d tr ih=>
  obtain⟨BK,A5⟩:=d;intro i j S σ ws lg h hS hn;cases j with
  |zero=>
   cases h;refine⟨σ, ?_⟩
   show A6 tr (i+1) S (bif S i then wr σ BK else σ)=wr σ BK;rw[show S i=ai from hS];exact AL (λq hq=>hn q (by omega))
  |succ j=>exact ih (i:=i+1) h (by rwa[show i+1+j=i+(j+1)by omega]) (λq hq=>hn q (by omega))
theorem N0{E:eP}{all:c_ eJ}{mW:aE}:∀{os:ax eJ} {i:aE} {σ σ':St} {tr:Tr},uk E all mW i os σ tr σ'->tr.length=os.length/\A6 tr i (λ_=>ai) σ=σ'/\
  ∀(j:aE) (o:eJ),os[j]? =ah o->∃ws lg,tr[j]? =ah (ws,lg)/\s7 E all (HO mW (i+j)) o (A6 tr i (λq=>decide (q<i+j)) σ) ws lg:=by
 intro os;induction os with
 |nil=>intro i σ σ' tr h;obtain⟨rfl,rfl⟩:=h;exact⟨rfl,rfl,λj o h=>by simp at h⟩
 |cons o os ih=>
  intro i σ σ' tr h;obtain⟨ws,lg,Ye,rfl,hs,Rx⟩:=h;obtain⟨h1,h2,h3⟩:=ih Rx;refine⟨by simp[h1],h2,λj o' hj=> ?_⟩
  cases j with
  |zero=>
   cases hj;refine⟨ws,lg,rfl, ?_⟩
   rw[show A6 ((ws,lg)::Ye) i (λq=>decide (q<i+0)) σ=σ from AL (λq hq=>by simp;omega)];exact hs
  |succ j=>
   obtain⟨BK,A5,q1,q2⟩:=h3 j o' hj;refine⟨BK,A5,q1, ?_⟩
   have e1:A6 ((ws,lg)::Ye) i (λq=>decide (q<i+(j+1))) σ=A6 Ye (i+1) (λq=>decide (q<i+1+j)) (wr σ ws):=by show A6 Ye (i+1) (λq=>decide (q<i+(j+1))) (bif decide (i<i+(j+1))then wr σ ws else σ)=_;rw[aG (by omega:i<i+(j+1))];rw[show i+(j+1)=i+1+j by omega];rfl
   rw[e1,show i+(j+1)=i+1+j by omega];exact q2
theorem rD{a b:Lg}(h:zI a b=ak):(∀k∈a.ws,k∉b.ws)/\(∀k∈a.ws,k∉b.rs)/\∀k∈b.ws,k∉a.rs:=by simp only[zI,lz,aF]at h;exact⟨nB h.1.1,nB h.1.2,nB h.2⟩
theorem wI{l:ax aE}{n:aE}(h:lx n l=ai):n∈l:=by
 induction l with
 |nil=>cases h
 |cons m r ih=>
  simp only[lx,dv]at h;rcases h with h|h
  ·rw[aQ h];exact du ..
  ·exact cM _ (ih h)
theorem G7{an:ax aE}{j:aE}{a:Lg}:∀{l:ax Lg} {i:aE},yH an j a i l=ai->∀(q:aE) (b:Lg),l[q]? =ah b->i+q∈an\/zI a b=false:=by
 intro l;induction l with
 |nil=>intro i _ q b h;simp at h
 |cons d l ih=>
  intro i h q b hq;simp only[yH,aF,dv,dt]at h;cases q with
  |zero=>cases hq;exact h.1.imp wI id
  |succ q=>have:=ih h.2 q b hq;rwa[show i+1+q=i+(q+1)by omega]at this
theorem Jj{an:ax (ax aE)}:∀{rest:ax Lg} {j:aE} {done:ax Lg},done.length=j->calm j an done rest=ai->∀(i J:aE) (a b:Lg),i<J->j<=J->(done++rest)[i]? =ah b->(done++rest)[J]? =ah a->i∈an.getD J []\/zI a b=false:=by
 intro rest;induction rest with
 |nil=>intro j done hd _ i J a b _ hJ _ hb;rw[dH,jQ (by omega)]at hb;cases hb
 |cons d rest ih=>
  intro j done hd h i J a b Lf hJ hi hb;simp only[calm,aF]at h;by_cases hJj:J=j
  ·subst hJj;rw[cW (by omega),hd,YY]at hb;cases hb;rw[dB (by omega)]at hi;have:=G7 h.1 i b hi;rwa[bO]at this
  ·refine ih (done:=done++[d]) (by simp[hd]) h.2 i J a b Lf (by omega) ?_ ?_
   ·rw[cf];exact hi
   ·rw[cf];exact hb
theorem Sl:∀{os:ax eJ} {acc:ax (ax aE)},∃rest,Dn acc os=acc++rest/\rest.length=os.length/\
  ∀(t:aE) (o:eJ),os[t]? =ah o->rest[t]? =ah (Zp [] (o.after.toList.flatMap λe=>bif lB .any e then e.on::((acc++rest).take (acc.length+t)).getD e.on []else [])):=by
 intro os;induction os with
 |nil=>intro acc;exact⟨[],by simp[Dn],rfl,λt o h=>by simp at h⟩
 |cons o os ih=>
  intro acc;let x:=Zp [] (o.after.toList.flatMap λe=>bif lB .any e then e.on::acc.getD e.on []else []);obtain⟨rest,h1,h2,h3⟩:=ih (acc:=acc++[x]);refine⟨x::rest, ?_,by simp[h2],λt o' ht=> ?_⟩
  ·show lJ x (λx=>Dn (acc++[x]) os)=_;rw[nD,h1,cf];rfl
  ·cases t with
   |zero=>cases ht;rw[qI,uf,List.take_append_of_le_length (cm _),gE]
   |succ t=>rw[dy,h3 t o' ht];simp only[bX,bQ,cf,sQ,show acc.length+1+t=acc.length+(t+1)by omega]
theorem J6:∀{os:ax eJ} {i:aE},FW i os=ai->∀(t:aE) (o:eJ),os[t]? =ah o->∀e∈o.after,lB .any e=ai->e.on<i+t:=by
 intro os;induction os with
 |nil=>intro i _ t o h;simp at h
 |cons o os ih=>
  intro i h t o' ht e he hb;simp only[FW,aF]at h;cases t with
  |zero=>
   cases ht;have:=bj.1 h.1 e (by simpa using he);rw[hb]at this;have:o0 e.on i=true:=by simpa using this
   simpa [xU]using this
  |succ t=>have:=ih h.2 t o' ht e he hb;omega
theorem zv{os:ax eJ}{S:aE->aW}(hS:∀(j:aE) (o:eJ),S j=ai->os[j]? =ah o->∀e∈o.after,lB .any e=ai->S e.on=ai)(Oz:FW 0 os=ai):
  ∀j,S j=ai->∀i∈(Dn [] os).getD j [],S i=true:=by
 obtain⟨rest,h1,h2,h3⟩:=Sl (os:=os) (acc:=[]);rw[fF]at h1;intro j;induction j using Nat.strongRecOn with
 |_ j ih=>
  intro hj i hi;rw[h1,cD]at hi;cases ho:os[j]? with
  |none=>rw[jQ (by rw[h2];exact List.getElem?_eq_none_iff.1 ho)]at hi;cases hi
  |some o=>
   rw[h3 j o ho]at hi;simp only[vW,iT,bO,fF]at hi;have hi:=(Dw _ _ _ hi).elim (λh=>by cases h) id;obtain⟨e,he,hi⟩:=bA.1 hi;have he:e∈o.after:=by simpa using he
   cases hb:lB .any e with
   |false=>rw[hb]at hi;cases hi
   |true=>
    rw[hb]at hi;have ji:=J6 Oz j o ho e he hb;rw[bO]at ji;have hSe:=hS j o hj ho e he hb;rcases cq.1 hi with rfl|hi
    ·exact hSe
    ·refine ih e.on ji hSe i ?_;rw[h1,cD];rw[cD,d_,bu ji]at hi;exact hi
end Go.FG

namespace Go.FG
theorem E1{p p':aE->aW}{i:aE}(hp:p i=ai)(mL:p' i=ak)(iq:∀j,j≠i->p' j=p j):∀{l:ax aE},l.Nodup->i∈l->l.countP p'+1=l.countP p:=by
 have same:∀{l:ax aE},i∉l->l.countP p'=l.countP p:=by
  intro l;induction l with
  |nil=>intro _;rfl
  |cons m l ih=>intro h;rw[cq,not_or]at h;rw[kh,kh,ih h.2,iq m (λe=>h.1 e.symm)]
 intro l;induction l with
 |nil=>intro _ h;cases h
 |cons m l ih=>
  intro hn h;rw[jC]at hn;rcases cq.1 h with rfl|h
  ·rw[kh,kh,same hn.1,hp,mL];simp
  ·have hm:m≠i:=λe=>hn.1 (e▸h);rw[kh,kh,iq m hm,<-ih hn.2 h];omega
theorem oQ{dD:c_ aW}{i:aE}(h:i<dD.size)(d:aW):(dD.setIfInBounds i ai).getD i d=true:=by simp[h]
section
variable {P:cL} {E:eP}
theorem KY(hE:dS P E)(hF:∀g,kS P E g (E.call g)){N:aE}{σ0:St}{c0:eB}{w0:bB}{all:c_ eJ}{mW:aE}{Q:Exit->Act->bB->Prop}{σ σ':St}{tr:Tr}(Rx:uk E all mW 0 all.toList σ tr σ')(V5:calm 0 (Dn [] all.toList) [] (tr.map (·.2))=ai)(Oz:FW 0 all.toList=ai)
  (zW:∀o∈all.toList,∀d,o.dst=ah d->d<N) (hQ:∀a w c,At P E N σ0 c0 w0 σ' a w c->Q .normal a w):
  ∀(fuel:aE) (dD:c_ aW) (a:Act) (w:bB) (c:eB),dD.size=all.size->(∀(j:aE) (o:eJ),dD.getD j ak=ai->all.toList[j]? =ah o->∀e∈o.after,lB .any e=ai->dD.getD e.on ak=ai)->
   (cz all.size).countP (λj=> !dD.getD j ak)<=fuel->At P E N σ0 c0 w0 (A6 tr 0 (λj=>dD.getD j ak) σ) a w c->wpAny P .any all Q fuel dD a w:=by
 obtain⟨t1,t2,t3⟩:=N0 Rx;have hlen:all.toList.length=all.size:=dp;have done:∀(dD:c_ aW) (a:Act) (w:bB) (c:eB),(∀j,j<all.size->dD.getD j ak=ai)->At P E N σ0 c0 w0 (A6 tr 0 (λj=>dD.getD j ak) σ) a w c->Q .normal a w:=by
  intro dD a w c od fN;refine hQ a w c ?_;have:A6 tr 0 (λj=>dD.getD j ak) σ=σ':=by
   rw[<-t2];funext k;refine sJ rfl (λj ws lg hj iq=> ?_);have jt:j<all.size:=by rw[<-hlen,<-t1];exact(aT.1 hj).1
   rw[bO]at iq;exact cw (od j jt) iq
  rw[<-this];exact fN
 have Zq:∀(dD:c_ aW) (j:aE),dD.size=all.size->j<all.size->dD.getD j ai=dD.getD j false:=by
  intro dD j hs hj;rw[dX,dX];have:j<dD.size:=by omega
  simp[this]
 have full:∀dD:c_ aW,dD.size=all.size->uq .any all dD=[]->∀j,j<all.size->dD.getD j ak=true:=by
  intro dD hs hr j;induction j using Nat.strongRecOn with
  |_ j ih=>
   intro hj;cases h:dD.getD j ak with
   |true=>rfl
   |false=>
    have ho:all[j]? =ah all[j]:=by simp[hj]
    have:j∈uq .any all dD:=by
     rw[mem_ready];refine⟨by rw[Zq dD j hs hj];exact h,all[j],ho,λe he hb=> ?_⟩
     have:=J6 Oz j all[j] (by rw[cC];exact ho) e he hb;rw[bO]at this;exact ih e.on this (by omega)
    rw[hr]at this;cases this
 intro fuel;induction fuel with
 |zero=>
  intro dD a w c hs _ adq fN;have od:∀j,j<all.size->dD.getD j ak=true:=by intro j hj;have h0:=List.countP_eq_zero.1 (Nat.le_zero.1 adq) j (by simpa using hj);simpa using h0
  refine⟨?_,done dD a w c od fN⟩
  cases hr:uq .any all dD with
  |nil=>rfl
  |cons i r=>
   have:i∈uq .any all dD:=by rw[hr];exact du ..
   obtain⟨h0,o,ho,_⟩:=mem_ready.1 this;have hi:i<all.size:=(dF.1 ho).1;rw[Zq dD i hs hi,od i hi]at h0;cases h0
 |succ fuel ih=>
  intro dD a w c hs nT adq fN;refine⟨λhr=>done dD a w c (full dD hs hr) fN,λi hi=> ?_⟩
  obtain⟨h0,o,ho,als⟩:=mem_ready.1 hi;have hil:i<all.size:=(dF.1 ho).1;rw[Zq dD i hs hil]at h0;have Lj:all.toList[i]? =ah o:=by rw[cC];exact ho
  obtain⟨ws,lg,q1,q2⟩:=t3 i o Lj;rw[bO]at q2;have O3:∀{j:aE} {BK:ax (aE×dY)} {A5:Lg},tr[j]? =ah (BK,A5)->(tr.map (·.2))[j]? =ah A5/\A5.ws=BK.map (·.1):=by
   intro j BK A5 hj;have jt:j<all.toList.length:=by rw[<-t1];exact(aT.1 hj).1
   obtain⟨ws2,lg2,r1,r2⟩:=t3 j all.toList[j] (by simp[jt]);rw[hj]at r1;cases r1;exact⟨by rw[bz,hj];rfl,r2.keys⟩
  obtain⟨lgi,kwi⟩:=O3 q1;have ZM:∀(j:aE) (o':eJ),(dD.setIfInBounds i ai).getD j ak=ai->all.toList[j]? =ah o'->∀e∈o'.after,lB .any e=ai->(dD.setIfInBounds i ai).getD e.on ak=true:=by
   intro j o' hj tc e he hb;by_cases HB:i=j
   ·subst HB;rw[Lj]at tc;cases tc;exact getD_set_true (als e he hb)
   ·rw[getD_set_ne ak HB]at hj;exact getD_set_true (nT j o' hj tc e he hb)
  have before:∀j,j<i->dD.getD j ak=ak->∀{BK:ax (aE×dY)} {A5:Lg},tr[j]? =ah (BK,A5)->zI lg A5=false:=by
   intro j hj hn BK A5 hjt;rcases Jj (done:=[]) rfl V5 j i lg A5 hj (bm _) (O3 hjt).1 lgi with h|h
   ·have:=zv ZM Oz i (oQ (by omega) ak) j h;rw[getD_set_ne ak (by omega:i≠j)]at this;rw[hn]at this;cases this
   ·exact h
  have after:∀j,i<j->dD.getD j ak=ai->∀{BK:ax (aE×dY)} {A5:Lg},tr[j]? =ah (BK,A5)->zI A5 lg=false:=by
   intro j hj hn BK A5 hjt;rcases Jj (done:=[]) rfl V5 i j A5 lg hj (bm _) lgi (O3 hjt).1 with h|h
   ·have:=zv nT Oz j hn i h;rw[h0]at this;cases this
   ·exact h
  have adS:s7 E all (HO mW i) o (A6 tr 0 (λj=>dD.getD j ak) σ) ws lg:=by
   refine q2.congr (λk hk=>sJ rfl (λj BK A5 hj iq Wc=> ?_));rw[bO]at iq;rw[<-(O3 hj).2]at Wc;by_cases HB:j<i
   ·rw[aG HB]at iq;have hn:dD.getD j ak=false:=by simpa using iq
    exact(rD (before j HB hn hj)).2.2 k Wc hk
   ·rw[aK HB]at iq;have hn:dD.getD j ak=true:=by simpa using iq
    have alc:i<j:=by
     rcases pF i j with h|h
     ·exact h
     ·have:j=i:=by omega
      subst this;rw[h0]at hn;cases hn
    exact(rD (after j alc hn hj)).2.1 k Wc hk
  have zZ:wr (A6 tr 0 (λj=>dD.getD j ak) σ) ws=A6 tr 0 (λj=>(dD.setIfInBounds i ai).getD j ak) σ:=by
   funext k;by_cases hk:k∈ws.map (·.1)
   ·have e1:A6 tr 0 (λj=>(dD.setIfInBounds i ai).getD j ak) σ k=A6 tr 0 (λj=>(dD.setIfInBounds i ai).getD j ak&&decide (j<=i)) σ k:=by
     refine sJ rfl (λj BK A5 hj iq Wc=> ?_);rw[bO]at iq;rw[<-(O3 hj).2]at Wc;have HB:i<j:=by
      rcases pF i j with h|h
      ·exact h
      ·rw[aG h,qT]at iq;exact cw rfl iq
     rw[aK (by omega:¬j<=i),Ey,getD_set_ne ak (by omega:i≠j)]at iq;have hn:dD.getD j ak=true:=by simpa using iq
     rw[<-kwi]at hk;exact(rD (after j HB hn hj)).1 k Wc hk
    obtain⟨τ,hτ⟩:=QK (i:=0) (S:=λj=>(dD.setIfInBounds i ai).getD j ak&&decide (j<=i)) (σ:=σ) q1 (by rw[bO,oQ (by omega) ak];simp) (λq hq=>by rw[aK (by omega:¬q<=i),Ey]);rw[e1,hτ];exact QZ hk
   ·rw[n5 hk];refine sJ rfl (λj BK A5 hj iq Wc=> ?_);rw[bO]at iq;by_cases HB:i=j
    ·subst HB;rw[q1]at hj;cases hj;exact hk Wc
    ·rw[getD_set_ne ak HB]at iq;exact cw rfl iq
  refine yV hE hF fN.ok fN.sl (λd V7=>by rw[fN.sz];exact zW o (aP Lj) d V7) ho adS (λv w' c' h1 h2 h3 h4=> ?_);have uO:=fN.step h1 h2 h3 h4;rw[zZ]at uO;refine ih (dD.setIfInBounds i ai) _ _ c' (by simp[hs]) ZM ?_ uO;have:=E1 (p:=λj=> !dD.getD j ak) (p':=λj=> !(dD.setIfInBounds i ai).getD j ak) (i:=i) (by rw[h0];rfl) (by rw[oQ (by omega) ak];rfl) (λj hj=>by rw[getD_set_ne ak (λe=>hj e.symm)]) (l:=cz all.size) List.nodup_range (by simpa using hil);omega
theorem At.drawn{N:aE}{σ0 σ:St}{c0 c:eB}{w0 w:bB}{a:Act}(h:At P E N σ0 c0 w0 σ a w c)(n:aE):At P E N σ0 c0 w0 σ a {w with drawn:=n} c:=by have hh:=h.ok.change (σ':=σ) (w':={w with drawn:=n}) (c':=c) (λ_=>False) (λ_ _=>rfl) (λ_ h=>h) (iN.refl _ _) (λ_ _ _=>rfl) (cm _) (λ_ h=>h) (λ_ h=> .inl h) h.ok.lt (λ_ _ h=>h.elim) (λ_ _ _ h=>h.elim) (λ_ _ _ _ _ h=>h.elim) (λ_ _ h=>h.elim) rfl rfl rfl;refine⟨hh.1,⟨λn'=>(h.sl.ok n').frame (λ_ _=>rfl) (λ_ h=>h) (λ_ _=>⟨rfl,rfl⟩),h.sl.kn,h.sl.df⟩,h.sz,h.gr.trans hh.2,h.ag⟩
theorem LU(hE:dS P E)(hF:∀g,kS P E g (E.call g))(hm:P.follows .mixedOrders=ai){R:Type}{N:aE}{σ0:St}{c0:eB}{w0:bB}{os:c_ eJ}{mW:aE}{draw:aW}{Q:Exit->Act->bB->Prop}{σ:St}{K:Ex->St->aA R}{r:R}
  (h:ops E os mW 0 os.toList σ [] (λσ lg=>bif !draw||(FW 0 os.toList&&Ji (Dn [] os.toList) lg.reverse)then K .normal σ else aj)=ah r) (zW:∀o∈os.toList,∀d,o.dst=ah d->d<N)
  (hQ:∀σ' a w c,K .normal σ'=ah r->At P E N σ0 c0 w0 σ' a w c->Q .normal a w) {a:Act} {w:bB} {c:eB} (fN:At P E N σ0 c0 w0 σ a w c):(Code.region mW os draw).wp P Q a w:=by
 obtain⟨tr,σ',Rx,hk⟩:=LI E os mW _ _ _ _ _ _ h;simp only[dH,List.reverse_reverse,NW]at hk;cases draw with
 |false=>simp only[bS,xR,ay]at hk;refine wp_region ?_;rw[List.range_eq_range',<-dp];exact Ha hE hF os.toList 0 σ tr σ' Rx (λj o hj=>by rw[bO,<-cC];exact hj) zW (λa w c h=>hQ σ' a w c hk h) a w c fN
 |true=>
  cases hc:(FW 0 os.toList&&calm 0 (Dn [] os.toList) [] (tr.map (·.2)))with
  |false=>simp[hc]at hk
  |true=>
   simp only[hc,Bool.or_true,ay]at hk;simp only[aF]at hc;refine wp_region_any hm ?_;refine KY hE hF Rx hc.2 hc.1 zW (λa w c h=>hQ σ' a w c hk h) os.size _ a _ c (by simp) (λj o hj=> ?_) ?_ ?_
   ·exfalso;rw[dX,BL]at hj;split at hj<;>cases hj
   ·exact cZ (List.countP_le_length) (by simp)
   ·have:A6 tr 0 (λj=>(yx os.size ak).getD j ak) σ=σ:=AL (λj _=>by rw[dX,BL];split<;>rfl);rw[this];exact fN.drawn _
end
end Go.FG

namespace Go.FG
theorem OH:∀{l:ax aE} {n i:aE},n∈l->∃k,idx n i l=ah k/\i<=k/\k<i+l.length/\l[k-i]? =ah n:=by
 intro l;induction l with
 |nil=>intro n i h;cases h
 |cons m l ih=>
  intro n i h;unfold idx;cases hb:bh n m with
  |true=>have:=aQ hb;subst this;exact⟨i,rfl,cm _,by simp,by simp⟩
  |false=>
   rcases cq.1 h with rfl|h
   ·simp at hb
   ·obtain⟨k,h1,h2,h3,h4⟩:=ih (i:=i+1) h;refine⟨k,h1,by omega,by simp;omega, ?_⟩
    rw[show k-i=(k-(i+1))+1 by omega,dy];exact h4
theorem Tp:∀{l:ax aE} {n i k:aE},idx n i l=ah k->i<=k/\k<i+l.length/\l[k-i]? =ah n:=by
 intro l;induction l with
 |nil=>intro n i k h;cases h
 |cons m l ih=>
  intro n i k h;unfold idx at h;cases hb:bh n m with
  |true=>rw[hb]at h;have:=aQ hb;subst this;cases h;exact⟨cm _,by simp,by simp⟩
  |false=>
   rw[hb]at h;obtain⟨h2,h3,h4⟩:=ih h;refine⟨by omega,by simp;omega, ?_⟩
   rw[show k-i=(k-(i+1))+1 by omega,dy];exact h4
theorem Hf{f:aW}{k:aE}(h:k<900):enc f k<900000000:=by unfold enc;cases f<;>simp<;>omega
theorem Tx{f:aW}{k:aE}(h:k<900):uh (enc f k)=f:=by
 cases f with
 |false=>
  show(bh (k%1000) 999&&o0 k 900000000)=ak;have:bh (k%1000) 999=false:=by
   cases hb:bh (k%1000) 999 with
   |false=>rfl
   |true=>have:=aQ hb;omega
  rw[this];rfl
 |true=>show(bh ((k*1000+999)%1000) 999&&o0 (k*1000+999) 900000000)=ai;rw[show(k*1000+999)%1000=999 by omega,show o0 (k*1000+999) 900000000=ai from GQ (by omega)];rfl
theorem SG{f f':aW}{k k':aE}(h:k<900)(h':k'<900)(he:enc f k=enc f' k'):k=k':=by unfold enc at he;cases f<;>cases f'<;>simp at he<;>omega
theorem P7{l:ax aE}{n:aE}(h:n∈l):∃k,th l n=ah k:=by
 unfold th;cases eL 900000000 n with
 |true=>exact⟨n,by simp[FJ h]⟩
 |false=>obtain⟨k,hk,_⟩:=OH (i:=0) h;exact⟨enc (uh n) k,by simp[hk]⟩
theorem va{l:ax aE}{n k:aE}(h:th l n=ah k):n∈l/\((900000000<=n/\k=n)\/(n<900000000/\∃k0,k=enc (uh n) k0/\k0<l.length/\l[k0]? =ah n)):=by
 unfold th at h;cases hb:eL 900000000 n with
 |true=>
  rw[hb]at h;cases hm:lx n l with
  |true=>simp only[hm,ay]at h;cases h;exact⟨wI hm, .inl ⟨cu hb,rfl⟩⟩
  |false=>simp[hm]at h
 |false=>
  rw[hb,aC]at h;cases hi:idx n 0 l with
  |none=>rw[hi]at h;cases h
  |some k0=>
   rw[hi]at h;cases h;obtain⟨_,h3,h4⟩:=Tp hi;rw[Nat.sub_zero]at h4;refine⟨aP h4, .inr ⟨?_,k0,rfl,by simpa using h3,h4⟩⟩
   rcases pF n 900000000 with h|h
   ·exact h
   ·rw[GQ h]at hb;cases hb
theorem D5{l:ax aE}(hl:l.length<=900){n k:aE}(h:th l n=ah k):uh k=uh n:=by
 obtain⟨_,⟨_,rfl⟩|⟨_,k0,rfl,h3,_⟩⟩:=va h
 ·rfl
 ·exact Tx (by omega)
theorem UK{l:ax aE}(hl:l.length<=900){n n' k:aE}(h:th l n=ah k)(h':th l n'=ah k):n=n':=by
 obtain⟨_,h1⟩:=va h;obtain⟨_,h2⟩:=va h';rcases h1 with ⟨a,b⟩|⟨a,k0,b,d,e⟩<;>rcases h2 with ⟨a',b'⟩|⟨a',k0',b',d',e'⟩
 ·omega
 ·have:=Hf (f:=uh n') (k:=k0') (by omega);omega
 ·have:=Hf (f:=uh n) (k:=k0) (by omega);omega
 ·have:=SG (f:=uh n) (f':=uh n') (k:=k0) (k':=k0') (by omega) (by omega) (b.symm.trans b');subst this;rw[e]at e';cases e';rfl
def inv(l:ax aE)(m:aE):aA aE:=l.find? λn=>decide (th l n=ah m)
theorem aac{l:ax aE}(hl:l.length<=900){n k:aE}(h:th l n=ah k):inv l k=ah n:=by
 unfold inv;cases hf:l.find? (λn=>decide (th l n=ah k))with
 |none=>have:=o7.1 hf n (va h).1;simp[h]at this
 |some n'=>have:=List.find?_some hf;rw[UK hl h (cg this)]
theorem OK{l:ax aE}{m n:aE}(h:inv l m=ah n):th l n=ah m:=cg (List.find?_some (p:=λn=>decide (th l n=ah m)) h)
theorem Cq{l ns:ax aE}(h:wG l ns=ai):∀n∈ns,n∈l:=λn hn=>wI (bj.1 h n hn)
theorem qi{σ:St}{l:ax aE}:∀{r:ax aE} {k:aE} {x:dY},(k,x)∈tT σ l r↔∃n∈r,∃m,th l n=ah m/\k=cK m/\x=LV l (σ (cK n)):=by
 intro r;induction r with
 |nil=>intro k x;simp[tT]
 |cons n r ih=>
  intro k x;unfold tT;cases hr:th l n with
  |none=>
   simp only;rw[ih];constructor
   ·rintro ⟨n',h1,h2⟩;exact⟨n',cM _ h1,h2⟩
   ·rintro ⟨n',h1,m,h2,h3⟩;rcases cq.1 h1 with rfl|h1
    ·rw[hr]at h2;cases h2
    ·exact⟨n',h1,m,h2,h3⟩
  |some m=>
   simp only[cq,ih];constructor
   ·rintro (h|⟨n',h1,h2⟩)
    ·cases h;exact⟨n, .inl rfl,m,hr,rfl,rfl⟩
    ·exact⟨n', .inr h1,h2⟩
   ·rintro ⟨n',h1|h1,m',h2,rfl,rfl⟩
    ·subst h1;rw[hr]at h2;cases h2;exact .inl rfl
    ·exact .inr ⟨n',h1,m',h2,rfl,rfl⟩
section
variable {P:cL} {E:eP} {σ:St} {a:Act} {w:bB} {c:eB} {o:eJ} {nm:aE} {e:qU}
def u9(c:eB)(l:ax aE):eB:=
 ⟨λm=>match inv l m with|some n=>c.P n|none=>c.P m,λm=>match inv l m with|some n=>c.G n|none=>c.G m,c.K⟩
theorem u_{l:ax aE}(hl:l.length<=900){n m:aE}(h:th l n=ah m):(u9 c l).P m=c.P n/\(u9 c l).G m=c.G n:=by have:=aac hl h;unfold u9;simp only[this];exact⟨trivial,trivial⟩
theorem rT{T:Tab}{l:ax aE}(hl:l.length<=900){x:AV}{u:a_}(hx:dP T w c x u)(hk:∀n∈bw x,n∈l):dP T w (u9 c l) (nX l x) u/\∀m∈bw (nX l x),∃n∈l,th l n=ah m:=by
 have named:∀n,n∈bw x->∃k,th l n=ah k/\(u9 c l).P k=c.P n/\(u9 c l).G k=c.G n:=λn hn=>by obtain⟨k,h⟩:=P7 (hk n hn);exact⟨k,h,u_ hl h⟩
 have nn:∀m,m∈([]:ax aE)->∃n∈l,th l n=ah m:=λm h=>by cases h
 cases x with
 |i=>exact⟨hx,nn⟩
 |b=>exact⟨hx,nn⟩
 |s=>exact⟨hx,nn⟩
 |nl=>exact⟨hx,nn⟩
 |sh=>exact⟨hx,nn⟩
 |sp=>exact⟨hx,nn⟩
 |fn=>exact⟨hx,nn⟩
 |fp=>exact⟨hx,nn⟩
 |own n=>obtain⟨k,h,e1,e2⟩:=named n (by simp[bw]);simp only[nX,h];exact⟨by simp only[dP,e1]at hx⊢;exact hx,λm hm=>⟨n,hk n (by simp[bw]),by rw[show m=k by simpa [bw]using hm];exact h⟩⟩
 |vw n lo hi=>obtain⟨k,h,e1,e2⟩:=named n (by simp[bw]);simp only[nX,h];exact⟨by simp only[dP,e1]at hx⊢;exact hx,λm hm=>⟨n,hk n (by simp[bw]),by rw[show m=k by simpa [bw]using hm];exact h⟩⟩
 |bp n j=>obtain⟨k,h,e1,e2⟩:=named n (by simp[bw]);simp only[nX,h];exact⟨by simp only[dP,e1]at hx⊢;exact hx,λm hm=>⟨n,hk n (by simp[bw]),by rw[show m=k by simpa [bw]using hm];exact h⟩⟩
 |rp n i j=>obtain⟨k,h,e1,e2⟩:=named n (by simp[bw]);simp only[nX,h];exact⟨by simp only[dP,e1]at hx⊢;exact hx,λm hm=>⟨n,hk n (by simp[bw]),by rw[show m=k by simpa [bw]using hm];exact h⟩⟩
 |inn n i j=>obtain⟨k,h,e1,e2⟩:=named n (by simp[bw]);simp only[nX,h];exact⟨by simp only[dP,e1,e2,D5 hl h]at hx⊢;exact hx,λm hm=>⟨n,hk n (by simp[bw]),by rw[show m=k by simpa [bw]using hm];exact h⟩⟩
 |ip n i j i2 j2=>obtain⟨k,h,e1,e2⟩:=named n (by simp[bw]);simp only[nX,h];exact⟨by simp only[dP,e1,e2,D5 hl h]at hx⊢;exact hx,λm hm=>⟨n,hk n (by simp[bw]),by rw[show m=k by simpa [bw]using hm];exact h⟩⟩
 |iv n i j lo hi=>obtain⟨k,h,e1,e2⟩:=named n (by simp[bw]);simp only[nX,h];exact⟨by simp only[dP,e1,e2,D5 hl h]at hx⊢;exact hx,λm hm=>⟨n,hk n (by simp[bw]),by rw[show m=k by simpa [bw]using hm];exact h⟩⟩
theorem H6{T:Tab}{l:ax aE}(hl:l.length<=900){g:aW}{xs:ax AV}{u:a_}(hx:o4 T w c g xs u)(hk:∀n∈xs.flatMap bw,n∈l):o4 T w (u9 c l) g (xs.map (nX l)) u/\∀m∈(xs.map (nX l)).flatMap bw,∃n∈l,th l n=ah m:=by
 have kx:∀x∈xs,∀n∈bw x,n∈l:=λx hx n hn=>hk n (bA.2 ⟨x,hx,hn⟩);unfold o4 at hx;split at hx
 ·rename_i y;obtain⟨h1,h2⟩:=rT hl hx (kx y (by simp));exact⟨h1,λm hm=>h2 m (by simpa using hm)⟩
 ·obtain⟨vals,rfl,hs,hv⟩:=hx;refine⟨⟨vals,rfl,by simp[hs],λj y hj=> ?_⟩,λm hm=> ?_⟩
  ·rw[bz]at hj;cases Tm:xs[j]? with
   |none=>rw[Tm]at hj;cases hj
   |some x=>rw[Tm]at hj;cases hj;obtain⟨u,hu,ha⟩:=hv j x Tm;exact⟨u,hu,(rT hl ha (kx x (aP Tm))).1⟩
  ·obtain⟨y,hy,hm⟩:=bA.1 hm;obtain⟨x,Wl,rfl⟩:=cO.1 hy;obtain⟨j,hj⟩:=bV Wl;obtain⟨u,hu,ha⟩:=hv j x hj;exact(rT hl ha (kx x Wl)).2 m hm
 ·exact hx.elim
theorem F8{T:Tab}{l:ax aE}(hl:l.length<=900){s:SV}{u:a_}(hx:iA T w c s u):iA T w (u9 c l) (CA l s) u/\∀m∈ch (CA l s),∃n∈l,th l n=ah m:=by
 unfold CA;cases hk:wG l (ch s)with
 |false=>exact⟨trivial,λm hm=>by simp[ch]at hm⟩
 |true=>
  have hk:=Cq hk;simp only[ay];cases s with
  |un=>exact⟨trivial,λm hm=>by simp[ch]at hm⟩
  |v g xs=>exact H6 hl hx hk
  |jh r=>
   obtain⟨vs,rfl,hs,hv⟩:=hx;have kr:∀x∈r,∀n∈x.2.flatMap bw,n∈l:=λx hx n hn=>hk n (bA.2 ⟨x,hx,hn⟩);refine⟨⟨vs,rfl,by simp[hs],λj g xs hj=> ?_⟩,λm hm=> ?_⟩
   ·rw[bz]at hj;cases Tm:r[j]? with
    |none=>rw[Tm]at hj;cases hj
    |some x=>rw[Tm]at hj;cases hj;obtain⟨u,hu,ha⟩:=hv j x.1 x.2 Tm;exact⟨u,hu,(H6 hl ha (kr x (aP Tm))).1⟩
   ·obtain⟨y,hy,hm⟩:=bA.1 hm;obtain⟨x,Wl,rfl⟩:=cO.1 hy;obtain⟨j,hj⟩:=bV Wl;obtain⟨u,hu,ha⟩:=hv j x.1 x.2 hj;exact(H6 hl ha (kr x Wl)).2 m hm
theorem P6{l:ax aE}{x:dY}:LV l x≠ .iU:=by
 unfold LV;split
 ·intro h;revert h;cases wG l _<;>simp
 ·simp
 ·simp
theorem KX{N:aE}{σ0:St}{c0:eB}{w0:bB}{keep:ax aE}(h:At P E N σ0 c0 w0 σ a w c):∃c',At P E N σ0 c0 w0 (eO (lJ (G9 keep σ) λl=>G8 keep σ l)) a w c':=by
 rw[nD];generalize G9 keep σ=l;unfold G8;cases hle:eL l.length 900 with
 |false=>
  simp only[aC];have hn:∀k,eO [] k= .iU:=λk=>rfl;have no:∀{k:aE} {x:Obj},eO [] k≠ .o x:=λh=>by rw[hn]at h;cases h
  refine⟨c,⟨λnm o ho=>cw ho no,λnm o uZ o' b ho=>cw ho no,λnm o b ho=>cw ho no,h.ok.lt,λnm xs ho=>cw ho no,h.ok.gp⟩,⟨λn=>trivial,λn m hm=>(by simp[slot,eO,ch]at hm),h.sl.df⟩,h.sz,h.gr.trans ⟨rfl,rfl,rfl,cm _,λ_ h=>h,λ_ _ _=>rfl,λb hb=> ?_,λ_ h=> .inl h⟩,h.ag⟩
  obtain⟨nm,o,ho,_⟩:=hb;exact cw ho no
 |true=>
  have hl:=cu hle;simp only[ay];generalize hT:keep.map (λn=>(oW n,dY.v (CA l (slot σ n))))++tT σ l l=T;have anM:∀d∈T,d.2≠ .iU:=by
   rintro ⟨k,x⟩ hd;rw[<-hT]at hd;rcases aZ.1 hd with hd|hd
   ·obtain⟨n,_,hd⟩:=cO.1 hd;cases hd;simp
   ·obtain⟨n,_,m,_,_,rfl⟩:=qi.1 hd;exact P6
  have anN:∀{m:aE} {ob:Obj},eO T (cK m)= .o ob->∃n∈l,th l n=ah m/\LV l (σ (cK n))= .o ob:=by
   intro m ob ho;have:=nZ ho (by simp);rw[<-hT]at this;rcases aZ.1 this with hd|hd
   ·obtain⟨n,_,hd⟩:=cO.1 hd;injection hd with h1 h2;exact cw h1 (qp n m)
   ·obtain⟨n,hn,m',hr,h1,h2⟩:=qi.1 hd;have:=ju h1;subst this;exact⟨n,hn,hr,h2.symm⟩
  have OY:∀{m n:aE},n∈l->th l n=ah m->eO T (cK m)≠ .iU:=λhn hr=>qq (l:=T) (by rw[<-hT];exact bH _ (qi.2 ⟨_,hn,_,hr,rfl,rfl⟩)) anM;have Xl:∀n,slot (eO T) n=CA l (slot σ n)\/slot (eO T) n= .un:=by
   intro n;unfold slot;cases hs:eO T (oW n)with
   |v x=>
    have:=nZ hs (by simp);rw[<-hT]at this;rcases aZ.1 this with hd|hd
    ·obtain⟨n',_,hd⟩:=cO.1 hd;injection hd with h1 h2;have:=D_ h1;subst this;cases h2;exact .inl rfl
    ·obtain⟨n',hn,m',hr,h1,h2⟩:=qi.1 hd;exact cw h1 (qp _ _)
   |o=>exact .inr rfl
   |iU=>exact .inr rfl
  have was:∀{m:aE} {ob:Obj},eO T (cK m)= .o ob->ob= .dead\/∃n∈l,th l n=ah m/\((σ (cK n)= .o ob/\∀xs,ob≠ .box xs)\/∃xs,σ (cK n)= .o (.box xs)/\ob= .box (xs.map (nX l))/\∀k∈xs.flatMap bw,k∈l):=by
   intro m ob ho;obtain⟨n,hn,hr,he⟩:=anN ho;unfold LV at he;split at he
   ·rename_i xs hx;cases hk:wG l (xs.flatMap bw)with
    |true=>rw[hk]at he;cases he;exact .inr ⟨n,hn,hr, .inr ⟨xs,hx,rfl,Cq hk⟩⟩
    |false=>rw[hk]at he;cases he;exact .inl rfl
   ·rename_i x iq hx;cases he;exact .inr ⟨n,hn,hr, .inl ⟨hx,λxs e=>iq xs e⟩⟩
   ·cases he;exact .inl rfl
  have Jy:∀{m:aE} {ob:Obj} {b:aE},eO T (cK m)= .o ob->eN (u9 c l) m ob b->∃n o,th l n=ah m/\σ (cK n)= .o o/\eN c n o b:=by
   intro m ob b ho hf;rcases was ho with rfl|⟨n,hn,hr,⟨h1,_⟩|⟨xs,h1,rfl,_⟩⟩
   ·exact hf.elim
   ·obtain⟨e1,e2⟩:=u_ (c:=c) hl hr;refine⟨n,ob,hr,h1, ?_⟩
    cases ob<;>simp only[eN,e1,e2]at hf⊢ <;>exact hf
   ·obtain⟨e1,e2⟩:=u_ (c:=c) hl hr;refine⟨n,_,hr,h1, ?_⟩
    simp only[eN,e1]at hf⊢;exact hf
  refine⟨u9 c l,⟨?_, ?_, ?_,h.ok.lt, ?_,h.ok.gp⟩,⟨?_, ?_,h.sl.df⟩,h.sz,h.gr.trans ⟨rfl,rfl,rfl,cm _,λ_ h=>h,λ_ _ _=>rfl, ?_,λ_ h=> .inl h⟩,h.ag.trans ?_⟩
  ·intro m ob ho;rcases was ho with rfl|⟨n,hn,hr,⟨h1,h2⟩|⟨xs,h1,rfl,hk⟩⟩
   ·trivial
   ·obtain⟨e1,e2⟩:=u_ (c:=c) hl hr;have mg:=h.ok.obj n ob h1;cases ob with
    |box xs=>exact cw rfl (h2 xs)
    |dead=>trivial
    |mU cs=>show FB E w c.K ((u9 c l).P m).blk cs;rw[e1];exact mg
    |eZ e' xs=>show cQ E w c.K (mf ((u9 c l).P m)) _/\((u9 c l).P m).n=_/\_;rw[e1];exact mg
    |row e' ex xs=>obtain⟨q1,q2,q3⟩:=mg;exact⟨by rw[e1];exact q1,by rw[e1,e2];exact q2,by rw[e1,e2];exact q3⟩
   ·obtain⟨e1,e2⟩:=u_ (c:=c) hl hr;obtain⟨vals,hb,hs,hv⟩:=h.ok.obj n _ h1;refine⟨vals,by rw[e1];exact hb,by simp[hs],λj y hj=> ?_⟩
    rw[bz]at hj;cases hx:xs[j]? with
    |none=>rw[hx]at hj;cases hj
    |some x=>rw[hx]at hj;cases hj;obtain⟨u,hu,ha⟩:=hv j x hx;exact⟨u,hu,(rT hl ha (λk ta=>hk k (bA.2 ⟨x,aP hx,ta⟩))).1⟩
  ·intro m ob m' ob' b ho tc hf uP;obtain⟨n,o1,r1,s1,f1⟩:=Jy ho hf;obtain⟨n',o2,r2,s2,f2⟩:=Jy tc uP;have:=h.ok.sep n o1 n' o2 b s1 s2 f1 f2;subst this;rw[r1]at r2;cases r2;rfl
  ·intro m ob b ho hf;obtain⟨n,o1,r1,s1,f1⟩:=Jy ho hf;exact h.ok.kk n o1 b s1 f1
  ·intro m xs ho y hy k hk;rcases was ho with h'|⟨n,hn,hr,⟨h1,h2⟩|⟨zs,h1,he,Ft⟩⟩
   ·cases h'
   ·exact cw rfl (h2 xs)
   ·cases he;obtain⟨x,Wl,rfl⟩:=cO.1 hy;obtain⟨vals,hb,hs,hv⟩:=h.ok.obj n _ h1;obtain⟨j,hj⟩:=bV Wl;obtain⟨u,hu,ha⟩:=hv j x hj;obtain⟨n',jG,GC⟩:=(rT hl ha (λk ta=>Ft k (bA.2 ⟨x,Wl,ta⟩))).2 k hk;exact OY jG GC
  ·intro n;rcases Xl n with hs|hs
   ·rw[hs];exact(F8 hl (h.sl.ok n)).1
   ·rw[hs];trivial
  ·intro n m hm;rcases Xl n with hs|hs
   ·rw[hs]at hm;obtain⟨n',jG,GC⟩:=(F8 hl (h.sl.ok n)).2 m hm;exact OY jG GC
   ·rw[hs]at hm;simp[ch]at hm
  ·rintro b ⟨m,ob,ho,hf⟩;obtain⟨n,o1,r1,s1,f1⟩:=Jy ho hf;exact .inl ⟨n,o1,s1,f1⟩
  ·intro m hm;unfold u9;cases hi:inv l m with
   |none=>simp only[hi];exact⟨trivial,trivial⟩
   |some n=>
    have:=(va (OK hi)).2;have:n=m:=by
     rcases this with ⟨_,h⟩|⟨_,k0,h,hk0,_⟩
     ·exact h.symm
     ·have:=Hf (f:=uh n) (k:=k0) (by omega);omega
    subst this;simp only[hi];exact⟨trivial,trivial⟩
theorem aek{N:aE}{σ0:St}{c0:eB}{w0:bB}{nm F j e:aE}{xs:ax AV}{ti:TI}(hx:E.ty e=ah ti)(ji:F<900000000)(mg:σ (cK nm)= .o (.box xs))(hF:σ (cK F)= .iU)(hc:xs[j]? =ah .nl)(h:At P E N σ0 c0 w0 σ a w c):
  ∃c',At P E N σ0 c0 w0 (nG (nG σ (cK nm) (.o (.box (xs.set j (.own F))))) (cK F) (.o (.row e ai []))) a w c':=by
 let c':eB:=⟨λn=>if n=F then⟨ai,0,0,0,0,ti.ks.length⟩else c.P n,λn=>if n=F then(λ_ _=>⟨ai,0,0,0,0,0⟩)else c.G n,c.K⟩
 have hP:c'.P F=⟨ai,0,0,0,0,ti.ks.length⟩:=bu rfl;have hA:iN σ c c':=λm hm=>by
  have:m≠F:=by rintro rfl;rcases hm with h|h;exact h hF;omega
  exact⟨bJ this,bJ this⟩
 have hnF:nm≠F:=by rintro rfl;rw[mg]at hF;cases hF
 have hPn:c'.P nm=c.P nm:=bJ hnF;let σ':=nG (nG σ (cK nm) (.o (.box (xs.set j (.own F))))) (cK F) (.o (.row e ai []));have key:∀m,σ' (cK m)=if m=F then .o (.row e ai [])else if m=nm then .o (.box (xs.set j (.own F)))else σ (cK m):=λm=>by show nG _ _ _ _=_;rw[nv,nv]
 have iq:∀m,σ (cK m)≠ .iU->σ' (cK m)≠ .iU:=λm hm=>by
  rw[key];by_cases h1:m=F
  ·rw[bu h1];simp
  ·rw[bJ h1];by_cases h2:m=nm
   ·rw[bu h2];simp
   ·rw[bJ h2];exact hm
 have noI:∀i j,¬fD [] i j:=λi j ⟨y,x,hy,_⟩=>by simp at hy
 have foF:∀b,¬eN c' F (.row e ai []) b:=by
  rintro b (⟨h1,_⟩|⟨_,i,j,h1,_⟩)
  ·rw[hP]at h1;cases h1
  ·exact noI i j h1
 obtain⟨vals,hb,fm,hv⟩:=h.ok.obj nm _ mg
 have hh:=h.ok.change (σ':=σ') (w':=w) (c':=c') (λm=>m=F\/m=nm)
  (λm hm=>by rw[key,bJ (λe=>hm (.inl e)),bJ (λe=>hm (.inr e))]) iq hA (λ_ _ _=>rfl) (cm _) (λ_ h=>h) (λ_ h=> .inl h) h.ok.lt
  (λm o hm ho=>by
   rw[key]at ho;by_cases Fu:m=F
   ·rw[bu Fu]at ho;cases ho;subst Fu;refine⟨⟨ti,hx,by rw[hP],λy hy=>by cases hy⟩,⟨by rw[hP];rfl,λ_=>⟨rfl,by rw[hP]⟩,λhn=>by rw[hP]at hn;cases hn⟩,λ_=>⟨λi j hi=>cw hi (noI i j),λi j _ _ hi=>cw hi (noI i j)⟩⟩
   ·have hmn:=hm.resolve_left Fu;subst hmn;rw[bJ Fu,bu rfl]at ho;cases ho;refine⟨vals,by rw[hPn];exact hb,by rw[c7];exact fm,λk y hk=> ?_⟩
    by_cases hkj:j=k
    ·subst hkj;have hl:j<xs.length:=(aT.1 hc).1;rw[List.getElem?_set_self hl]at hk;cases hk;obtain⟨u,hu,Rw⟩:=hv j _ hc;exact⟨u,hu,by show u=mf (c'.P F);rw[hP];exact Rw⟩
    ·rw[List.getElem?_set_ne hkj]at hk;obtain⟨u,hu,Rw⟩:=hv k y hk;exact⟨u,hu,Rw.frame (λ_ _=>rfl) (λ_ h=>h) (λn hn=>hA n (.inl (h.ok.kn m xs mg y (aP hk) n hn)))⟩)
  (λm o b hm ho hf=>by
   rw[key]at ho;by_cases Fu:m=F
   ·rw[bu Fu]at ho;cases ho;subst Fu;exact cw hf (foF b)
   ·have hmn:=hm.resolve_left Fu;subst hmn;rw[bJ Fu,bu rfl]at ho;cases ho;have hf:b=(c'.P m).blk:=hf;rw[hPn]at hf;exact⟨.inl ⟨m,_, .inr rfl,mg,hf⟩,λhk=>h.ok.kk m _ b mg hf hk⟩)
  (λm o m' o' b hm uQ ho tc hf uP=>by
   rw[key]at ho tc;by_cases Fu:m=F
   ·rw[bu Fu]at ho;cases ho;subst Fu;exact cw hf (foF b)
   ·by_cases ZX:m'=F
    ·rw[bu ZX]at tc;cases tc;subst ZX;exact cw uP (foF b)
    ·rw[hm.resolve_left Fu,uQ.resolve_left ZX])
  (λm ys hm ho y hy n hn=>by
   rw[key]at ho;by_cases Fu:m=F
   ·rw[bu Fu]at ho;cases ho
   ·have hmn:=hm.resolve_left Fu;subst hmn;rw[bJ Fu,bu rfl]at ho;cases ho;rcases ly hy with hy|hy
    ·exact iq n (h.ok.kn m xs mg y hy n hn)
    ·subst hy;rw[show n=F from by simpa [bw]using hn,key,bu rfl];simp) rfl rfl rfl
 have sl:=h.sl.change h.ok hh.2 hA iq ({(default:eJ)with dst:=none}) undef (λn _=>by show slot (nG _ _ _) n=_;rw[gY,gY]) (λd hd=>by cases hd);exact⟨c',hh.1,sl,h.sz,h.gr.trans hh.2,h.ag.trans hA.w.aga⟩
theorem Pc{α:Type}{N:aE}{σ0:St}{c0:eB}{w0:bB}{x:aE}(hx:∃ti,E.ty (kTy x)=ah ti)(h:At P E N σ0 c0 w0 σ a w c):∃σ' c',At P E N σ0 c0 w0 σ' a w c'/\∀f:St->α,xI x σ f=f σ':=by
 obtain⟨ti,hx⟩:=hx;have ji:kNm x<900000000:=by unfold kNm;have:=EE (x/1000) (show 1000000>0 by omega);omega
 have no:(∀f:St->α,xI x σ f=f σ)->∃σ' c',At P E N σ0 c0 w0 σ' a w c'/\∀f:St->α,xI x σ f=f σ':=λe=>⟨σ,c,h,e⟩
 cases hs:slot σ (WS x)with
 |v g l=>
  by_cases hm:∃nm xs,g=ak/\l=[.bp nm 0]/\σ (cK nm)= .o (.box xs)/\σ (cK (kNm x))= .iU/\xs[OT x]? =ah .nl
  ·obtain⟨nm,xs,rfl,rfl,mg,hF,hc⟩:=hm;obtain⟨c',h'⟩:=aek hx ji mg hF hc h;exact⟨_,c',h',λf=>by unfold xI;rw[hs];simp only[mg,hF,hc,mI]⟩
  ·refine no λf=> ?_;unfold xI;rw[hs];split
   ·rename_i nm he;cases he;split
    ·rename_i xs h1 h2;split
     ·rename_i h3;exact cw ⟨nm,xs,rfl,rfl,h1,h2,h3⟩ hm
     ·rfl
    ·rfl
   ·rfl
 |jh l=>exact no λf=>by unfold xI;rw[hs]
 |un=>exact no λf=>by unfold xI;rw[hs]
theorem Aj{α:Type}{N:aE}{σ0:St}{c0:eB}{w0:bB}:∀(keep:ax aE) (σ:St) (c:eB) (hk:∀x∈keep,TA x=ai->∃ti,E.ty (kTy x)=ah ti) (h:At P E N σ0 c0 w0 σ a w c),∃σ' c',At P E N σ0 c0 w0 σ' a w c'/\∀f:St->α,JT keep σ f=f σ'
 |[],σ,c,_,h=>⟨σ,c,h,λ_=>rfl⟩
 |x::r,σ,c,hk,h=>by
  cases hx:TA x with
  |false=>obtain⟨σ',c',h',e⟩:=Aj r σ c (λy hy=>hk y (cM _ hy)) h;exact⟨σ',c',h',λf=>by show(bif TA x then _ else _)=_;rw[hx];exact e f⟩
  |true=>obtain⟨σ1,c1,h1,e1⟩:=Pc (α:=α) (hk x (du ..) hx) h;obtain⟨σ',c',h',e⟩:=Aj r σ1 c1 (λy hy=>hk y (cM _ hy)) h1;exact⟨σ',c',h',λf=>by show(bif TA x then _ else _)=_;rw[hx,ay,e1,e]⟩
theorem EW{N:aE}{σ0:St}{c0:eB}{w0:bB}{keep:ax aE}(hk:∀x∈keep,TA x=ai->∃ti,E.ty (kTy x)=ah ti)(h:At P E N σ0 c0 w0 σ a w c):∃c',At P E N σ0 c0 w0 (canon keep σ) a w c':=by obtain⟨σ',c1,h1,e⟩:=Aj (α:=ax (aE×dY)) keep σ c hk h;unfold canon G_;rw[e,nD];exact KX h1
theorem OX{n:aE}:∀x∈E.xG n,TA x=ai->∃ti,E.ty (kTy x)=ah ti:=by
 intro x hx hk;have:=(dh.1 hx).2;rw[hk,ay]at this;cases h:E.ty (kTy x)with
 |some ti=>exact⟨ti,rfl⟩
 |none=>rw[h]at this;cases this
end
end Go.FG

namespace Go.FG
def Zt:Ex->Exit| .normal=> .normal| .exit id=> .exit id| .ret=> .ret
def rE(N:aE):Code->aW
 | .region _ os _=>os.toList.all λo=>match o.dst with|some d=>o0 d N|none=>ai
 | .seq a b=>rE N a&&rE N b
 | .cond _ a b=>rE N a&&rE N b
 | .block _ c=>rE N c
 | .loop c=>rE N c
 |_=>ai
theorem least{p:aE->Prop}(h:∃n,p n):∃n,p n/\∀k,p k->n<=k:=by
 obtain⟨n,hn⟩:=h;induction n using Nat.strongRecOn with
 |_ n ih=>
  by_cases hm:∃m,m<n/\p m
  ·obtain⟨m,h1,h2⟩:=hm;exact ih m h1 h2
  ·exact⟨n,hn,λk hk=>by
    rcases pF k n with h|h
    ·exact cw ⟨k,h,hk⟩ hm
    ·exact h⟩
section
variable {P:cL} {E:eP}
def cE(E:eP){R:Type}(it:It R)(c:Code):Prop:=∀L K r,it (fL c) (rH E it c) (canon (E.xG (fL c))) L K=ah r->∃n,iter (rH E it c) (canon (E.xG (fL c))) n (eO L) K=ah r
theorem Zs(hE:dS P E)(hF:∀g,kS P E g (E.call g))(hm:P.follows .mixedOrders=ai){R:Type}{N:aE}{σ0:St}{c0:eB}{w0:bB}{it:It R}{r:R}:∀(code:Code),(∀c∈ja code,cE E it c)->∀(σ:St) (K:Ex->St->aA R) (Q:Exit->Act->bB->Prop),rH E it code σ K=ah r->rE N code=ai->
  (∀e σ' a w c,K e σ'=ah r->At P E N σ0 c0 w0 σ' a w c->Q (Zt e) a w)->∀a w c,At P E N σ0 c0 w0 σ a w c->code.wp P Q a w:=by
 intro code;induction code with
 |skip=>intro _ σ K Q h _ hQ a w c fN;exact wp_skip (hQ .normal σ a w c h fN)
 |region id os draw=>intro zY σ K Q h hb hQ a w c fN;refine LU hE hF hm h (λo ho d hd=> ?_) (λσ' a w c hk fN=>hQ .normal σ' a w c hk fN) fN;have:=bj.1 hb o ho;rw[hd]at this;have this:o0 d N=true:=this;simpa [xU]using this
 |seq x y ihx ihy=>
  intro zY σ K Q h hb hQ a w c fN;simp only[rE,aF]at hb;refine wp_seq (ihx (λc hc=>zY c (bR _ hc)) σ _ _ h hb.1 (λe σ' a w c hk fN=> ?_) a w c fN);cases e with
  |normal=>exact ihy (λc hc=>zY c (bH _ hc)) σ' K Q hk hb.2 hQ a w c fN
  |exit id=>exact hQ (.exit id) σ' a w c hk fN
  |ret=>exact hQ .ret σ' a w c hk fN
 |cond cnd x y ihx ihy=>
  intro zY σ K Q h hb hQ a w c fN;simp only[rE,aF]at hb;cases cnd with
  |tmp t=>
   unfold rH at h;dsimp only at h;split at h
   ·rename_i b hs;have h1:=fN.sl.ok t;have:slot σ t= .v ak [.b b]:=by unfold slot;rw[hs]
    rw[this]at h1;have h1:a.eval (.tmp t)= .bool b:=h1;cases b with
    |true=>have h:rH E it x (nG σ (oW t) (.v (.v ak [.b ai]))) K=ah r:=h;rw[AR hs]at h;exact wp_cond_true h1 (ihx (λc hc=>zY c (bR _ hc)) σ K Q h hb.1 hQ a w c fN)
    |false=>have h:rH E it y (nG σ (oW t) (.v (.v ak [.b ak]))) K=ah r:=h;rw[AR hs]at h;exact wp_cond_false h1 (ihy (λc hc=>zY c (bH _ hc)) σ K Q h hb.2 hQ a w c fN)
   ·cases h
  |_=>simp[rH]at h
 |block id x ih=>
  intro zY σ K Q h hb hQ a w c fN;refine wp_block (ih zY σ _ _ h hb (λe σ' a w c hk fN=> ?_) a w c fN);cases e with
  |normal=>exact hQ .normal σ' a w c hk fN
  |ret=>exact hQ .ret σ' a w c hk fN
  |exit j=>
   have hk:(bif bh j id then K .normal σ' else K (.exit j) σ')=ah r:=hk;show EB id Q (.exit j) a w;cases hj:bh j id with
   |true=>rw[hj]at hk;have HB:=aQ hj;have h1:Q .normal a w:=hQ .normal σ' a w c hk fN;simp only[EB,HB,if_true];exact h1
   |false=>
    rw[hj]at hk;have iq:j≠id:=λe=>by subst e;simp at hj
    have h1:Q (.exit j) a w:=hQ (.exit j) σ' a w c hk fN;simp only[EB,iq,if_false];exact h1
 |loop x ih=>
  intro zY σ K Q h hb hQ a w c fN;obtain⟨n,h⟩:∃n,iter (rH E it x) (canon (E.xG (fL x))) n (canon (E.xG (fL x)) σ) K=ah r:=zY x (du ..) _ K r h;let f:=rH (R:=R) E it x;let cn:=canon (E.xG (fL x));let p:Act->bB->aE->Prop:=λa w m=>∃σ c,iter f cn m σ K=ah r/\At P E N σ0 c0 w0 σ a w c;let mu:Act->bB->aE:=λa w=>open Classical in if h:∃m,p a w m then(least h).choose else 0
  have hmu:∀a w,(∃m,p a w m)->p a w (mu a w)/\∀k,p a w k->mu a w<=k:=by
   intro a w h;have:mu a w=(least h).choose:=by simp only[mu];rw[dif_pos h]
   rw[this];exact(least h).choose_spec
  obtain⟨c1,akO⟩:=EW (keep:=E.xG (fL x)) OX fN;refine wp_loop (λa w=>∃m,p a w m) mu ⟨n,_,c1,h,akO⟩ (λa w hI=> ?_);obtain⟨⟨σ1,c2,h1,lU⟩,hle⟩:=hmu a w hI;cases hm0:mu a w with
  |zero=>rw[hm0]at h1;cases h1
  |succ m=>
   rw[hm0]at h1;refine ih (λc hc=>zY c (cM _ hc)) σ1 _ _ h1 hb (λe σ' a' w' c' hk uO=> ?_) a w c2 lU;obtain⟨c3,ZG⟩:=EW (keep:=E.xG (fL x)) OX uO;cases e with
   |normal=>
    have hp:p a' w' m:=⟨_,c3,hk,ZG⟩
    refine⟨⟨m,hp⟩, ?_⟩
    have:=(hmu a' w' ⟨m,hp⟩).2 m hp;omega
   |exit id=>exact hQ (.exit id) _ a' w' c3 hk ZG
   |ret=>exact hQ .ret _ a' w' c3 hk ZG
 |exit id=>intro _ σ K Q h _ hQ a w c fN;exact wp_exit (hQ (.exit id) σ a w c h fN)
 |ret=>intro _ σ K Q h _ hQ a w c fN;exact wp_ret (hQ .ret σ a w c h fN)
 |_=>intro _ σ K Q h;simp[rH]at h
end
end Go.FG

namespace Go.FG
structure iO where
 aa:AA
 tk:ax aE
 fz:ax aE
 p:Pl
 g:aE->aE->Pl
 u:a_
section
variable {P:cL} {E:eP} {σ:St} {a:Act} {w:bB} {c:eB}
def i_(T:Tab)(σ:St)(w:bB)(c:eB)(r:iO):Prop:=
 (∃e ex ys te,r.aa= .ow e ex ys/\r.fz=[]/\T.ty e=ah te/\r.u=mf r.p/\r.p.sz=te.ks.length/\(∀y∈ys,y.map CV.kd=te.ks)/\im w r.p ys (λi j u x=>if ex=ai then XC T w r.g i j u x else cQ T w c.K u x)/\(ex=ai->CW r.p r.g ys)/\
  (r.p.nil=ak->∃n ob,n∈r.tk/\σ (cK n)= .o ob/\eN c n ob r.p.blk)/\(ex=ai->∀i j,fD ys i j->(r.g i j).nil=ak->∃n ob,n∈r.tk/\σ (cK n)= .o ob/\eN c n ob (r.g i j).blk))\/
 (r.tk=[]/\(∀n∈r.fz,∃el ex xs,σ (cK n)= .o (.row el ex xs))/\(∀e ex xs,r.aa≠ .ow e ex xs)/\(∀xs,r.aa≠ .kp xs)/\∀c3:eB,(∀b,YE σ c r.fz b->c3.K b)->∀nm,dP T w c3 (j8 nm r.aa) r.u)
theorem Ff(b7:Ok E σ w c){om:Om}{k:Ck}{x:AV}{u:a_}{aa:AA}{tk fz:ax aE}(h:xC E om σ k x=ah (aa,tk,fz))(hx:dP E w c x u):∃p g,i_ E σ w c ⟨aa,tk,fz,p,g,u⟩:=by
 let nl:Pl:=⟨ai,0,0,0,0,0⟩
 have OW:∀e ex ys tk,(uE e x).val σ=ah (ex,ys,tk)->(∃te,E.ty e=ah te)->∃p g,i_ E σ w c ⟨.ow e ex ys,tk,[],p,g,u⟩:=by rintro e ex ys tk hb ⟨te,ht⟩;obtain⟨p,g,hB⟩:=zD b7 ht hx hb;exact⟨p,g, .inl ⟨e,ex,ys,te,rfl,rfl,ht,hB.v,hB.sz,hB.sh,hB.at_,hB.inn,hB.own,hB.owni⟩⟩
 have SH:∀aa fz,(∀n∈fz,∃el ex xs,σ (cK n)= .o (.row el ex xs))->(∀e ex xs,aa≠ .ow e ex xs)->(∀xs,aa≠ .kp xs)->(∀c3:eB,(∀b,YE σ c fz b->c3.K b)->∀nm,dP E w c3 (j8 nm aa) u)->∃p g,i_ E σ w c ⟨aa,[],fz,p,g,u⟩:=
  λaa fz h1 h2 h3 h4=>⟨nl,λ_ _=>nl, .inr ⟨rfl,h1,h2,h3,h4⟩⟩
 have Ph:∀n∈([]:ax aE),∃el ex xs,σ (cK n)= .o (.row el ex xs):=λn hn=>by cases hn
 have HT:∀e,xD E e=ai->∃te,E.ty e=ah te:=λe he=>by
  unfold xD at he;cases ht:E.ty e with
  |none=>rw[ht]at he;cases he
  |some te=>exact⟨te,rfl⟩
 have frz:∀{n el:aE} {ex:aW} {xs:aU},σ (cK n)= .o (.row el ex xs)->∀c3:eB,(∀b,YE σ c [n] b->c3.K b)->(∀b,c.K b->c3.K b)/\∀b,eN c n (.row el ex xs) b->c3.K b:=λhg c3 h=>⟨λb hb=>h b (.inl hb),λb hb=>h b (.inr ⟨_,aY.2 rfl,_,hg,hb⟩)⟩
 have fst:∀{n el:aE} {ex:aW} {xs:aU},σ (cK n)= .o (.row el ex xs)->∀m∈[n],∃el ex xs,σ (cK m)= .o (.row el ex xs):=λhg m hm=>by rw[aY]at hm;subst hm;exact⟨_,_,_,hg⟩
 cases x with
 |i k n=>cases h;exact SH _ _ Ph (λ_ _ _ h=>by cases h) (λ_ h=>by cases h) (λc3 _ _=>hx)
 |b y=>cases h;exact SH _ _ Ph (λ_ _ _ h=>by cases h) (λ_ h=>by cases h) (λc3 _ _=>hx)
 |s y=>cases h;exact SH _ _ Ph (λ_ _ _ h=>by cases h) (λ_ h=>by cases h) (λc3 _ _=>hx)
 |sh e xs=>
  cases om with
  |own=>cases h
  |nat=>cases h;exact SH _ _ Ph (λ_ _ _ h=>by cases h) (λ_ h=>by cases h) (λc3 h3 _=>cQ.frame hx (λ_ _=>rfl) (λb hb=>h3 b (.inl hb)))
  |sh=>cases h;exact SH _ _ Ph (λ_ _ _ h=>by cases h) (λ_ h=>by cases h) (λc3 h3 _=>cQ.frame hx (λ_ _=>rfl) (λb hb=>h3 b (.inl hb)))
 |nl=>
  have hx:u= .slice aj 0 0:=hx;cases om with
  |own e=>
   have h:(bif xD E e then ah (AA.ow e ai [],([]:ax aE),([]:ax aE))else aj)=ah (aa,tk,fz):=h;cases ht:xD E e with
   |false=>rw[ht]at h;cases h
   |true=>rw[ht]at h;cases h;exact OW e ai [] [] rfl (HT e ht)
  |sh e=>cases h;exact SH _ _ Ph (λ_ _ _ h=>by cases h) (λ_ h=>by cases h) (λc3 _ _=>by rw[hx];exact cQ.nl _ _ _)
  |nat=>
   cases k with
   |l e=>
    have h:(bif xD E e then ah (AA.ow e ai [],([]:ax aE),([]:ax aE))else aj)=ah (aa,tk,fz):=h;cases ht:xD E e with
    |false=>rw[ht]at h;cases h
    |true=>rw[ht]at h;cases h;exact OW e ai [] [] rfl (HT e ht)
   |_=>cases h;exact SH _ _ Ph (λ_ _ _ h=>by cases h) (λ_ h=>by cases h) (λc3 _ _=>hx)
 |own n=>
  unfold xC at h;dsimp only at h;cases ho:σ (cK n)with
  |v=>rw[ho]at h;cases h
  |iU=>rw[ho]at h;cases h
  |o ob=>
   rw[ho]at h;have hu:u=mf (c.P n):=hx;cases ob with
   |row e ex xs=>
    obtain⟨_,_,ti,ht,_⟩:=jY b7 ho;have hb:(uE e (.own n)).val σ=ah (ex,xs,[n]):=by simp[uE,iE,ho]
    cases om with
    |sh e'=>cases h;refine SH _ _ (fst ho) (λ_ _ _ h=>by cases h) (λ_ h=>by cases h) (λc3 h3 _=> ?_);obtain⟨r1,r2⟩:=frz ho c3 h3;rw[hu];exact qn b7 ho r1 r2
    |nat=>cases h;exact OW e ex xs [n] hb ⟨ti,ht⟩
    |own=>cases h;exact OW e ex xs [n] hb ⟨ti,ht⟩
   |eZ e xs=>
    have hh:cQ E w c.K u (.l e xs):=by rw[hu];exact(b7.obj n _ ho).1
    cases om with
    |own=>cases h
    |nat=>cases h;exact SH _ _ Ph (λ_ _ _ h=>by cases h) (λ_ h=>by cases h) (λc3 h3 _=>cQ.frame hh (λ_ _=>rfl) (λb hb=>h3 b (.inl hb)))
    |sh=>cases h;exact SH _ _ Ph (λ_ _ _ h=>by cases h) (λ_ h=>by cases h) (λc3 h3 _=>cQ.frame hh (λ_ _=>rfl) (λb hb=>h3 b (.inl hb)))
   |_=>cases h
 |vw n lo hi=>
  unfold xC at h;dsimp only at h;cases ho:σ (cK n)with
  |v=>rw[ho]at h;cases h
  |iU=>rw[ho]at h;cases h
  |o ob=>
   rw[ho]at h;cases ob with
   |row e ex xs=>
    obtain⟨_,_,ti,ht,_⟩:=jY b7 ho;have hb:(uE e (.vw n lo hi)).val σ=ah (ex,dW xs lo hi,[n]):=by simp[uE,iE,ho]
    cases om with
    |sh e'=>cases h;refine SH _ _ (fst ho) (λ_ _ _ h=>by cases h) (λ_ h=>by cases h) (λc3 h3 _=> ?_);obtain⟨r1,r2⟩:=frz ho c3 h3;exact CI b7 ho r1 r2 hx
    |nat=>cases h;exact OW e ex _ [n] hb ⟨ti,ht⟩
    |own=>cases h;exact OW e ex _ [n] hb ⟨ti,ht⟩
   |eZ e xs=>
    have hh:cQ E w c.K u (.l e (dW xs lo hi)):=nS b7 ho hx;cases om with
    |own=>cases h
    |nat=>cases h;exact SH _ _ Ph (λ_ _ _ h=>by cases h) (λ_ h=>by cases h) (λc3 h3 _=>cQ.frame hh (λ_ _=>rfl) (λb hb=>h3 b (.inl hb)))
    |sh=>cases h;exact SH _ _ Ph (λ_ _ _ h=>by cases h) (λ_ h=>by cases h) (λc3 h3 _=>cQ.frame hh (λ_ _=>rfl) (λb hb=>h3 b (.inl hb)))
   |_=>cases h
 |_=>simp[xC]at h
theorem Ce(b7:Ok E σ w c){q:aE}:∀{xs:ax AV} {j0:aE} {ks:ax Ck} {l:ax AA} {tk fz:ax aE} {vals:c_ a_},rJ E q σ j0 ks xs=ah (l,tk,fz)->eV E w c vals xs->
  ∃cs:ax iO,l=cs.map (·.aa)/\tk=cs.flatMap (·.tk)/\fz=cs.flatMap (·.fz)/\cs.length=xs.length/\∀(j:aE) (r:iO),cs[j]? =ah r->vals[j]? =ah r.u/\i_ E σ w c r:=by
 intro xs;induction xs with
 |nil=>intro j0 ks l tk fz vals h _;cases h;exact⟨[],rfl,rfl,rfl,rfl,λj r h=>by simp at h⟩
 |cons x xs ih=>
  intro j0 ks l tk fz vals h hv;unfold rJ at h;split at h
  ·rename_i aa t f as ts fs h1 h2;cases h;obtain⟨u,hu,ha⟩:=hv.2 0 x rfl;obtain⟨p,g,hc⟩:=Ff b7 h1 ha;have OD:eV E w c (vals.extract 1 vals.size) xs:=by
    refine⟨by simp;have:=hv.1;simp at this;omega,λj b hj=> ?_⟩
    obtain⟨u,hu,hb⟩:=hv.2 (j+1) b hj;refine⟨u, ?_,hb⟩
    have:=(dF.1 hu).1;rw[dL,bu (by omega),il];exact hu
   obtain⟨cs,rfl,rfl,rfl,i4,i5⟩:=ih h2 OD;refine⟨⟨aa,t,f,p,g,u⟩::cs,rfl,rfl,rfl,by simp[i4],λj r hj=> ?_⟩
   cases j with
   |zero=>cases hj;exact⟨hu,hc⟩
   |succ j=>
    obtain⟨r1,r2⟩:=i5 j r hj;refine⟨?_,r2⟩
    rw[dL]at r1;split at r1
    ·rw[il];exact r1
    ·cases r1
  ·cases h
end
end Go.FG

namespace Go.FG
structure jS where
 box:aA aE
 agg:aW
 cs:ax iO
 v:a_
def jS.arg(R:jS):eC:=match R.box with|some _=> .pt (R.cs.map (·.aa))|none=> .v R.agg (R.cs.map (·.aa))
def jS.tk(R:jS):ax aE:=R.box.toList++R.cs.flatMap (·.tk)
def jS.fz(R:jS):ax aE:=R.cs.flatMap (·.fz)
def wN(rv:ResultVar)(tmps:c_ a_):Sem a_:=match rv with| .tmp t=>pure (tmps.getD t undef)| .cell a t=>do loadVar t (<-asAddr (tmps.getD a undef))
section
variable {P:cL} {E:eP} {σ:St} {a:Act} {w:bB} {c:eB}
def zn(T:Tab)(σ:St)(w:bB)(c:eB)(R:jS):Prop:=
 (∃nm xs vals,R.box=ah nm/\σ (cK nm)= .o (.box xs)/\R.v= .pointer (ah (ad (c.P nm).blk 0))/\oX w (c.P nm).blk vals/\vals.size=R.cs.length/\∀(j:aE) (r:iO),R.cs[j]? =ah r->vals[j]? =ah r.u/\i_ T σ w c r)\/
 (R.box=aj/\((R.agg=ak/\∃r,R.cs=[r]/\r.u=R.v/\i_ T σ w c r)\/(R.agg=ai/\∃vals:c_ a_,R.v= .agg vals/\vals.size=R.cs.length/\∀(j:aE) (r:iO),R.cs[j]? =ah r->vals[j]? =ah r.u/\i_ T σ w c r)))
theorem Fg(b7:Ok E σ w c){q:aE}{ks:ax Ck}{s:SV}{v:a_}{x:eC}{tk fz:ax aE}(h:Jw E q σ ks s=ah (x,tk,fz))(hs:iA E w c s v):∃R:jS,R.arg=x/\R.tk=tk/\R.fz=fz/\R.v=v/\zn E σ w c R:=by
 have gen:∀g xs,s= .v g xs->(match rJ E q σ 0 ks xs with|some (l,ns,ms)=>ah (eC.v g l,ns,ms)|none=>aj)=ah (x,tk,fz)->∃R:jS,R.arg=x/\R.tk=tk/\R.fz=fz/\R.v=v/\zn E σ w c R:=by
  rintro g xs rfl h;cases hf:rJ E q σ 0 ks xs with
  |none=>rw[hf]at h;cases h
  |some t=>
   obtain⟨l,ns,ms⟩:=t;rw[hf]at h;cases h;obtain⟨cs,rfl,rfl,rfl,h4,h5⟩:=Ce b7 hf (o4.cells hs);refine⟨⟨aj,g,cs,v⟩,rfl,by simp[jS.tk],rfl,rfl, .inr ⟨rfl, ?_⟩⟩
   replace hs:o4 E w c g xs v:=hs;have Fx:∀y,o4 E w c ak [y] v->v.cells= #[v]:=λy hy=>B9 (dP.one hy);unfold o4 at hs;split at hs
   ·rename_i y;obtain⟨r,rfl⟩:=f_.1 (h4.trans rfl);obtain⟨h6,h7⟩:=h5 0 r rfl;rw[Fx y hs]at h6;exact .inl ⟨rfl,r,rfl,by simpa using h6.symm,h7⟩
   ·obtain⟨vals,rfl,fm,_⟩:=hs;exact .inr ⟨rfl,vals,rfl,by rw[fm];exact h4.symm,h5⟩
   ·exact hs.elim
 unfold Jw at h;split at h
 ·rename_i nm;cases ho:σ (cK nm)with
  |v=>rw[ho]at h;cases h
  |iU=>rw[ho]at h;cases h
  |o ob=>
   rw[ho]at h;cases ob with
   |box xs=>
    dsimp only at h;cases hf:rJ E q σ 0 [] xs with
    |none=>rw[hf]at h;cases h
    |some t=>obtain⟨l,ns,ms⟩:=t;rw[hf]at h;cases h;obtain⟨vals,hb,fm,hv⟩:=b7.obj nm _ ho;obtain⟨cs,rfl,rfl,rfl,h4,h5⟩:=Ce b7 hf ⟨fm,hv⟩;exact⟨⟨ah nm,ak,cs,v⟩,rfl,rfl,rfl,rfl, .inl ⟨nm,xs,vals,rfl,ho,hs,hb,by rw[fm];exact h4.symm,h5⟩⟩
   |_=>cases h
 ·exact gen _ _ rfl h
 ·cases h
theorem Gc(hE:dS P E){t:aE}{ti:TI}(ht:E.ty t=ah ti){b:aE}{vals:c_ a_}(hb:oX w b vals)(hl:vals.size=ti.ks.length):(loadVar t (ad b 0)).run P w= .ok (if ti.agg=ai then .agg vals else vals.toList.headD .nilIface) w:=by
 have h:=AH (P:=P) w hE ht (b:=b) (o:=0) (cs:=vals.toList) (by simpa using hl) (λj v hj=>by rw[bO,hb.cell];simpa using hj);have e:(vT t (.pointer (ah (ad b 0)))).run P w=(loadVar t (ad b 0)).run P w:=by simp only[vT,sN,b8,cB,bn]
 rw[<-e,h]
theorem P9(hE:dS P E)(b7:Ok E σ w c)(di:eG E σ a w c){q:aE}{rv:ResultVar}{t:aE}{x:eC}{tk fz:ax aE}(h:P8 E q σ rv t=ah (x,tk,fz)):∃R:jS,R.arg=x/\R.tk=tk/\R.fz=fz/\zn E σ w c R/\(wN rv a.tmps).run P w= .ok R.v w:=by
 unfold P8 at h;cases ht:E.ty t with
 |none=>rw[ht]at h;cases h
 |some ti=>
  rw[ht]at h;cases rv with
  |tmp s=>obtain⟨R,h1,h2,h3,h4,h5⟩:=Fg b7 h (di.ok s);exact⟨R,h1,h2,h3,h5,by rw[h4];rfl⟩
  |cell b t'=>
   dsimp only at h;split at h
   ·rename_i RF nm ht' hs;split at h
    ·rename_i xs ho;cases hb:bh xs.length RF.ks.length with
     |false=>rw[hb]at h;cases h
     |true=>
      rw[hb]at h;have hlen:=aQ hb;have hv:a.eval (.tmp b)= .pointer (ah (ad (c.P nm).blk 0)):=by have:=di.ok b;rw[hs]at this;exact this
      obtain⟨vals,hbl,fm,V6⟩:=b7.obj nm _ ho;have OA:=Gc (P:=P) (w:=w) hE ht' hbl (by rw[fm];exact hlen);have alD:iA E w c (.v RF.agg xs) (if RF.agg=ai then .agg vals else vals.toList.headD .nilIface):=by
       show o4 E w c RF.agg xs _;cases sw:RF.agg with
       |true=>rw[bu rfl];exact⟨vals,rfl,fm,V6⟩
       |false=>
        obtain⟨d,_,_,hn⟩:=hE.desc t' RF ht';have h1:RF.ks.length=1:=by rcases hn sw with ⟨k,h,_⟩|⟨h,_⟩|⟨h,_⟩|⟨e',h,_⟩|⟨h,_⟩<;>simp[h]
        obtain⟨y,rfl⟩:=f_.1 (hlen.trans h1);obtain⟨u,hu,ha⟩:=V6 0 y rfl;have qB:vals.toList[0]? =ah u:=by simpa using hu
        have:vals.toList.headD .nilIface=u:=by
         cases hl:vals.toList with
         |nil=>rw[hl]at qB;cases qB
         |cons z l=>rw[hl]at qB;cases qB;rfl
        rw[bJ (by simp),this];exact ha
      obtain⟨R,h1,h2,h3,h4,h5⟩:=Fg b7 h alD;refine⟨R,h1,h2,h3,h5, ?_⟩
      rw[h4,<-OA];have:a.tmps.getD b undef= .pointer (ah (ad (c.P nm).blk 0)):=hv;simp only[wN,this,asAddr,b8,cB,bn]
    ·cases h
   ·cases h
theorem LX(hE:dS P E)(b7:Ok E σ w c)(di:eG E σ a w c):∀{rs:ax ResultVar} {q:aE} {ts:ax aE} {as:ax eC} {tk fz:ax aE},Ay E σ q rs ts=ah (as,tk,fz)->∃RL:ax jS,as=RL.map (·.arg)/\tk=RL.flatMap (·.tk)/\fz=RL.flatMap (·.fz)/\(∀R∈RL,zn E σ w c R)/\RL.length=rs.length/\(rs.mapM (λrv=>wN rv a.tmps)).run P w= .ok (RL.map (·.v)) w:=by
 intro rs;induction rs with
 |nil=>intro q ts as tk fz h;cases h;exact⟨[],rfl,rfl,rfl,λR h=>(by cases h),rfl,by simp⟩
 |cons rv rs ih=>
  intro q ts as tk fz h;unfold Ay at h;split at h
  ·rename_i x l m as' ls ms h1 h2;cases h;obtain⟨R,rfl,rfl,rfl,r4,r5⟩:=P9 hE b7 di h1;obtain⟨RL,rfl,rfl,rfl,i4,i5,i6⟩:=ih h2;refine⟨R::RL,rfl,rfl,rfl,λR' hR=> ?_,by simp[i5], ?_⟩
   ·rcases cq.1 hR with rfl|hR
    ·exact r4
    ·exact i4 R' hR
   ·simp only[R9,b8,r5,i6,bn,cB,eK]
  ·cases h
def Az(vs:ax a_):a_:=match vs with|[v]=>v|l=> .tuple l.toArray
theorem Gd{fn:Func}{vs:ax a_}(h:(fn.results.toList.mapM (λrv=>wN rv a.tmps)).run P w= .ok vs w):(results fn a.tmps).run P w= .ok (Az vs) w:=by
 have e:(fn.results.mapM (λrv=>wN rv a.tmps)).run P w= .ok vs.toArray w:=by rw[Array.mapM_eq_mapM_toList];simp[h]
 have:results fn a.tmps=(do let vs<-fn.results.mapM (λrv=>wN rv a.tmps);pure (if h:vs.size=1 then vs[0]else .tuple vs)):=rfl;rw[this];simp only[b8,e,bn,cB];match vs with
 |[]=>rfl
 |[v]=>rfl
 |_::_::_=>rfl
end
end Go.FG

namespace Go.FG
structure lF where
 box:aW
 cs:ax iO
def lF.l(O:lF):ax AA:=O.cs.map (·.aa)
def lF.ns(O:lF)(p:aE):ax aE:=(if O.box=ai then [dI p 900]else [])++O.cs.flatMap (·.tk)
def lF.ms(O:lF):ax aE:=O.cs.flatMap (·.fz)
section
variable {P:cL} {E:eP} {σ:St} {a:Act} {w:bB} {c:eB}
def Kept(σ:St)(p j:aE)(xs:ax AA)(r:iO):Prop:=∃e ex z ys,xs[j]? =ah (.ow e ex z)/\r.aa= .kp ys/\r.tk=[dI p j]/\r.fz=[]/\σ (cK (dI p j))= .o (.row e ex ys)
def EG(T:Tab)(σ:St)(w:bB)(c:eB)(p:aE)(x:eC)(O:lF):Prop:=
 (O.box=ak/\(∀xs,x≠ .pt xs)/\(O.cs=[]\/∃g xs,x= .v g xs/\∀(j:aE) (r:iO),O.cs[j]? =ah r->Kept σ p j xs r\/(r.aa= .nl/\r.tk=[]/\r.fz=[])))\/
 (O.box=ai/\∃xs vs vals,x= .pt xs/\σ (cK (dI p 900))= .o (.box vs)/\oX w (c.P (dI p 900)).blk vals/\vals.size=O.cs.length/\
  ∀(j:aE) (r:iO),O.cs[j]? =ah r->vals[j]? =ah r.u/\((Kept σ p j xs r/\r.u=mf (c.P (dI p j)))\/i_ T σ w c r))
theorem Gg{a b:aW}(h:Gf a b=ai):a=b:=by cases a<;>cases b<;>first|rfl|cases h
theorem Uu(p j i:aE):dI p j+i=dI p (j+i):=by unfold dI;omega
theorem HI{tk:ax aE}{p:aE}:∀{xs:ax AA} {j:aE},∃cs:ax iO,(ou σ tk (dI p j) xs).1=cs.map (·.aa)/\(ou σ tk (dI p j) xs).2=cs.flatMap (·.tk)/\cs.flatMap (·.fz)=[]/\
  ∀(i:aE) (r:iO),cs[i]? =ah r->((∃e ex z ys,xs[i]? =ah (.ow e ex z)/\r.aa= .kp ys/\r.tk=[dI p (j+i)]/\r.fz=[]/\σ (cK (dI p (j+i)))= .o (.row e ex ys))\/(r.aa= .nl/\r.tk=[]/\r.fz=[])):=by
 intro xs;induction xs with
 |nil=>intro j;exact⟨[],rfl,rfl,rfl,λi r h=>by simp at h⟩
 |cons x xs ih=>
  intro j;obtain⟨cs,h1,h2,h3,h4⟩:=ih (j:=j+1);have e1:dI p j+1=dI p (j+1):=Uu p j 1;let pl:Pl:=⟨ai,0,0,0,0,0⟩
  have one:∃r:iO,mi σ tk (dI p j) x=(r.aa,r.tk)/\r.fz=[]/\((∃e ex z ys,x= .ow e ex z/\r.aa= .kp ys/\r.tk=[dI p j]/\r.fz=[]/\σ (cK (dI p j))= .o (.row e ex ys))\/(r.aa= .nl/\r.tk=[]/\r.fz=[])):=by
   have no:mi σ tk (dI p j) x=(.nl,[])->∃r:iO,mi σ tk (dI p j) x=(r.aa,r.tk)/\r.fz=[]/\((∃e ex z ys,x= .ow e ex z/\r.aa= .kp ys/\r.tk=[dI p j]/\r.fz=[]/\σ (cK (dI p j))= .o (.row e ex ys))\/(r.aa= .nl/\r.tk=[]/\r.fz=[])):=
    λh=>⟨⟨.nl,[],[],pl,λ_ _=>pl,undef⟩,h,rfl, .inr ⟨rfl,rfl,rfl⟩⟩
   cases x with
   |ow e ex z=>
    cases hm:lx (dI p j) tk with
    |true=>exact no (by simp[mi,hm])
    |false=>
     obtain⟨so,ho⟩:∃so,σ (cK (dI p j))=so:=⟨_,rfl⟩
     cases so with
     |v=>exact no (by simp[mi,hm,ho])
     |iU=>exact no (by simp[mi,hm,ho])
     |o ob=>
      cases ob with
      |row e' sr ys=>
       cases hb:(bh e e'&&Gf ex sr)with
       |false=>exact no (by simp only[mi,hm,aC,ho,hb])
       |true=>simp only[aF]at hb;have he:=aQ hb.1;have hx:=Gg hb.2;subst he;subst hx;exact⟨⟨.kp ys,[dI p j],[],pl,λ_ _=>pl,undef⟩,by simp[mi,hm,ho,hb.2],rfl, .inl ⟨e,ex,z,ys,rfl,rfl,rfl,rfl,ho⟩⟩
      |_=>exact no (by simp[mi,hm,ho])
   |_=>exact no rfl
  obtain⟨r,k1,k2,k3⟩:=one;refine⟨r::cs, ?_, ?_,by simp[k2,h3],λi r' hi=> ?_⟩
  ·show(mi σ tk (dI p j) x).1::(ou σ tk (dI p j+1) xs).1=_;rw[k1,e1,h1];rfl
  ·show(mi σ tk (dI p j) x).2++(ou σ tk (dI p j+1) xs).2=_;rw[k1,e1,h2];rfl
  ·cases i with
   |zero=>
    cases hi;rcases k3 with ⟨e,ex,z,ys,q1,q2⟩|q
    ·exact .inl ⟨e,ex,z,ys,by rw[q1];rfl,q2⟩
    ·exact .inr q
   |succ i=>have:=h4 i r' hi;rw[show j+1+i=j+(i+1)by omega]at this;exact this
theorem KW(b7:Ok E σ w c){q:aE}:∀{xs:ax AV} {j:aE} {bs l:ax AA} {tk fz:ax aE} {vals:c_ a_},Du E q σ j bs xs=ah (l,tk,fz)->eV E w c vals xs->
  ∃cs:ax iO,l=cs.map (·.aa)/\tk=cs.flatMap (·.tk)/\fz=cs.flatMap (·.fz)/\cs.length=xs.length/\∀(i:aE) (r:iO),cs[i]? =ah r->vals[i]? =ah r.u/\
   (((∃e ex z ys,bs[i]? =ah (.ow e ex z)/\r.aa= .kp ys/\r.tk=[dI q (j+i)]/\r.fz=[]/\σ (cK (dI q (j+i)))= .o (.row e ex ys))/\r.u=mf (c.P (dI q (j+i))))\/i_ E σ w c r):=by
 intro xs;induction xs with
 |nil=>intro j bs l tk fz vals h _;cases h;exact⟨[],rfl,rfl,rfl,rfl,λi r h=>by simp at h⟩
 |cons x xs ih=>
  intro j bs l tk fz vals h hv;unfold Du at h;split at h
  ·rename_i aa t f as ts fs h1 h2;cases h;obtain⟨u,hu,ha⟩:=hv.2 0 x rfl;have OD:eV E w c (vals.extract 1 vals.size) xs:=by
    refine⟨by simp;have:=hv.1;simp at this;omega,λi b hj=> ?_⟩
    obtain⟨u,hu,hb⟩:=hv.2 (i+1) b hj;refine⟨u, ?_,hb⟩
    have:=(dF.1 hu).1;rw[dL,bu (by omega),il];exact hu
   obtain⟨cs,rfl,rfl,rfl,i4,i5⟩:=ih h2 OD;have one:∃p g,((∃e ex z ys,bs[0]? =ah (.ow e ex z)/\aa= .kp ys/\t=[dI q j]/\f=[]/\σ (cK (dI q j))= .o (.row e ex ys))/\u=mf (c.P (dI q j)))\/i_ E σ w c ⟨aa,t,f,p,g,u⟩:=by
    have other:∀{om k},xC E om σ k x=ah (aa,t,f)->∃p g,((∃e ex z ys,bs[0]? =ah (.ow e ex z)/\aa= .kp ys/\t=[dI q j]/\f=[]/\σ (cK (dI q j))= .o (.row e ex ys))/\u=mf (c.P (dI q j)))\/i_ E σ w c ⟨aa,t,f,p,g,u⟩:=λhh=>by obtain⟨p,g,hc⟩:=Ff b7 hh ha;exact⟨p,g, .inr hc⟩
    unfold VY at h1;split at h1
    ·rename_i e ex z n _ hb;cases hn:bh n (dI q j)with
     |false=>rw[hn]at h1;exact other (k:= .o) h1
     |true=>
      rw[hn]at h1;have:=aQ hn;subst this;obtain⟨so,ho⟩:∃so,σ (cK (dI q j))=so:=⟨_,rfl⟩
      cases so with
      |v=>simp[ho]at h1
      |iU=>simp[ho]at h1
      |o ob=>
       cases ob with
       |row e' sr ys=>
        simp only[ho,ay]at h1;cases Er:(bh e e'&&Gf ex sr)with
        |false=>rw[Er]at h1;cases h1
        |true=>
         rw[Er]at h1;cases h1;simp only[aF]at Er;have he:=aQ Er.1;have hx:=Gg Er.2;subst he;subst hx;refine⟨⟨ai,0,0,0,0,0⟩,λ_ _=>⟨ai,0,0,0,0,0⟩, .inl ⟨⟨e,ex,z,ys, ?_,rfl,rfl,rfl,ho⟩,ha⟩⟩
         cases bs with
         |nil=>cases hb
         |cons b bs=>rw[show b=_ from hb];rfl
       |_=>simp[ho]at h1
    ·exact other (k:= .o) h1
   obtain⟨p,g,hc⟩:=one;refine⟨⟨aa,t,f,p,g,u⟩::cs,rfl,rfl,rfl,by simp[i4],λi r hi=> ?_⟩
   cases i with
   |zero=>cases hi;exact⟨hu,hc⟩
   |succ i=>
    obtain⟨r1,r2⟩:=i5 i r hi;refine⟨?_, ?_⟩
    ·rw[dL]at r1;split at r1
     ·rw[il];exact r1
     ·cases r1
    ·rw[show j+1+i=j+(i+1)by omega]at r2;have e1:bs.tail[i]? =bs[i+1]? :=by cases bs<;>simp
     rw[e1]at r2;exact r2
  ·cases h
end
end Go.FG

namespace Go.FG
section
variable {P:cL} {E:eP} {σ:St} {a:Act} {w:bB} {c:eB}
theorem LN(b7:Ok E σ w c){tk:ax aE}:∀{args:ax eC} {p:aE} {l:ax (ax AA)} {ns ms:ax aE},Ar E σ tk p args=ah (l,ns,ms)->
  ∃OL:ax lF,l=OL.map (·.l)/\OL.length=args.length/\ns=(OL.zipIdx p).flatMap (λt=>t.1.ns t.2)/\ms=OL.flatMap (·.ms)/\∀(i:aE) (O:lF) (x:eC),OL[i]? =ah O->args[i]? =ah x->EG E σ w c (p+i) x O:=by
 intro args;induction args with
 |nil=>intro p l ns ms h;cases h;exact⟨[],rfl,rfl,rfl,rfl,λi O x h=>by simp at h⟩
 |cons x args ih=>
  intro p l ns ms h;unfold Ar at h;split at h
  ·cases h
  ·rename_i l' ns' ms' h1;obtain⟨OL,rfl,i2,rfl,rfl,i5⟩:=ih h1;have put:∀O:lF,EG E σ w c p x O->l=O.l::OL.map (·.l)->ns=O.ns p++(OL.zipIdx (p+1)).flatMap (λt=>t.1.ns t.2)->ms=O.ms++OL.flatMap (·.ms)->∃OL:ax lF,l=OL.map (·.l)/\OL.length=(x::args).length/\ns=(OL.zipIdx p).flatMap (λt=>t.1.ns t.2)/\ms=OL.flatMap (·.ms)/\∀(i:aE) (O:lF) (y:eC),OL[i]? =ah O->(x::args)[i]? =ah y->EG E σ w c (p+i) y O:=by
    intro O hO h1 h2 h3;refine⟨O::OL,h1,by simp[i2],by rw[h2,List.zipIdx_cons,vV],h3,λi O' y hi hy=> ?_⟩
    cases i with
    |zero=>cases hi;cases hy;exact hO
    |succ i=>have:=i5 i O' y hi hy;rwa[show p+1+i=p+(i+1)by omega]at this
   cases x with
   |v g xs=>
    dsimp only at h;cases hh:Oo xs with
    |false=>rw[hh]at h;cases h;exact put ⟨ak,[]⟩ (.inl ⟨rfl,(λ_ h=>by cases h), .inl rfl⟩) rfl rfl rfl
    |true=>rw[hh]at h;cases h;obtain⟨cs,k1,k2,k3,k4⟩:=HI (σ:=σ) (tk:=tk) (p:=p) (xs:=xs) (j:=0);refine put ⟨ak,cs⟩ (.inl ⟨rfl,(λ_ h=>by cases h), .inr ⟨g,xs,rfl,λj r hj=> ?_⟩⟩) (by rw[k1];rfl) (by rw[k2];rfl) (by simp[lF.ms,k3]);have:=k4 j r hj;rw[bO]at this;exact this
   |pt xs=>
    dsimp only at h;split at h
    ·rename_i vs ho;split at h
     ·rename_i as ns2 ms2 hb;cases h;obtain⟨vals,hbl,fm,hv⟩:=b7.obj _ _ ho;obtain⟨cs,rfl,rfl,rfl,k4,k5⟩:=KW b7 hb ⟨fm,hv⟩;refine put ⟨ai,cs⟩ (.inr ⟨rfl,xs,vs,vals,rfl,ho,hbl,by rw[fm];exact k4.symm,λj r hj=> ?_⟩) rfl (by simp[lF.ns]) rfl;obtain⟨r1,r2⟩:=k5 j r hj;rw[bO]at r2;exact⟨r1,r2⟩
     ·cases h
    ·cases h
   |fb xs=>cases h;exact put ⟨ak,[]⟩ (.inl ⟨rfl,(λ_ h=>by cases h), .inl rfl⟩) rfl rfl rfl
theorem w_:∀{l:ax (ax AA)} {p:aE},(sq l).getD p []=l.getD p []:=by
 intro l;induction l with
 |nil=>intro p;rfl
 |cons x l ih=>
  intro p;unfold sq;split
  ·rename_i h;cases p with
   |zero=>rfl
   |succ p=>rw[tw,<-ih,h];rfl
  ·rename_i x' r' _;cases p with
   |zero=>rfl
   |succ p=>rw[tw,tw,ih]
end
end Go.FG

namespace Go.FG
structure Sp where
 res:aW
 i:aE
 j:aA aE
def nW(RL:ax jS)(OL:ax lF)(s:Sp):ax aE:=
 match s.res,s.j with
 |true,aj=>match RL[s.i]? with|some R=>R.box.toList|none=>[]
 |true,ah j=>match RL[s.i]? with|some R=>(match R.cs[j]? with|some r=>r.tk|none=>[])|none=>[]
 |false,aj=>match OL[s.i]? with|some O=>(if O.box=ai then [dI s.i 900]else [])|none=>[]
 |false,ah j=>match OL[s.i]? with|some O=>(match O.cs[j]? with|some r=>r.tk|none=>[])|none=>[]
theorem ml{α:Type}{l:ax α}{i:aE}{x:α}{p:aE}(h:l[i]? =ah x):(l.zipIdx p)[i]? =ah (x,p+i):=by rw[List.getElem?_zipIdx,h];rfl
theorem U2{RL:ax jS}{OL:ax lF}(hn:(RL.flatMap (·.tk)++(OL.zipIdx 0).flatMap (λt=>t.1.ns t.2)).Nodup){s s':Sp}{n:aE}(h:n∈nW RL OL s)(h':n∈nW RL OL s'):s=s':=by
 obtain⟨n1,n2,n3⟩:=dV.1 hn;obtain⟨a1,a2⟩:=kF n1;obtain⟨b1,b2⟩:=kF n2;have R1:∀{i:aE} {j:aA aE},n∈nW RL OL ⟨ai,i,j⟩->∃R,RL[i]? =ah R/\n∈R.tk/\((j=aj/\n∈R.box.toList)\/∃q r,j=ah q/\R.cs[q]? =ah r/\n∈r.tk):=by
  intro i j h;cases j with
  |none=>
   unfold nW at h;dsimp only at h;cases hR:RL[i]? with
   |none=>rw[hR]at h;cases h
   |some R=>rw[hR]at h;exact⟨R,rfl,bR _ h, .inl ⟨rfl,h⟩⟩
  |some q=>
   unfold nW at h;dsimp only at h;cases hR:RL[i]? with
   |none=>rw[hR]at h;cases h
   |some R=>
    rw[hR]at h;dsimp only at h;cases hr:R.cs[q]? with
    |none=>rw[hr]at h;cases h
    |some r=>rw[hr]at h;exact⟨R,rfl,bH _ (bA.2 ⟨r,aP hr,h⟩), .inr ⟨q,r,rfl,hr,h⟩⟩
 have O1:∀{i:aE} {j:aA aE},n∈nW RL OL ⟨ak,i,j⟩->∃O,OL[i]? =ah O/\n∈O.ns i/\((j=aj/\n∈(if O.box=ai then [dI i 900]else []))\/∃q r,j=ah q/\O.cs[q]? =ah r/\n∈r.tk):=by
  intro i j h;cases j with
  |none=>
   unfold nW at h;dsimp only at h;cases hR:OL[i]? with
   |none=>rw[hR]at h;cases h
   |some R=>rw[hR]at h;exact⟨R,rfl,bR _ h, .inl ⟨rfl,h⟩⟩
  |some q=>
   unfold nW at h;dsimp only at h;cases hR:OL[i]? with
   |none=>rw[hR]at h;cases h
   |some R=>
    rw[hR]at h;dsimp only at h;cases hr:R.cs[q]? with
    |none=>rw[hr]at h;cases h
    |some r=>rw[hr]at h;exact⟨R,rfl,bH _ (bA.2 ⟨r,aP hr,h⟩), .inr ⟨q,r,rfl,hr,h⟩⟩
 have inn:∀{A:ax aE} {cs:ax iO} {j j':aA aE},(A++cs.flatMap (·.tk)).Nodup->((j=aj/\n∈A)\/∃q r,j=ah q/\cs[q]? =ah r/\n∈r.tk)->((j'=aj/\n∈A)\/∃q r,j'=ah q/\cs[q]? =ah r/\n∈r.tk)->j=j':=by
  intro A cs j j' Fv k k';obtain⟨m1,m2,m3⟩:=dV.1 Fv;have inC:∀{q:aE} {r:iO},cs[q]? =ah r->n∈r.tk->n∈cs.flatMap (·.tk):=λhq hr=>bA.2 ⟨_,aP hq,hr⟩;rcases k with ⟨rfl,k⟩|⟨q,r,rfl,k1,k2⟩<;>rcases k' with ⟨rfl,k'⟩|⟨q',r',rfl,k1',k2'⟩
  ·rfl
  ·exact cw rfl (m3 n k n (inC k1' k2'))
  ·exact cw rfl (m3 n k' n (inC k1 k2))
  ·rw[(kF m2).1 q q' r r' n k1 k1' k2 k2']
 obtain⟨b,i,j⟩:=s;obtain⟨b',i',j'⟩:=s';cases b<;>cases b'
 ·obtain⟨O,h1,h2,h3⟩:=O1 h;obtain⟨O',Hu,Lb,JF⟩:=O1 h';have:=b1 i i' _ _ n (ml (p:=0) h1) (ml (p:=0) Hu) (by rw[bO];exact h2) (by rw[bO];exact Lb);subst this;rw[h1]at Hu;cases Hu;have:=b2 _ (aP (ml (p:=0) h1));rw[bO]at this;rw[inn this h3 JF]
 ·obtain⟨O,h1,h2,h3⟩:=O1 h;obtain⟨R,Hu,Lb,_⟩:=R1 h';exact cw rfl (n3 n (bA.2 ⟨R,aP Hu,Lb⟩) n (bA.2 ⟨_,aP (ml (p:=0) h1),by rw[bO];exact h2⟩))
 ·obtain⟨R,h1,h2,_⟩:=R1 h;obtain⟨O,Hu,Lb,_⟩:=O1 h';exact cw rfl (n3 n (bA.2 ⟨R,aP h1,h2⟩) n (bA.2 ⟨_,aP (ml (p:=0) Hu),by rw[bO];exact Lb⟩))
 ·obtain⟨R,h1,h2,h3⟩:=R1 h;obtain⟨R',Hu,Lb,JF⟩:=R1 h';have:=a1 i i' _ _ n h1 Hu h2 Lb;subst this;rw[h1]at Hu;cases Hu;have:=a2 _ (aP h1);rw[inn this h3 JF]
end Go.FG

namespace Go.FG
def Je(c:eB)(RL:ax jS)(OL:ax lF)(m:aE):aA (Pl×(aE->aE->Pl)):=
 if m<900000000 then aj
 else if 500<=(m-900000000)/1000 then(match RL[(m-900000000)/1000-500]? with
  |none=>aj
  |some R=>if(m-900000000)%1000=900 then R.box.map (λn=>(c.P n,c.G n))else(R.cs[(m-900000000)%1000]?).map λr=>(r.p,r.g))
 else if 100<=(m-900000000)%1000/\(m-900000000)%1000≠900 then(match OL[(m-900000000)/1000]? with
  |none=>aj
  |some O=>(O.cs[(m-900000000)%1000-100]?).map λr=>(r.p,r.g))
 else aj
def me(σ:St)(c:eB)(RL:ax jS)(OL:ax lF):eB:=
 ⟨λm=>match Je c RL OL m with|some pg=>pg.1|none=>c.P m,λm=>match Je c RL OL m with|some pg=>pg.2|none=>c.G m,YE σ c (RL.flatMap (·.fz)++OL.flatMap (·.ms))⟩
theorem yG{σ:St}{c:eB}{RL:ax jS}{OL:ax lF}{m:aE}{p:Pl}{g:aE->aE->Pl}(h:Je c RL OL m=ah (p,g)):(me σ c RL OL).P m=p/\(me σ c RL OL).G m=g:=by unfold me;simp only[h];exact⟨trivial,trivial⟩
theorem yF{σ:St}{c:eB}{RL:ax jS}{OL:ax lF}{m:aE}(h:Je c RL OL m=aj):(me σ c RL OL).P m=c.P m/\(me σ c RL OL).G m=c.G m:=by unfold me;simp only[h];exact⟨trivial,trivial⟩
section
variable {c:eB} {RL:ax jS} {OL:ax lF}
theorem NN{q n:aE}{R:jS}(h:RL[q]? =ah R)(hb:R.box=ah n):Je c RL OL (dI (500+q) 900)=ah (c.P n,c.G n):=by obtain⟨h1,h2⟩:=sD (p:=500+q) (j:=900) (by omega);have h0:=Al (500+q) 900;unfold Je;rw[bJ (by omega),h1,h2,bu (by omega),show 500+q-500=q by omega,h];simp[hb]
theorem Ds{q j:aE}{R:jS}{r:iO}(h:RL[q]? =ah R)(hj:R.cs[j]? =ah r)(hl:j<900):Je c RL OL (dI (500+q) j)=ah (r.p,r.g):=by obtain⟨h1,h2⟩:=sD (p:=500+q) (j:=j) (by omega);have h0:=Al (500+q) j;unfold Je;rw[bJ (by omega),h1,h2,bu (by omega),show 500+q-500=q by omega,h];dsimp only;rw[bJ (by omega),hj];rfl
theorem yD{p j:aE}(hp:p<500)(hl:j<100\/j=900):Je c RL OL (dI p j)=none:=by obtain⟨h1,h2⟩:=sD (p:=p) (j:=j) (by omega);have h0:=Al p j;unfold Je;rw[bJ (by omega),h1,h2,bJ (by omega),bJ (by omega)]
theorem Jf{p j:aE}{O:lF}{r:iO}(hp:p<500)(h:OL[p]? =ah O)(hj:O.cs[j]? =ah r)(hl:j<=100):Je c RL OL (dI p (100+j))=ah (r.p,r.g):=by obtain⟨h1,h2⟩:=sD (p:=p) (j:=100+j) (by omega);have h0:=Al p (100+j);unfold Je;rw[bJ (by omega),h1,h2,bJ (by omega),bu (by omega),h];dsimp only;rw[show 100+j-100=j by omega,hj];rfl
end
end Go.FG

namespace Go.FG
def aeg(OL:ax lF)(s:Sp):aE:=
 match s.res,s.j with
 |true,aj=>dI (500+s.i) 900
 |true,ah j=>dI (500+s.i) j
 |false,aj=>dI s.i 900
 |false,ah j=>match OL[s.i]? with|some O=>(match O.cs[j]? with|some r=>(match r.aa with| .kp _=>dI s.i j|_=>dI s.i (100+j))|none=>0)|none=>0
section
variable {P:cL} {E:eP} {σ:St} {a:Act} {w:bB} {c:eB} {RL:ax jS} {OL:ax lF}
theorem yI{r:iO}(h:i_ E σ w c r)(hf:∀n∈r.fz,n∈RL.flatMap (·.fz)++OL.flatMap (·.ms)){x:aE}(hx:Je c RL OL x=ah (r.p,r.g)):dP E w (me σ c RL OL) (j8 x r.aa) r.u:=by
 rcases h with ⟨e,ex,ys,te,h1,h2,h3,h4,_⟩|⟨h1,h2,h3,h4,h5⟩
 ·rw[h1];show r.u=mf ((me σ c RL OL).P x);rw[(yG hx).1];exact h4
 ·exact h5 _ (λb hb=>hb.imp id (λ⟨n,hn,hh⟩=>⟨n,hf n hn,hh⟩)) x
theorem EX{r:iO}(h:i_ E σ w c r){e:aE}{ex:aW}{ys:aU}(ha:r.aa= .ow e ex ys){x:aE}(hx:Je c RL OL x=ah (r.p,r.g)):
  oe E w (me σ c RL OL) x (.row e ex ys)/\∀b,eN (me σ c RL OL) x (.row e ex ys) b->∃n ob,n∈r.tk/\σ (cK n)= .o ob/\eN c n ob b:=by
 obtain⟨e1,e2⟩:=yG (σ:=σ) hx;rcases h with ⟨e',sr,A7,te,h1,h2,h3,h4,h5,h6,h7,h8,h9,h10⟩|⟨_,_,h3,_⟩
 ·rw[ha]at h1;cases h1;refine⟨⟨⟨te,h3,by rw[e1];exact h5,h6⟩, ?_,λnV=>by rw[e1,e2];exact h8 nV⟩,λb hb=> ?_⟩
  ·rw[e1,e2];refine h7.frame (λ_=>rfl) (λi j y xx u hy Ls hr=> ?_);split at hr
   ·rename_i nV;rw[bu nV];exact hr
   ·rename_i nV;rw[bJ nV];exact hr.frame (λ_ _=>rfl) (λb hb=> .inl hb)
  ·rcases hb with ⟨hn,rfl⟩|⟨nV,i,j,hh,hn,rfl⟩
   ·rw[e1]at hn⊢;exact h9 hn
   ·rw[e2]at hn⊢;exact h10 nV i j hh hn
 ·exact cw ha (h3 _ _ _)
structure BM (T:Tab) (σ:St) (w:bB) (c:eB) (RL:ax jS) (OL:ax lF) (args:ax eC) (r:dz):Prop where
 rl:∀R∈RL,zn T σ w c R
 ol:∀(i:aE) (O:lF) (x:eC),OL[i]? =ah O->args[i]? =ah x->EG T σ w c i x O
 len:OL.length=args.length
 nd:(RL.flatMap (·.tk)++(OL.zipIdx 0).flatMap (λt=>t.1.ns t.2)).Nodup
 ap:∀n∈RL.flatMap (·.tk)++(OL.zipIdx 0).flatMap (λt=>t.1.ns t.2),n∉RL.flatMap (·.fz)++OL.flatMap (·.ms)
 sm:Small args r
 rs:r.rs=RL.map (·.arg)
 outs:∀p,r.outs.getD p []=(OL.map (·.l)).getD p []
theorem NK{R:jS}{xs:ax AA}(h:IB R.arg xs):xs=R.cs.map (·.aa):=by
 unfold jS.arg at h;split at h
 ·rcases h with ⟨g,h⟩|h<;>cases h;rfl
 ·rcases h with ⟨g,h⟩|h<;>cases h;rfl
theorem uG(b7:Ok E σ w c){args:ax eC}{r:dz}(hE:BM E σ w c RL OL args r){x:aE}{ob:Obj}(h:zc args r x (.o ob)):
  oe E w (me σ c RL OL) x ob/\∃s,x=aeg OL s/\∀b,eN (me σ c RL OL) x ob b->∃n o,n∈nW RL OL s/\σ (cK n)= .o o/\eN c n o b:=by
 have afA:∀{q:aE} {y:eC},r.rs[q]? =ah y->∃R,RL[q]? =ah R/\y=R.arg:=by
  intro q y hq;rw[hE.rs,bz]at hq;cases hR:RL[q]? with
  |none=>rw[hR]at hq;cases hq
  |some R=>rw[hR]at hq;cases hq;exact⟨R,rfl,rfl⟩
 have fzR:∀{q:aE} {R:jS} {j:aE} {t:iO},RL[q]? =ah R->R.cs[j]? =ah t->∀n∈t.fz,n∈RL.flatMap (·.fz)++OL.flatMap (·.ms):=λhR hj n hn=>bR _ (bA.2 ⟨_,aP hR,bA.2 ⟨_,aP hj,hn⟩⟩);have fzO:∀{q:aE} {O:lF} {j:aE} {t:iO},OL[q]? =ah O->O.cs[j]? =ah t->∀n∈t.fz,n∈RL.flatMap (·.fz)++OL.flatMap (·.ms):=λhR hj n hn=>bH _ (bA.2 ⟨_,aP hR,bA.2 ⟨_,aP hj,hn⟩⟩);have aaU:∀{p:aE} {y:eC},args[p]? =ah y->∃O,OL[p]? =ah O/\EG E σ w c p y O/\r.outs.getD p []=O.cs.map (·.aa):=by
  intro p y hp;have sA:p<OL.length:=by rw[hE.len];exact(aT.1 hp).1
  have hO:OL[p]? =ah OL[p]:=by simp[sA]
  refine⟨OL[p],hO,hE.ol p _ y hO hp, ?_⟩
  rw[hE.outs,cD,bz,hO];rfl
 have csJ:∀{cs:ax iO} {j:aE} {y:AA},(cs.map (·.aa))[j]? =ah y->∃t,cs[j]? =ah t/\t.aa=y:=by
  intro cs j y hj;rw[bz]at hj;cases ht:cs[j]? with
  |none=>rw[ht]at hj;cases hj
  |some t=>rw[ht]at hj;cases hj;exact⟨t,rfl,rfl⟩
 have hnm:∀p j,dI p 0+j=dI p j:=λp j=>by unfold dI;omega
 cases h with
 |rb q xs h0=>
  obtain⟨R,hR,hy⟩:=afA h0;rcases hE.rl R (aP hR)with ⟨nm,zs,vals,h1,h2,h3,h4,h5,h6⟩|⟨h1,_⟩
  ·have Wm:=NK (R:=R) (xs:=xs) (.inr hy.symm);obtain⟨e1,e2⟩:=yG (σ:=σ) (NN (c:=c) (OL:=OL) hR h1);refine⟨⟨vals,by rw[e1];exact h4,by rw[g6,Wm,bP];exact h5,λj y hj=> ?_⟩,⟨ai,q,aj⟩,rfl,λb hb=>⟨nm,_, ?_,h2, ?_⟩⟩
   ·rw[gK,Wm]at hj;cases hx:(R.cs.map (·.aa))[j]? with
    |none=>rw[hx]at hj;cases hj
    |some z=>
     rw[hx]at hj;cases hj;obtain⟨t,ht,rfl⟩:=csJ hx;obtain⟨k1,k2⟩:=h6 j t ht;have jt:j<900:=by have:=hE.sm.rl q _ xs h0 (.inr rfl);have h7:=(aT.1 ht).1;rw[Wm,bP]at this;omega
     rw[hnm];exact⟨t.u,k1,yI k2 (fzR hR ht) (Ds hR ht jt)⟩
   ·show nm∈(match RL[q]? with|some R=>R.box.toList|none=>[]);rw[hR];dsimp only;rw[h1];exact aY.2 rfl
   ·rw[show b=_ from hb,e1];rfl
  ·unfold jS.arg at hy;rw[h1]at hy;cases hy
 |rr q y xs j e ex ys h0 hx hj=>
  obtain⟨R,hR,rfl⟩:=afA h0;have Wm:=NK hx;rw[Wm]at hj;obtain⟨t,ht,Fy⟩:=csJ hj;have jt:j<900:=by have:=hE.sm.rl q _ xs h0 hx;have h7:=(aT.1 ht).1;rw[Wm,bP]at this;omega
  have hc:i_ E σ w c t:=by
   rcases hE.rl R (aP hR)with ⟨nm,zs,vals,_,_,_,_,_,h6⟩|⟨_,⟨_,t',h1,_,h2⟩|⟨_,vals,_,_,h6⟩⟩
   ·exact(h6 j t ht).2
   ·rw[h1]at ht;cases j with
    |zero=>cases ht;exact h2
    |succ j=>simp at ht
   ·exact(h6 j t ht).2
  obtain⟨k1,k2⟩:=EX (RL:=RL) (OL:=OL) hc Fy (Ds hR ht jt);refine⟨k1,⟨ai,q,ah j⟩,rfl,λb hb=> ?_⟩
  obtain⟨n,o,h1,h2⟩:=k2 b hb;refine⟨n,o, ?_,h2⟩
  show n∈(match RL[q]? with|some R=>(match R.cs[j]? with|some r=>r.tk|none=>[])|none=>[]);rw[hR];dsimp only;rw[ht];exact h1
 |ob p xs h0=>
  obtain⟨O,hO,hoo,hl⟩:=aaU h0;have hp:=hE.sm.a p _ xs h0 (.inr rfl);rcases hoo with ⟨_,h1,_⟩|⟨h1,Is,vs,vals,Tl,h2,h3,h4,h5⟩
  ·exact cw rfl (h1 xs)
  ·cases Tl;obtain⟨e1,e2⟩:=yF (σ:=σ) (yD (c:=c) (RL:=RL) (OL:=OL) hp (.inr rfl));have adi:O.cs.length<=100:=by have:=hE.sm.o p;rw[hl,bP]at this;exact this
   rw[hl];refine⟨⟨vals,by rw[e1];exact h3,by rw[td,bP];exact h4,λj y hj=> ?_⟩,⟨ak,p,aj⟩,rfl,λb hb=>⟨dI p 900,_, ?_,h2, ?_⟩⟩
   ·rw[tX,bO]at hj;cases hx:(O.cs.map (·.aa))[j]? with
    |none=>rw[hx]at hj;cases hj
    |some z=>
     rw[hx]at hj;cases hj;obtain⟨t,ht,rfl⟩:=csJ hx;obtain⟨k1,k2⟩:=h5 j t ht;have jt:=(aT.1 ht).1;refine⟨t.u,k1, ?_⟩
     rcases k2 with ⟨⟨e,ex,z,ys,_,q2,_⟩,q6⟩|k2
     ·rw[q2];show t.u=mf ((me σ c RL OL).P (dI p j));rw[(yF (yD hp (.inl (by omega)))).1];exact q6
     ·have hk:∀ys,t.aa≠ .kp ys:=by
       rcases k2 with ⟨_,_,_,_,q,_⟩|⟨_,_,_,q,_⟩
       ·intro ys hh;rw[q]at hh;cases hh
       ·exact q
      have:rR p j t.aa=j8 (dI p (100+j)) t.aa:=by cases hq:t.aa<;>first|rfl|exact cw hq (hk _)
      rw[this];exact yI k2 (fzO hO ht) (Jf hp hO ht (by omega))
   ·show dI p 900∈(match OL[p]? with|some O=>(if O.box=ai then [dI p 900]else [])|none=>[]);rw[hO];dsimp only;rw[bu h1];exact aY.2 rfl
   ·rw[show b=_ from hb,e1];rfl
 |kp p y xs j e ex z ys h0 hx h2 h3=>
  obtain⟨O,hO,hoo,hl⟩:=aaU h0;have hp:=hE.sm.a p _ xs h0 hx;rw[hl]at h3;obtain⟨t,ht,Fy⟩:=csJ h3;have adi:O.cs.length<=100:=by have:=hE.sm.o p;rw[hl,bP]at this;exact this
  have jt:=(aT.1 ht).1;have adC:Kept σ p j xs t:=by
   rcases hoo with ⟨_,_,h1|⟨g,Is,Tl,h1⟩⟩|⟨_,Is,vs,vals,Tl,_,_,_,h5⟩
   ·rw[h1]at ht;simp at ht
   ·have:Is=xs:=by rw[Tl]at hx;rcases hx with ⟨g',hx⟩|hx<;>cases hx;rfl
    subst this;rcases h1 j t ht with h|⟨h,_⟩
    ·exact h
    ·rw[Fy]at h;cases h
   ·have:Is=xs:=by rw[Tl]at hx;rcases hx with ⟨g',hx⟩|hx<;>cases hx;rfl
    subst this;rcases(h5 j t ht).2 with ⟨h,_⟩|h
    ·exact h
    ·rcases h with ⟨_,_,_,_,q,_⟩|⟨_,_,_,q,_⟩
     ·rw[Fy]at q;cases q
     ·exact cw Fy (q _)
  obtain⟨e',sr,z',A7,q1,q2,q3,q4,q5⟩:=adC;rw[h2]at q1;cases q1;rw[Fy]at q2;cases q2;obtain⟨e1,e2⟩:=yF (σ:=σ) (yD (c:=c) (RL:=RL) (OL:=OL) (p:=p) (j:=j) hp (.inl (by omega)));obtain⟨⟨te,r1,r2,r3⟩,r4,r5⟩:=b7.obj _ _ q5;refine⟨⟨⟨te,r1,by rw[e1];exact r2,r3⟩, ?_,λnV=>by rw[e1,e2];exact r5 nV⟩,⟨ak,p,ah j⟩, ?_,λb hb=>⟨dI p j,_, ?_,q5, ?_⟩⟩
  ·rw[e1,e2];refine r4.frame (λ_=>rfl) (λi j y xx u hy Ls hr=> ?_);split at hr
   ·rename_i nV;rw[bu nV];exact hr
   ·rename_i nV;rw[bJ nV];exact hr.frame (λ_ _=>rfl) (λb hb=> .inl hb)
  ·show dI p j=(match OL[p]? with|some O=>(match O.cs[j]? with|some r=>(match r.aa with| .kp _=>dI p j|_=>dI p (100+j))|none=>0)|none=>0)
   rw[hO];dsimp only;rw[ht];dsimp only;rw[Fy]
  ·show dI p j∈(match OL[p]? with|some O=>(match O.cs[j]? with|some r=>r.tk|none=>[])|none=>[]);rw[hO];dsimp only;rw[ht];dsimp only;rw[q3];exact aY.2 rfl
  ·rw[kU (c:=c) (c':=me σ c RL OL) ⟨e1,e2⟩]at hb;exact hb
 |nw p y xs j e ex ys h0 hx h3=>
  obtain⟨O,hO,hoo,hl⟩:=aaU h0;have hp:=hE.sm.a p _ xs h0 hx;rw[hl]at h3;obtain⟨t,ht,Fy⟩:=csJ h3;have adi:O.cs.length<=100:=by have:=hE.sm.o p;rw[hl,bP]at this;exact this
  have jt:=(aT.1 ht).1;have hc:i_ E σ w c t:=by
   rcases hoo with ⟨_,_,h1|⟨g,Is,Tl,h1⟩⟩|⟨_,Is,vs,vals,Tl,_,_,_,h5⟩
   ·rw[h1]at ht;simp at ht
   ·rcases h1 j t ht with ⟨_,_,_,_,_,h,_⟩|⟨h,_⟩<;>(rw[Fy]at h;cases h)
   ·rcases(h5 j t ht).2 with ⟨⟨_,_,_,_,_,h,_⟩,_⟩|h
    ·rw[Fy]at h;cases h
    ·exact h
  obtain⟨k1,k2⟩:=EX (RL:=RL) (OL:=OL) hc Fy (Jf hp hO ht (by omega));refine⟨k1,⟨ak,p,ah j⟩, ?_,λb hb=> ?_⟩
  ·show dI p (100+j)=(match OL[p]? with|some O=>(match O.cs[j]? with|some r=>(match r.aa with| .kp _=>dI p j|_=>dI p (100+j))|none=>0)|none=>0)
   rw[hO];dsimp only;rw[ht];dsimp only;rw[Fy]
  ·obtain⟨n,o,h1,h2⟩:=k2 b hb;refine⟨n,o, ?_,h2⟩
   show n∈(match OL[p]? with|some O=>(match O.cs[j]? with|some r=>r.tk|none=>[])|none=>[]);rw[hO];dsimp only;rw[ht];exact h1
end
end Go.FG

namespace Go.FG
theorem tL{args:ax eC}{r:dz}{m:aE}{o:Obj}(h:zc args r m (.o o)):oi args r (cK m)≠ .iU:=by
 refine qq (uI.2 h) ?_;rintro ⟨k,d⟩ hd;rcases aZ.1 hd with hd|hd
 ·obtain⟨i,a,_,hd⟩:=FM.1 hd;rcases gH.1 hd with ⟨_,_,_,h⟩|⟨_,_,_,_,_,_,_,_,h⟩<;>rw[h]<;>simp
 ·obtain⟨i,a,_,hd⟩:=FL.1 hd;rcases pq.1 hd with ⟨_,_,_,h⟩|⟨_,_,⟨_,_,_,_,_,_,_,_,h⟩|⟨_,_,_,_,_,_,h⟩⟩<;>rw[h]<;>simp
section
variable {P:cL} {E:eP} {σ:St} {a:Act} {w:bB} {c c0:eB} {RL:ax jS} {OL:ax lF}
theorem PN{s:Sp}{n:aE}(h:n∈nW RL OL s):n∈RL.flatMap (·.tk)++(OL.zipIdx 0).flatMap (λt=>t.1.ns t.2):=by
 obtain⟨b,i,j⟩:=s;have inO:∀{O:lF},OL[i]? =ah O->n∈O.ns i->n∈(OL.zipIdx 0).flatMap (λt=>t.1.ns t.2):=λhO hn=>bA.2 ⟨_,aP (ml (p:=0) hO),by rw[bO];exact hn⟩;have inR:∀{R:jS},RL[i]? =ah R->n∈R.tk->n∈RL.flatMap (·.tk):=λhR hn=>bA.2 ⟨_,aP hR,hn⟩;cases b<;>cases j<;>unfold nW at h<;>dsimp only at h
 ·cases hO:OL[i]? with
  |none=>rw[hO]at h;cases h
  |some O=>rw[hO]at h;exact bH _ (inO hO (bR _ h))
 ·rename_i j;cases hO:OL[i]? with
  |none=>rw[hO]at h;cases h
  |some O=>
   rw[hO]at h;dsimp only at h;cases hr:O.cs[j]? with
   |none=>rw[hr]at h;cases h
   |some r=>rw[hr]at h;exact bH _ (inO hO (bH _ (bA.2 ⟨r,aP hr,h⟩)))
 ·cases hO:RL[i]? with
  |none=>rw[hO]at h;cases h
  |some O=>rw[hO]at h;exact bR _ (inR hO (bR _ h))
 ·rename_i j;cases hO:RL[i]? with
  |none=>rw[hO]at h;cases h
  |some O=>
   rw[hO]at h;dsimp only at h;cases hr:O.cs[j]? with
   |none=>rw[hr]at h;cases h
   |some r=>rw[hr]at h;exact bR _ (inR hO (bH _ (bA.2 ⟨r,aP hr,h⟩)))
theorem P_{args:ax eC}{r:dz}(hE:BM E σ w c RL OL args r){q:aE}{R:jS}(hR:RL[q]? =ah R):o4 E w (me σ c RL OL) (Dq (500+q) R.arg).1 (Dq (500+q) R.arg).2 R.v:=by
 have hlen:∀{j:aE} {t:iO},R.cs[j]? =ah t->j<900:=by
  intro j t ht;have h0:r.rs[q]? =ah R.arg:=by rw[hE.rs,bz,hR];rfl
  have hx:IB R.arg (R.cs.map (·.aa)):=by
   unfold jS.arg;split
   ·exact .inr rfl
   ·exact .inl ⟨_,rfl⟩
  have:=hE.sm.rl q _ _ h0 hx;have h7:=(aT.1 ht).1;rw[bP]at this;omega
 have hf:∀{j:aE} {t:iO},R.cs[j]? =ah t->∀n∈t.fz,n∈RL.flatMap (·.fz)++OL.flatMap (·.ms):=λhj n hn=>bR _ (bA.2 ⟨_,aP hR,bA.2 ⟨_,aP hj,hn⟩⟩);have hnm:∀p j,dI p 0+j=dI p j:=λp j=>by unfold dI;omega
 rcases hE.rl R (aP hR)with ⟨nm,zs,vals,h1,h2,h3,h4,h5,h6⟩|⟨h1,⟨h2,t,h3,h4,h5⟩|⟨h2,vals,h3,h4,h5⟩⟩
 ·have:R.arg= .pt (R.cs.map (·.aa)):=by unfold jS.arg;rw[h1]
  rw[this];show R.v= .pointer (ah (ad ((me σ c RL OL).P (dI (500+q) 900)).blk 0));rw[(yG (NN hR h1)).1];exact h3
 ·have:R.arg= .v ak [t.aa]:=by unfold jS.arg;rw[h1,h2,h3];rfl
  rw[this,<-h4];have ht:R.cs[0]? =ah t:=by rw[h3];rfl
  have:=yI (OL:=OL) h5 (hf ht) (Ds hR ht (by omega));exact this
 ·have:R.arg= .v ai (R.cs.map (·.aa)):=by unfold jS.arg;rw[h1,h2]
  rw[this];refine⟨vals,h3,by show vals.size=(fC _ _).length;rw[g6,bP];exact h4,λj y hj=> ?_⟩
  replace hj:(fC (dI (500+q) 0) (R.cs.map (·.aa)))[j]? =ah y:=hj;rw[gK,bz]at hj;cases ht:R.cs[j]? with
  |none=>rw[ht]at hj;cases hj
  |some t=>
   rw[ht]at hj;cases hj;obtain⟨k1,k2⟩:=h5 j t ht;refine⟨t.u,k1, ?_⟩
   rw[hnm];exact yI k2 (hf ht) (Ds hR ht (hlen ht))
theorem zN{args:ax eC}{r:dz}{q:aE}{y:eC}{xs:ax AA}(h0:r.rs[q]? =ah y)(hx:IB y xs){v:AV}(hv:v∈fC (dI (500+q) 0) xs):iz (oi args r) v:=by
 intro m hm;obtain⟨j,hj⟩:=bV hv;rw[gK]at hj;cases hy:xs[j]? with
 |none=>rw[hy]at hj;cases hj
 |some z=>
  rw[hy]at hj;cases hj;obtain⟨rfl,e,ex,ys,rfl⟩:=rM hm;have hn:dI (500+q) 0+j=dI (500+q) j:=by unfold dI;omega
  rw[hn];exact tL (.rr q y xs j e ex ys h0 hx hy)
theorem SL(b7:Ok E σ w c){args:ax eC}{r:dz}(hE:BM E σ w c RL OL args r):Ok E (oi args r) w (me σ c RL OL) where
 obj nm o h:=(uG b7 hE (ph h)).1
 gp:=E.gp.fr b7.gp (λ_ _=>rfl) (λb hb=> .inl hb)
 sep nm o uZ o' b h h' hf uP:=by
  obtain⟨s,e1,k1⟩:=(uG b7 hE (ph h)).2;obtain⟨s',e1',k1'⟩:=(uG b7 hE (ph h')).2;obtain⟨n,ob,h1,h2,h3⟩:=k1 b hf;obtain⟨n',ob',Hu,Lb,JF⟩:=k1' b uP;have:=b7.sep n ob n' ob' b h2 Lb h3 JF;subst this;rw[e1,e1',U2 hE.nd h1 Hu]
 kk nm o b h hf hk:=by
  obtain⟨s,e1,k1⟩:=(uG b7 hE (ph h)).2;obtain⟨n,ob,h1,h2,h3⟩:=k1 b hf;rcases hk with hk|⟨n',jG,ob',Lb,JF⟩
  ·exact b7.kk n ob b h2 h3 hk
  ·have:=b7.sep n ob n' ob' b h2 Lb h3 JF;subst this;exact hE.ap n (PN h1) jG
 lt b hb:=by
  rcases hb with hb|⟨n,hn,ob,h1,h2⟩
  ·exact b7.lt b hb
  ·exact vH.lt b7 ⟨n,ob,h1,h2⟩
 kn nm xs h v hv:=by
  have hx:=ph h;cases hx with
  |rb q xs h0=>exact zN h0 (.inr rfl) hv
  |ob p xs h0=>
   intro m hm;obtain⟨j,hj⟩:=bV hv;rw[tX,bO]at hj;cases hy:(r.outs.getD p [])[j]? with
   |none=>rw[hy]at hj;cases hj
   |some z=>
    rw[hy]at hj;cases hj;cases z with
    |kp ys=>
     have hm:m=dI p j:=by simpa [rR,bw]using hm
     subst hm;have sA:p<OL.length:=by rw[hE.len];exact(aT.1 h0).1
     have hO:OL[p]? =ah OL[p]:=by simp[sA]
     have hl:r.outs.getD p []=OL[p].cs.map (·.aa):=by rw[hE.outs,cD,bz,hO];rfl
     rw[hl,bz]at hy;cases ht:OL[p].cs[j]? with
     |none=>rw[ht]at hy;cases hy
     |some t=>
      rw[ht]at hy;have Fy:t.aa= .kp ys:=by injection hy
      rcases hE.ol p _ _ hO h0 with ⟨_,h1,_⟩|⟨_,Is,vs,vals,Tl,_,_,_,h5⟩
      ·exact cw rfl (h1 xs)
      ·cases Tl;rcases(h5 j t ht).2 with ⟨⟨e,ex,z,A7,q1,q2,_⟩,_⟩|h
       ·rw[Fy]at q2;cases q2;exact tL (.kp p _ xs j e ex z ys h0 (.inr rfl) q1 (by rw[hl,bz,ht];exact kl ah Fy))
       ·rcases h with ⟨_,_,_,_,q,_⟩|⟨_,_,_,q,_⟩
        ·rw[Fy]at q;cases q
        ·exact cw Fy (q _)
    |ow e ex ys=>
     have hm:m=dI p (100+j):=by simpa [rR,j8,bw]using hm
     subst hm;exact tL (.nw p _ xs j e ex ys h0 (.inr rfl) hy)
    |_=>simp[rR,j8,bw]at hm
theorem K4(b7:Ok E σ w c){args:ax eC}{r:dz}(hE:BM E σ w c RL OL args r):nb σ c w (oi args r) (me σ c RL OL) w where
 os:=rfl
 tape:=rfl
 output:=rfl
 size:=cm _
 K b hb:= .inl hb
 same _ _ _:=rfl
 own b hb:=by
  obtain⟨nm,o,h,hf⟩:=hb;obtain⟨s,e1,k1⟩:=(uG b7 hE (ph h)).2;obtain⟨n,ob,h1,h2,h3⟩:=k1 b hf;exact .inl ⟨n,ob,h2,h3⟩
 kn b hb:=by
  rcases hb with hb|⟨n,hn,ob,h1,h2⟩
  ·exact .inl hb
  ·exact .inr (.inl ⟨n,ob,h1,h2⟩)
theorem K5{args:ax eC}{r:dz}(hs:Small args r)(ha:∀a∈args,mc a<=100)(hA:Rb c0 c):∀m,inj args (cK m)≠ .iU->(me σ c RL OL).P m=c0.P m/\(me σ c RL OL).G m=c0.G m:=by
 intro m hm;have:∃ob,inj args (cK m)= .o ob:=by
  cases h:inj args (cK m)with
  |o ob=>exact⟨ob,rfl⟩
  |iU=>exact cw h hm
  |v x=>
   obtain⟨p,a,h0,h⟩:=kE.1 (nZ h (by simp));rcases h with ⟨h,_⟩|h
   ·exact cw h (kW _ _)
   ·rcases gH.1 h with ⟨_,_,_,h⟩|⟨_,_,_,_,_,_,_,_,h⟩<;>cases h
 obtain⟨ob,h⟩:=this;obtain⟨p,a,h0,hh⟩:=yP h;have go:∀j,j<100\/j=900->p<500->(me σ c RL OL).P (dI p j)=c0.P (dI p j)/\(me σ c RL OL).G (dI p j)=c0.G (dI p j):=by intro j hj hp;obtain⟨e1,e2⟩:=yF (σ:=σ) (yD (c:=c) (RL:=RL) (OL:=OL) hp hj);obtain⟨g1,g2⟩:=hA (dI p j) (Al p j);exact⟨e1.trans g1,e2.trans g2⟩
 rcases hh with ⟨xs,rfl,rfl,_⟩|⟨xs,j,e,ex,ys,hx,hj,rfl,_⟩
 ·exact go 900 (.inr rfl) (hs.a p _ xs h0 (.inr rfl))
 ·refine go j (.inl ?_) (hs.a p _ xs h0 hx);have h1:=ha a (aP h0);have h2:mc a=xs.length:=by rcases hx with ⟨g,rfl⟩|rfl<;>rfl
  have h3:=(aT.1 hj).1;omega
theorem N8{args:ax eC}{r:dz}(hE:BM E σ w c RL OL args r):iA E w (me σ c RL OL) (UL r.rs) (Az (RL.map (·.v))):=by
 have jh:∀l:ax (aW×ax AV),l=j9 500 r.rs->iA E w (me σ c RL OL) (.jh l) (.tuple (RL.map (·.v)).toArray):=by
  rintro l rfl;refine⟨_,rfl,by rw[uV,hE.rs];simp,λj g xs hj=> ?_⟩
  rw[CB,hE.rs,bz]at hj;cases hR:RL[j]? with
  |none=>rw[hR]at hj;cases hj
  |some R=>
   rw[hR]at hj;have hj:Dq (500+j) R.arg=(g,xs):=by injection hj
   have:=P_ hE hR;rw[hj]at this;exact⟨R.v,by simp[hR],this⟩
 have one:∀x R,j9 500 r.rs=[x]->RL=[R]->iA E w (me σ c RL OL) (qD [x]) R.v:=by
  intro x R hx hRL;have h0:RL[0]? =ah R:=by rw[hRL];rfl
  have h1:=P_ hE h0;have h2:(j9 500 r.rs)[0]? =ah (Dq (500+0) R.arg):=by rw[CB,hE.rs,bz,h0];rfl
  rw[hx]at h2;have h2:x=Dq (500+0) R.arg:=by injection h2
  subst h2;exact h1
 have hlen:(j9 500 r.rs).length=RL.length:=by rw[uV,hE.rs];simp
 have hL:∀L,L=j9 500 r.rs->L.length=RL.length->iA E w (me σ c RL OL) (qD L) (Az (RL.map (·.v))):=by
  intro L hL hlen;have jh:=jh L hL;generalize hV:RL.map (·.v)=V at jh⊢;have hlv:L.length=V.length:=by rw[hlen,<-hV];simp
  cases L with
  |nil=>
   cases V with
   |nil=>exact jh
   |cons v V=>simp at hlv
  |cons x L=>
   cases V with
   |nil=>simp at hlv
   |cons v V=>
    cases L with
    |cons y L=>
     cases V with
     |nil=>simp at hlv
     |cons v' V=>exact jh
    |nil=>
     cases V with
     |cons v' V=>simp at hlv
     |nil=>
      cases hR:RL with
      |nil=>rw[hR]at hV;cases hV
      |cons R RL'=>
       cases RL' with
       |nil=>
        have:=one x R hL.symm hR;rw[hR]at hV this;have hV:R.v=v:=by injection hV
        rw[<-hV];exact this
       |cons R' RL'=>rw[hR]at hV;simp at hV
 exact hL _ rfl hlen
end
end Go.FG

namespace Go.FG
theorem B7{α:Type}{b:aW}{x r:α}(h:(bif b then ah x else aj)=ah r):b=ai/\x=r:=by
 cases b with
 |true=>exact⟨rfl,by injection h⟩
 |false=>cases h
section
variable {P:cL} {E:eP} {σ:St} {a:Act} {w:bB} {c:eB}
theorem Zx(hE:dS P E)(b7:Ok E σ w c)(di:eG E σ a w c){F:Func}{args:ax eC}{e:Ex}{r:dz}(h:fin E F args e σ=ah r):
  (e= .normal\/e= .ret)/\(∀x∈args,mc x<=100)/\∃RL OL,BM E σ w c RL OL args r/\(results F a.tmps).run P w= .ok (Az (RL.map (·.v))) w:=by
 have he:e= .normal\/e= .ret:=by
  cases e with
  |normal=>exact .inl rfl
  |ret=>exact .inr rfl
  |exit id=>cases h
 have h:(match Ay E σ 500 F.results.toList F.resultTypes.toList with
  |some (rs,tk,fz)=>match Ar E σ (tk++fz) 0 args with
   |some (outs,ns,ms)=>bif rO (tk++ns)&&p_ (tk++ns) (fz++ms)&&eL args.length 500&&(args.all λa=>eL (mc a) 100)&&(rs.all λa=>eL (mc a) 100)&&(outs.all λa=>eL a.length 100)then ah (dz.mk rs (sq outs))else aj
   |none=>aj
  |none=>aj)=ah r:=by
  rcases he with rfl|rfl<;>exact h
 split at h
 ·rename_i rs tk fz h1;split at h
  ·rename_i outs ns ms h2;obtain⟨RL,rfl,rfl,rfl,r4,r5,r6⟩:=LX hE b7 di h1;obtain⟨OL,rfl,o2,rfl,rfl,o5⟩:=LN b7 h2;obtain⟨hb,rfl⟩:=B7 h;simp only[aF,bj]at hb;obtain⟨⟨⟨⟨⟨b1,b2⟩,b3⟩,b4⟩,b5⟩,b6⟩:=hb;refine⟨he,λx hx=>cu (b4 x hx),RL,OL,⟨r4,λi O x hi hx=>by have:=o5 i O x hi hx;rwa[bO]at this,o2,pr b1,nB b2,⟨?_, ?_, ?_⟩,rfl,λp=>w_⟩,Gd r6⟩
   ·intro p x xs hp _;have:=(aT.1 hp).1;have:=cu b3;omega
   ·intro q x xs hq hx;have h1:=cu (b5 x (aP hq));have h2:mc x=xs.length:=by rcases hx with ⟨g,rfl⟩|rfl<;>rfl
    omega
   ·intro p;show((sq (OL.map (·.l))).getD p []).length<=100;rw[w_,cD];cases hp:(OL.map (·.l))[p]? with
    |none=>simp
    |some l=>exact cu (b6 l (aP hp))
  ·cases h
 ·cases h
end
inductive Fit:CV->Prop
 |i (k n):Fit (.i k n)
 |b (x):Fit (.b x)
 |s (x) (h:HU x):Fit (.s x)
 |l (e xs) (h:xs.length<=9223372036854775807) (hc:∀y∈xs,∀x∈y,Fit x):Fit (.l e xs)
def vS(xs:aU):Prop:=xs.length<=9223372036854775807/\∀y∈xs,∀x∈y,Fit x
def adf:AA->Prop
 | .s x=>HU x| .sh _ xs=>vS xs| .ow _ _ xs=>vS xs|_=>True
def Dy:ax AA->Prop
 |[]=>True|a::r=>adf a/\Dy r
def adg:CV->Prop
 | .s x=>HU x| .l _ xs=>vS xs|_=>True
def Oc:ax CV->Prop
 |[]=>True|a::r=>adg a/\Oc r
def Ob:eC->Prop
 | .v _ xs=>Dy xs| .pt xs=>Dy xs| .fb xs=>Oc xs
def uN:ax eC->Prop
 |[]=>True|a::r=>Ob a/\uN r
theorem Fit.aeo{u:a_}{x:CV}(hl:sW x=ak)(h:Sc u x):Fit x:=by
 cases x with
 |i k n=>exact .i k n
 |b x=>exact .b x
 |s x=>exact .s x h.2
 |l=>simp[sW]at hl
theorem cQ.fit{E:Tab}{w:bB}{K:aE->Prop}{v:a_}{x:CV}(h:cQ E w K v x):Fit x:=by
 induction h with
 |i k n=>exact .i k n
 |b x=>exact .b x
 |s x h=>exact .s x h
 |nl e A c=>exact .l e [] (bm _) (λy hy=>by cases hy)
 |l e xs b o c ti U ht hc hm hK hs hcell gO ih=>refine .l e xs (cZ hc hm) (λy hy x hx=> ?_);obtain⟨i,hi⟩:=bV hy;obtain⟨j,hj⟩:=bV hx;exact ih i j y x hi hj
theorem Fit.row{e:aE}{xs:aU}(h:Fit (.l e xs)):vS xs:=by cases h with|l _ _ h hc=>exact⟨h,hc⟩
theorem Fit.toC{x:CV}(h:Fit x):adg x:=by
 cases x with
 |s x=>cases h with|s _ h=>exact h
 |l e xs=>exact h.row
 |_=>trivial
theorem xK{w:bB}{p:Pl}{xs:aU}{R:aE->aE->a_->CV->Prop}(h:im w p xs R){i j:aE}{y:ax CV}{x:CV}(hi:xs[i]? =ah y)(hj:y[j]? =ah x):∃u:a_,R i j u x:=by
 cases hn:p.nil with
 |true=>rw[(h.nil hn).1]at hi;simp at hi
 |false=>obtain⟨vals,_,_,_,_,hc⟩:=h.mem hn;obtain⟨u,_,hr⟩:=hc i y j x hi hj;exact⟨u,hr⟩
theorem IU.fit{E:Tab}{w:bB}{c:eB}{nm e:aE}{ex:aW}{xs:aU}(h:IU E w c nm e ex xs):vS xs:=by
 refine⟨sH h.at_,λy hy x hx=> ?_⟩
 obtain⟨i,hi⟩:=bV hy;obtain⟨j,hj⟩:=bV hx;obtain⟨u,hr⟩:=xK h.at_ hi hj;split at hr
 ·cases x with
  |i k n=>exact .i k n
  |b x=>exact .b x
  |s x=>exact .s x (show Sc u (.s x)from hr).2
  |l e2 ys=>obtain⟨_,ti,_,hp,_,lK,fN⟩:=hr;refine .l e2 ys (sH fN) (λy2 hy2 x2 RC=> ?_);obtain⟨i2,Bu⟩:=bV hy2;obtain⟨j2,RA⟩:=bV RC;obtain⟨u2,hr2⟩:=xK fN Bu RA;exact Fit.aeo (ic hp (lK y2 hy2) RA) hr2
 ·exact cQ.fit hr
theorem Cf{T:Tab}{w:bB}{c:eB}{xs:ax AA}{nm:aE}(adP:∀(j e:aE) (ex:aW) (ys:aU),xs[j]? =ah (AA.ow e ex ys)->vS ys)(h:∀(j:aE) (x:AA),xs[j]? =ah x->∃v,dP T w c (j8 (nm+j) x) v):Dy xs:=by
 induction xs generalizing nm with
 |nil=>trivial
 |cons x xs ih=>
  refine⟨?_,ih (nm:=nm+1) (λj e ex ys hj=>adP (j+1) e ex ys hj) (λj y hj=> ?_)⟩
  ·obtain⟨v,hv⟩:=h 0 x rfl;cases x with
   |s x=>exact hv.2
   |sh e ys=>exact(cQ.fit hv).row
   |ow e ex ys=>exact adP 0 e ex ys rfl
   |_=>trivial
  ·have:=h (j+1) y hj;rw[show nm+1+j=nm+(j+1)by omega];exact this
def wQ(args:ax eC):aW:=eL args.length 500&&args.all λa=>eL (mc a) 100
theorem Tq{args:ax eC}(hs:wQ args=ai){p j e:aE}{x:eC}{xs:ax AA}{ex:aW}{ys:aU}(h0:args[p]? =ah x)(hx:(∃g,x= .v g xs)\/x= .pt xs)(hj:xs[j]? =ah (AA.ow e ex ys)):inj args (cK (dI p j))= .o (.row e ex ys):=by
 simp only[wQ,aF,bj]at hs;have len:∀(x:eC) (xs:ax AA) (j:aE) (y:AA),x∈args->((∃g,x= .v g xs)\/x= .pt xs)->xs[j]? =ah y->j<100:=by
  intro x xs j y hm hx hj;have h1:=cu (hs.2 x hm);have h2:mc x=xs.length:=by rcases hx with ⟨g,rfl⟩|rfl<;>rfl
  have h3:=(aT.1 hj).1;omega
 have jt:=len x xs j _ (aP h0) hx hj;refine wS (kE.2 ⟨p,x,h0, .inr (gH.2 (.inr ⟨xs,j,e,ex,ys,hx,hj,by rw[bO],rfl⟩))⟩) (λc' Fo=> ?_);obtain⟨p',a',Ru,hh⟩:=kE.1 Fo;rw[bO]at hh;rcases hh with ⟨h,_⟩|hh
 ·exact cw h (kW _ _)
 ·rcases gH.1 hh with ⟨zs,_,h,_⟩|⟨zs,j',e',sr,A7,nV,DJ,h,rfl⟩
  ·have:=sE (by omega) (by omega) (ju h);omega
  ·have asV:=len a' zs j' _ (aP Ru) nV DJ;obtain⟨rfl,rfl⟩:=sE (by omega) (by omega) (ju h);rw[h0]at Ru;cases Ru;have:xs=zs:=by rcases hx with ⟨g,rfl⟩|rfl<;>rcases nV with ⟨g',nV⟩|nV<;>cases nV<;>rfl
   subst this;rw[hj]at DJ;cases DJ;rfl
theorem Hm{T:Tab}{w:bB}{c:eB}:∀{cs:ax CV},(∀(q:aE) (x:CV),cs[q]? =ah x->Fit x)->Oc cs:=by
 intro cs;induction cs with
 |nil=>intro _;trivial
 |cons x cs ih=>intro h;exact⟨(h 0 x rfl).toC,ih (λq y hq=>h (q+1) y hq)⟩
theorem Od{T:Tab}{w:bB}{c:eB}{args:ax eC}(hs:wQ args=ai)(b7:Ok T (inj args) w c)(h:∀(p:aE) (x:eC),args[p]? =ah x->∃v,iA T w c (rL p x) v):uN args:=by
 have one:∀(p:aE) (x:eC),args[p]? =ah x->Ob x:=by
  intro p x h0;have rows:∀xs,((∃g,x= .v g xs)\/x= .pt xs)->∀(j e:aE) (ex:aW) (ys:aU),xs[j]? =ah (AA.ow e ex ys)->vS ys:=λxs hx j e ex ys hj=>IU.fit (b7.obj _ _ (Tq hs h0 hx hj));obtain⟨v,hv⟩:=h p x h0;cases x with
  |v g xs=>
   refine Cf (T:=T) (w:=w) (c:=c) (nm:=dI p 0) (rows xs (.inl ⟨g,rfl⟩)) (λj y hj=> ?_);replace hv:o4 T w c g (fC (dI p 0) xs) v:=hv;have DJ:(fC (dI p 0) xs)[j]? =ah (j8 (dI p 0+j) y):=by rw[gK,hj];rfl
   unfold o4 at hv;split at hv
   ·rename_i a he;rw[he]at DJ;cases j with
    |zero=>cases DJ;exact⟨v,hv⟩
    |succ j=>simp at DJ
   ·obtain⟨vals,_,_,hv⟩:=hv;obtain⟨u,_,hu⟩:=hv j _ DJ;exact⟨u,hu⟩
   ·exact hv.elim
  |pt xs=>
   have akQ:inj args (cK (dI p 900))= .o (.box (fC (dI p 0) xs)):=by
    refine wS (kE.2 ⟨p,_,h0, .inr (gH.2 (.inl ⟨xs,rfl,by rw[bO],by rw[bO]⟩))⟩) (λc' Fo=> ?_);obtain⟨p',a',Ru,hh⟩:=kE.1 Fo;rw[bO]at hh;rcases hh with ⟨h,_⟩|hh
    ·exact cw h (kW _ _)
    ·rcases gH.1 hh with ⟨zs,hx,h,rfl⟩|⟨zs,j',e',sr,A7,nV,DJ,h,rfl⟩
     ·obtain⟨rfl,_⟩:=sE (by omega) (by omega) (ju h);rw[h0]at Ru;cases Ru;cases hx;rfl
     ·exfalso;simp only[wQ,aF,bj]at hs;have h1:=cu (hs.2 a' (aP Ru));have h2:mc a'=zs.length:=by rcases nV with ⟨g,rfl⟩|rfl<;>rfl
      have h3:=(aT.1 DJ).1;have:=sE (by omega) (by omega) (ju h);omega
   obtain⟨vals,_,_,hc⟩:=b7.obj _ _ akQ;refine Cf (T:=T) (w:=w) (c:=c) (nm:=dI p 0) (rows xs (.inr rfl)) (λj y hj=> ?_);obtain⟨u,_,hu⟩:=hc j (j8 (dI p 0+j) y) (by rw[gK,hj];rfl);exact⟨u,hu⟩
  |fb xs=>
   obtain⟨b,_,_,hf⟩:∃b,v= .pointer (ah (ad b 0))/\c.K b/\∀(q:aE) (x:CV),xs[q]? =ah x->∃u:a_,w.cell? (ad b q)=ah u/\cQ T w c.K u x:=by obtain⟨b,h1,h2,h3⟩:=hv;exact⟨b,h1,h2,h3⟩
   exact Hm (T:=T) (w:=w) (c:=c) (λq x hq=>by obtain⟨u,_,hu⟩:=hf q x hq;exact hu.fit)
 clear h b7 hs;induction args with
 |nil=>trivial
 |cons x args ih=>exact⟨one 0 x rfl,ih (λp y hp=>one (p+1) y hp)⟩
theorem Zy{P:cL}{E:eP}(hE:dS P E)(hF:∀g,kS P E g (E.call g))(hm:P.follows .mixedOrders=ai){g:aE}{F:Func}{code:Code}(hf:P.funcs[g]? =ah F)(hb:F.body=ah code)
  (hc:((F.name== "runtime.NumGoroutine")|| !rE F.ntmps code)=ak) {spec:ax eC->aA (aW×dz)} (hs:∀args r,spec args=ah (ai,r)->wQ args=ai/\(uN args->args.length<=F.ntmps/\∃(R:Type) (it:It R) (K:Ex->St->aA R) (q:R),(∀c∈ja code,cE E it c)/\rH E it code (inj args) K=ah q/\∀e σ,K e σ=ah q->fin E F args e σ=ah r)):kS P E g spec:=by
 intro args r hr w c1 vs b7 fm Tj;obtain⟨Wj,hs⟩:=hs args r hr;obtain⟨hlen,R,it,K,q,zY,adl,ak1⟩:=hs (Od Wj b7 (λp x hp=>(Tj p x hp).imp λ_ h=>h.2));simp only[gL,lz]at hc;refine⟨⟨F,hf,by rw[hb];rfl,hc.1⟩, ?_⟩
 refine calls_of_wp hf hb ?_;refine Zs (N:=F.ntmps) (σ0:=inj args) (c0:=c1) (w0:=w) hE hF hm code zY (inj args) K _ adl hc.2 (λe σ' a' w' c' hk fN=> ?_) _ w c1 ⟨b7,⟨λn=> ?_,FD,rfl⟩, ?_,nb.refl _ _ _,Rb.refl _⟩
 ·obtain⟨he,ha,RL,OL,SX,OA⟩:=Zx hE fN.ok fN.sl (ak1 _ _ hk)
  have alx:VT E args r c1 w (Az (RL.map (·.v))) w':=
   ⟨me σ' c' RL OL,SL fN.ok SX,fN.gr.trans (K4 fN.ok SX),K5 SX.sm ha fN.ag,N8 SX⟩
  rcases he with rfl|rfl<;>exact⟨fN.sl.df,_,OA,alx⟩
 ·rcases FE (args:=args) (n:=n)with ⟨x,h0,h⟩|h
  ·rw[h];obtain⟨v,hv,vK⟩:=Tj n x h0;have:(Act.mk (vs++yx (F.ntmps-vs.size) undef) []).eval (.tmp n)=v:=by show(vs++yx (F.ntmps-vs.size) undef).getD n undef=v;have hn:=(dF.1 hv).1;rw[dX,Array.getElem?_append,bu hn,hv];rfl
   rw[this];exact vK
  ·rw[h];trivial
 ·simp;omega
theorem K8{P:cL}{T:Tab}{g:aE}{spec:ax eC->aA (aW×dz)}(h:∀args,spec args=aj):kS P T g spec:=λargs r hr=>by rw[h]at hr;cases hr
end Go.FG

namespace Go.FG
structure oh where
 t:aE
 ti:TI
 fs:ax (aE×aE)
def yw:ax oh->aE->aA TI
 |[],_=>aj
 |r::rs,t=>bif bh t r.t then ah r.ti else yw rs t
def Bt:ax oh->aE->aE->aA (aE×aE)
 |[],_,_=>aj
 |r::rs,t,f=>bif bh t r.t then(bif r.ti.agg then r.fs[f]? else aj)else Bt rs t f
def QN(rows:ax oh)(eqs:ax aE):Tab:={ty:=yw rows,fo:=Bt rows,eqs:=eqs}
def zB:Ck->a_->aW
 | .i k, .int k' n=>decide (k'=k)&&decide (n=0)
 | .b, .bool x=> !x
 | .s, .string x=>decide (x.size=0)
 | .l _, .slice aj 0 0=>ai
 | .o, .nilIface=>ai
 |_,_=>ak
def zsB:ax Ck->ax a_->aW
 |[],[]=>ai
 |k::ks,v::vs=>zB k v&&zsB ks vs
 |_,_=>ak
def isAgg:a_->aW| .agg _=>ai|_=>ak
def uL(P:cL)(n:aE):ax Field->ax (aE×aE)->aW
 |[],[]=>ai
 |f::r,(o,m)::l=>bh f.offset o&&(match P.info? f.type with|some i=>bh i.size m|none=>ak)&&o0 0 m&&eL (o+m) n&&uL P n r l
 |_,_=>ak
def tS:TypeDesc->aW| .struct _=>ak| .array _ _=>ak|_=>ai
def UN(P:cL)(r:oh):aW:=
 match P.info? r.t,P.underlying r.t with
 |some inf,ah d=>bh inf.size r.ti.ks.length&&bh inf.bytes r.ti.bytes&&o0 0 r.ti.ks.length&&
  (bif JW r.ti.ks then(match inf.zero with|some z=>zsB r.ti.ks z.cells.toList&&(!r.ti.agg||isAgg z)|none=>ak)else ai)&&
  (match d with
  | .struct fs=>r.ti.agg&&uL P r.ti.ks.length fs.toList r.fs
  | .int k=> !r.ti.agg&&oN r.ti.ks [.i k]
  | .bool=> !r.ti.agg&&oN r.ti.ks [.b]
  | .string=> !r.ti.agg&&oN r.ti.ks [.s]
  | .slice e=> !r.ti.agg&&oN r.ti.ks [.l e]
  |d=> !r.ti.agg&&oN r.ti.ks [.o]&&tS d)
 |_,_=>ak
theorem agT{k:Ck}{v:a_}(h:zB k v=ai):v=gP k:=by
 cases k<;>cases v<;>simp_all [zB,gP]
 ·rfl
 ·rename_i a n c;cases a<;>cases n<;>cases c<;>simp_all
theorem Ra:∀{ks:ax Ck} {vs:ax a_},zsB ks vs=ai->vs=ks.map gP
 |[],[],_=>rfl
 |k::ks,v::vs,h=>by
  simp only[zsB,aF]at h;rw[agT h.1,Ra h.2];rfl
 |[],_::_,h=>by cases h
 |_::_,[],h=>by cases h
theorem Zn:∀{x y:Ck},ckB x y=ai->x=y:=by intro x y h;cases x<;>cases y<;>simp_all [ckB]
theorem mG:∀{a b:ax Ck},oN a b=ai->a=b
 |[],[],_=>rfl
 |x::a,y::b,h=>by
  simp only[oN,aF]at h;rw[Zn h.1,mG h.2]
 |[],_::_,h=>by cases h
 |_::_,[],h=>by cases h
theorem tM{P:cL}{n:aE}:∀{fs:ax Field} {l:ax (aE×aE)},uL P n fs l=ai->
  fs.mapM (λf=>(P.info? f.type).map λi=>(f.offset,i.size))=ah l/\∀(f o m:aE),l[f]? =ah (o,m)->∃fd,fs[f]? =ah fd/\fd.offset=o/\(P.info? fd.type).map (·.size)=ah m/\m≠0/\o+m<=n
 |[],[],_=>⟨rfl,λf o m h=>by simp at h⟩
 |f::r,(o,m)::l,h=>by
  simp only[uL,aF]at h;obtain⟨⟨⟨⟨h1,h2⟩,h3⟩,h4⟩,h5⟩:=h;obtain⟨i1,i2⟩:=tM h5;have e1:=aQ h1;cases hi:P.info? f.type with
  |none=>rw[hi]at h2;cases h2
  |some i=>
   rw[hi]at h2;have e2:i.size=m:=aQ h2;have e3:0<m:=by simpa [xU]using h3
   have e4:=cu h4;refine⟨by simp[R9,hi,i1,e1,e2],λg o' m' hg=> ?_⟩
   cases g with
   |zero=>cases hg;exact⟨f,rfl,e1,by rw[hi];exact kl ah e2,by omega,e4⟩
   |succ g=>exact i2 g o' m' hg
 |[],_::_,h=>by cases h
 |_::_,[],h=>by cases h
theorem Gp:∀{rows:ax oh} {t:aE} {ti:TI},yw rows t=ah ti->∃r∈rows,r.t=t/\r.ti=ti/\∀f,Bt rows t f=(bif r.ti.agg then r.fs[f]? else aj)
 |[],_,_,h=>by cases h
 |r::rs,t,ti,h=>by
  unfold yw at h;cases hb:bh t r.t with
  |true=>rw[hb]at h;cases h;exact⟨r,du ..,(aQ hb).symm,rfl,λf=>by simp[Bt,hb]⟩
  |false=>rw[hb]at h;obtain⟨r',h1,h2,h3,h4⟩:=Gp (rows:=rs) h;exact⟨r',cM _ h1,h2,h3,λf=>by unfold Bt;rw[hb];exact h4 f⟩
theorem Jx:∀{rows:ax oh} {t f:aE} {o n:aE},Bt rows t f=ah (o,n)->∃ti,yw rows t=ah ti/\ti.agg=ai
 |[],_,_,_,_,h=>by cases h
 |r::rs,t,f,o,n,h=>by
  unfold Bt at h;unfold yw;cases hb:bh t r.t with
  |true=>
   rw[hb]at h;refine⟨r.ti,rfl, ?_⟩
   cases ha:r.ti.agg with
   |true=>rfl
   |false=>rw[ha]at h;cases h
  |false=>rw[hb]at h;exact Jx (rows:=rs) h
def D0(P:cL):aE->ax Ck->ax Field->aW
 |_,[],[]=>ai
 |j,k::ks,f::fs=>f.name != "_" &&bh f.offset j&&(match P.underlying f.type,k with|some (.int q), .i q'=>decide (q=q')|some .bool, .b=>ai|some .string, .s=>ai|_,_=>ak)&&D0 P (j+1) ks fs
 |_,_,_=>ak
def V1(P:cL)(rows:ax oh)(t:aE):aW:=
 !P.eqGuardType P.depth t&& !P.stoodInHeld t&&(match yw rows t,P.underlying t with|some ti,ah (.struct fs)=>D0 P 0 ti.ks fs.toList|_,_=>ak)
theorem vh{P:cL}{t:aE}{d:TypeDesc}(hd:P.underlying t=ah d)(hp:tS d=ai){cs:c_ a_}{j:aE}{v:a_}(hj:cs[j]? =ah v)(w:bB):(part t cs j).run P w= .ok v w:=by cases d<;>simp_all [part,Go.isAgg,run_underlying hd,tS]
theorem xA{P:cL}(w:bB):∀(fs:ax Field) (ks:ax Ck) (pre H4 xs ys:ax AV) (r:aW),D0 P pre.length ks fs=ai->H4.length=pre.length->xs.map DO=ks->ys.map DO=ks->SK xs ys=ah r->
  (KM 9999 ((pre++xs).map kI).toArray ((H4++ys).map kI).toArray fs).run P w= .ok r w
 |[],[],pre,H4,xs,ys,r,_,_,hx,hy,he=>by
  have:xs=[]:=by simpa using hx
  subst this;have:ys=[]:=by simpa using hy
  subst this;cases he;rfl
 |f::fs,k::ks,pre,H4,x::xs,y::ys,r,h,hl,hx,hy,he=>by
  simp only[D0,aF]at h;obtain⟨⟨⟨h1,h2⟩,h3⟩,h4⟩:=h;have h2:=aQ h2;have h1:f.name≠ "_" :=by simpa using h1
  simp only[eK,VO]at hx hy;have gx:((pre++x::xs).map kI).toArray[f.offset]? =ah (kI x):=by rw[h2];simp
  have gy:((H4++y::ys).map kI).toArray[f.offset]? =ah (kI y):=by rw[h2,<-hl];simp
  have ih:=λr' he'=>xA w fs ks (pre++[x]) (H4++[y]) xs ys r' (by simpa using h4) (by simp[hl]) hx.2 hy.2 he';simp only[cf,sQ]at ih
  have fin:∀{d:TypeDesc} {a b:a_} {q t:aW},P.underlying f.type=ah d->tS d=ai->kI x=a->kI y=b->(Op.equalIn 9999 f.type a b).run P w= .ok q w->SK xs ys=ah t->r=(q&&t)->
    (KM 9999 ((pre++x::xs).map kI).toArray ((H4++y::ys).map kI).toArray (f::fs)).run P w= .ok r w:=by
   intro d a b q t hd hp ha hb hq ht hr
   subst ha;subst hb;subst hr
   simp only[KM,bu h1,b8,vh hd hp gx w,vh hd hp gy w,bn,hq,lW]
   cases q with
   |false=>rfl
   |true=>simpa using ih t ht
  cases hu:P.underlying f.type with
  |none=>rw[hu]at h3;cases h3
  |some d=>
   rw[hu]at h3;cases x<;>cases y<;>simp only[SK]at he<;>try (cases he;done)
   ·rename_i k1 n1 k2 n2;split at he
    ·rename_i S7;subst S7;split at he
     ·rename_i t ht;cases he;have hk:k= .i k1:=hx.1.symm;subst hk;cases d<;>simp at h3;subst h3;exact fin hu rfl rfl rfl (run_equalIn_int w 9998 f.type _ _ _ _ hu) ht rfl
     ·cases he
    ·cases he
   ·split at he
    ·rename_i t ht;cases he;have hk:k= .b:=hx.1.symm;subst hk;cases d<;>simp at h3;exact fin hu rfl rfl rfl (run_equalIn_bool' w 9998 f.type _ _ hu) ht rfl
    ·cases he
   ·split at he
    ·rename_i t ht;cases he;have hk:k= .s:=hx.1.symm;subst hk;cases d<;>simp at h3;exact fin hu rfl rfl rfl (run_equalIn_string w 9998 f.type _ _ hu) ht rfl
    ·cases he
 |[],_::_,_,_,_,_,_,h,_,_,_,_=>by cases h
 |_::_,[],_,_,_,_,_,h,_,_,_,_=>by cases h
 |_::_,_::_,_,_,[],_,_,_,_,hx,_,_=>by cases hx
 |_::_,_::_,_,_,_::_,[],_,_,_,_,hy,_=>by cases hy
theorem Zr{P:cL}{rows:ax oh}{eqs:ax aE}(h:rows.all (UN P)=ai)(h2:eqs.all (V1 P rows)=ai):dS P (QN rows eqs):=by
 have key:∀t ti,yw rows t=ah ti->∃r,r.t=t/\r.ti=ti/\UN P r=ai/\∀f,Bt rows t f=(bif r.ti.agg then r.fs[f]? else aj):=λt ti ht=>by obtain⟨r,h1,h2,h3,h4⟩:=Gp ht;exact⟨r,h2,h3,bj.1 h r h1,h4⟩
 have open_:∀r,UN P r=ai->∃inf d,P.info? r.t=ah inf/\P.underlying r.t=ah d/\inf.size=r.ti.ks.length/\inf.bytes=r.ti.bytes/\0<r.ti.ks.length/\
   (JW r.ti.ks=ai->∃z,inf.zero=ah z/\z.cells.toList=r.ti.ks.map gP/\(r.ti.agg=ai->isAgg z=ai))/\
   ((∃fs,d= .struct fs/\r.ti.agg=ai/\uL P r.ti.ks.length fs.toList r.fs=ai)\/(r.ti.agg=ak/\((∃k,r.ti.ks=[.i k]/\d= .int k)\/(r.ti.ks=[.b]/\d= .bool)\/(r.ti.ks=[.s]/\d= .string)\/(∃e,r.ti.ks=[.l e]/\d= .slice e)\/(r.ti.ks=[.o]/\tS d=ai)))):=by
  intro r hr
  unfold UN at hr
  split at hr
  ·rename_i inf d h1 h2;simp only[aF]at hr;obtain⟨⟨⟨⟨k1,k2⟩,k3⟩,k4⟩,k5⟩:=hr;refine⟨inf,d,h1,h2,aQ k1,aQ k2,by simpa [xU]using k3,λhn=> ?_, ?_⟩
   ·rw[hn,ay]at k4;split at k4
    ·rename_i z hz;simp only[aF,dv,dt]at k4;exact⟨z,hz,Ra k4.1,λha=>by rcases k4.2 with h|h;(·rw[ha]at h;cases h);exact h⟩
    ·cases k4
   ·cases d<;>simp only[aF,dt]at k5;case struct fs=>exact .inl ⟨fs,rfl,k5⟩
    case int k=>exact .inr ⟨k5.1, .inl ⟨k,mG k5.2,rfl⟩⟩
    case bool=>exact .inr ⟨k5.1, .inr (.inl ⟨mG k5.2,rfl⟩)⟩
    case string=>exact .inr ⟨k5.1, .inr (.inr (.inl ⟨mG k5.2,rfl⟩))⟩
    case slice e=>exact .inr ⟨k5.1, .inr (.inr (.inr (.inl ⟨e,mG k5.2,rfl⟩)))⟩
    all_goals exact .inr ⟨k5.1.1, .inr (.inr (.inr (.inr ⟨mG k5.1.2,k5.2⟩)))⟩
  ·cases hr
 refine⟨λt ti ht=> ?_,λt ti ht=> ?_,λt f o n hf=>Jx hf,λt ti ht ha fs hu=> ?_,λt ti he ht w x y xs ys r hr hx hy=> ?_,λ_ _ h=>by cases h⟩
 ·obtain⟨r,rfl,rfl,hr,_⟩:=key t ti ht;obtain⟨inf,d,h1,h2,h3,h4,h5,h6,h7⟩:=open_ r hr;refine⟨inf,h1,h3,h4,h5,λhn=> ?_⟩
  obtain⟨z,z1,z2,z3⟩:=h6 hn;have hc:z.cells=(r.ti.ks.map gP).toArray:=by rw[<-z2]
  refine⟨z,z1,hc,λha=> ?_⟩
  have:=z3 ha;cases z<;>simp[isAgg]at this;rw[show _=_ from hc.symm];rfl
 ·obtain⟨r,rfl,rfl,hr,Fq⟩:=key t ti ht;obtain⟨inf,d,h1,h2,h3,h4,h5,h6,h7⟩:=open_ r hr;refine⟨d,h2,λha=> ?_,λha=> ?_⟩
  ·rcases h7 with ⟨fs,rfl,_,hb⟩|⟨hn,_⟩
   ·refine⟨fs,rfl,λf o n hf=> ?_⟩
    have hf:Bt rows r.t f=ah (o,n):=hf;rw[Fq,ha]at hf;obtain⟨fd,k1,k2⟩:=(tM hb).2 f o n hf;exact⟨fd,by simpa using k1,k2⟩
   ·rw[ha]at hn;cases hn
  ·rcases h7 with ⟨fs,_,hn,_⟩|⟨_,h|h|h|h|⟨h,hb⟩⟩
   ·rw[ha]at hn;cases hn
   ·exact .inl h
   ·exact .inr (.inl h)
   ·exact .inr (.inr (.inl h))
   ·exact .inr (.inr (.inr (.inl h)))
   ·refine .inr (.inr (.inr (.inr ⟨h, ?_⟩)));cases d<;>first|rfl|cases hb
 ·obtain⟨r,rfl,rfl,hr,Fq⟩:=key t ti ht;obtain⟨inf,d,h1,h2,h3,h4,h5,h6,h7⟩:=open_ r hr;rw[h2]at hu;cases hu;rcases h7 with ⟨fs',he,_,hb⟩|⟨hn,_⟩
  ·cases he;refine⟨r.fs,(tM hb).1,λf o n hf=> ?_⟩
   have hf:Bt rows r.t f=ah (o,n):=hf;rw[Fq,ha]at hf;exact hf
  ·rw[ha]at hn;cases hn
 ·have hm:t∈eqs:=by
   have:∀l:ax aE,lx t l=ai->t∈l:=by
    intro l;induction l with
    |nil=>intro h;cases h
    |cons a l ih=>
     intro h;simp only[lx,dv]at h;rcases h with h|h
     ·rw[aQ h];exact du
     ·exact cM _ (ih h)
   exact this _ he
  have hb:=bj.1 h2 t hm;simp only[V1,aF,dt]at hb;obtain⟨⟨b1,b2⟩,b3⟩:=hb;rw[show yw rows t=ah ti from ht]at b3;cases hu:P.underlying t with
  |none=>rw[hu]at b3;cases b3
  |some d=>
   rw[hu]at b3;cases d<;>try (cases b3;done)
   rename_i fs;have Fq:P.fieldsOf t=fs:=by unfold Program.fieldsOf;rw[hu]
   have qB:P.underlying t=ah (.struct (P.fieldsOf t)):=by rw[Fq];exact hu
   have key:(Op.equalIn 10000 t (.agg (xs.map kI).toArray) (.agg (ys.map kI).toArray)).run P w= .ok r w:=by rw[run_equalIn_agg w 9999 t _ _ qB b2,Fq];exact xA w fs.toList ti.ks [] [] xs ys r b3 rfl hx hy hr
   refine⟨?_, ?_⟩
   ·simp only[b8,run_eqGuard_agg w .eql t x y _ _ b1,bn,run_eql_struct,key]
   ·simp only[b8,run_eqGuard_agg w .neq t x y _ _ b1,bn,run_neq_struct,key]
def agv(rows:ax oh)(eqs:ax aE)(Oe:ax (aE×aE)):Tab:={QN rows eqs with Oe:=λt f=>Oe.any λp=>bh t p.1&&bh f p.2}
def flB(P:cL)(p:aE×aE):aW:=
 match P.underlying p.1 with
 |some (.struct fs)=>(match fs[p.2]? with|some fd=>(match P.underlying fd.type with|some d=>tS d|none=>ak)|none=>ak)
 |_=>ak
theorem Y7{P:cL}{t:aE}{d:TypeDesc}(h:P.underlying t=ah d)(hb:tS d=ai)(w:bB):(Go.isAgg t).run P w= .ok ak w:=by unfold Go.isAgg;rw[b8,run_underlying h,bn];cases d<;>first|rfl|cases hb
theorem SI{P:cL}{rows:ax oh}{eqs:ax aE}{Oe:ax (aE×aE)}(h:dS P (QN rows eqs))(hf:Oe.all (flB P)=ai):dS P (agv rows eqs Oe):=by
 refine⟨h.info,h.desc,h.fo,h.pl,h.eq,λt f hq fs fd hu hd w=> ?_⟩
 obtain⟨p,hp,he⟩:=List.any_eq_true.1 (show(Oe.any λp=>bh t p.1&&bh f p.2)=ai from hq);rw[aF]at he;have hb:=bj.1 hf p hp;unfold flB at hb;rw[<-aQ he.1,<-aQ he.2,hu]at hb;dsimp only at hb;rw[hd]at hb;dsimp only at hb;split at hb
 ·rename_i d h2;exact Y7 h2 hb w
 ·cases hb
end Go.FG

