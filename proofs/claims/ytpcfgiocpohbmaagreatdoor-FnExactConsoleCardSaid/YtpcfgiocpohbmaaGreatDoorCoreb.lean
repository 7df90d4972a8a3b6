/- An evaluator for the part of the language that this program uses, proved sound over the model: states told as values and lists; what an evaluation tells, the call does. No condition. -/
import Derived.Calls
import Derived.Orders
import Derived.Below
import Derived.Laws.AppendOwn
import Derived.Laws.Slices
import Derived.Laws.StructEq
import Derived.Laws.Tables
import Derived.Laws.MakeOwn
import Derived.Laws.IdiomStrings
import Derived.Laws.BytesArg
import Derived.Laws.NewFold
import Derived.SizedLaws
import Derived.Carry
import Derived.ProofKit
import Derived.KernelRfl
import Derived.Laws.Strings
import Derived.Sort.Grow
import Derived.Deep.Draws
import Derived.Test.YtpcfgiocpohbmaaGreatDoorCorea
set_option linter.unusedVariables false
set_option linter.unusedSimpArgs false
set_option maxRecDepth 100000
set_option autoImplicit true
set_option relaxedAutoImplicit true
open Array renaming ext'->sb,length_toList->dn,getElem?_toList->cR,getElem?_eq_some_iff->dr,getElem?_extract->dS,getElem?_map->Mm,getElem?_append_left->CW,toList_map->zm,eq_empty_of_size_eq_zero->zl,getD_eq_getD_getElem?->eu,getElem?_replicate->CX,replicate->zJ
open Bool renaming true->ao,false->aq,or_true->Ic,and_eq_true->aM,and_true->gh,false_eq_true->db,not_eq_true'->dt,not_eq_false'->p6,or_eq_true->dC,and_false->vv,not_false->bG,true_or->Mn,or_eq_false_iff->h_
open Decidable renaming decide->ah
open Go renaming Program->de,World->cB,Oper->gK,Value->bP,IntKind->sn,Operand->eQ
open Go.Act renaming put->S1
open Go.Builtin renaming firstCells->e7,lenOf->o5,append_->gW,zeroCells->fC
open Go.DataW renaming weightsAll->yU,trod->Cf,weights->uQ
open Go.Exit renaming inBlock->Gu
open Go.Instr renaming makeFunc->S2,loadAt->xC,sureAddr->tZ
open Go.IntKind renaming u8->ba
open Go.Op renaming eqFields->Mp
open Go.Oper renaming wp->Mq,upon_enter->S3
open Go.Region renaming wanted->uy,binds->me,ready->vE
open Go.Result renaming andThen_ok->bH
open Go.Sem renaming run_bind->cg,run_pure->cU,run->mI,run_ite->mD
open Go.World renaming cell?->Mr
open List renaming map_append->cO,map_cons->e9,map_nil->uU,mem_append->bc,mem_map->cN,mem_singleton->a_,mem_append_left->bY,mem_append_right->bS,getElem?_append_left->dj,getElem?_append_right->cY,length_append->bW,eq_nil_of_length_eq_zero->eO,mem_of_getElem?->aU,length_map->bJ,getElem?_eq_some_iff->aW,mem_cons->cm,getElem?_of_mem->bX,getElem_mem->bw,map_toArray->Cw,mem_cons_self->cD,mem_cons_of_mem->cu,not_mem_nil->ld,getElem?_cons_succ->dD,mem_flatMap->bM,length_eq_one_iff->gE,getElem?_cons_zero->rQ,flatMap_cons->xD,nodup_append->ej,getElem?_map->bI,nodup_cons->j_,getD_eq_getElem?_getD->dK,nil_append->eJ,all_eq_true->bz,map_map->jk,append_nil->cZ,cons_append->nD,length_singleton->bu,head?_drop->Xm,range'->iA,length_cons->bR,getElem?_eq_none->kD,append_assoc->ca,take_append_of_le_length->oG,take_length->cE,singleton_append->uc,length_nil->jz,getElem?_take->dP,countP_cons->kU,range->cT,range_eq_range'->TT,find?_eq_none->TP,find?_some->D',length_set->b9,mem_or_eq_of_mem_set->jl,mem_filter->da,mapM_cons->TR,getD_cons_succ->uS,length_take->du,length_drop->gz,getElem?_drop->dO,getElem?_eq_getElem->e8
open List.cons renaming injEq->Xl
open Nat renaming lt_of_lt_of_le->iB,mul_le_mul_right->b5,add_mul->dc,add_assoc->jL,eq_of_beq_eq_true->aX,le_refl->bT,zero_le->bA,div_lt_iff_lt_mul->wX,mod_lt->Ea,div_add_mod->HY,mul_comm->Gv,zero_add->bV,add_comm->iL,beq->bK,le_of_ble_eq_true->cM,add_zero->zQ,blt->pK,blt_eq->sd,sub_self->pf,lt_or_ge->qy,le_trans->cf,ble_eq_true_of_le->uV,ble->eS,sub_zero->og,eq_zero_or_pos->Ci
open Option renaming some->ai,none->aj,getD_some->xE
open Option.some renaming inj->aJ,injEq->jf
open Prod.mk renaming inj->bU,injEq->iS
open _root_ renaming Nat->aN,Bool->aY,List->aE,if_pos->bm,if_neg->bh,absurd->cJ,Int->ay,decide_eq_true_eq->bf,Array->eF,Option->aA,cond_true->aw,cond_false->ax,decide_eq_true->aC,decide_eq_false->aF,of_decide_eq_true->cL,congrArg->ic,ByteArray->au
namespace Go.FG
section
variable {P:de} {E:fW} {σ:St} {a:Act} {w:cB} {c:gn} {o:gK} {nm:aN} {e:sj}
structure Ib (E:fW) (σ:St) (w:cB) (c:gn) (te:TI) (v:bP) (exb:aY) (xs:Row) (b:aE aN) (p:Pl) (g:aN->aN->Pl):Prop where
 v:v=j5 p
 sz:p.sz=te.ks.length
 sh:∀y∈xs,y.map CV.kd=te.ks
 at_:iO w p xs (λi j u x=>if exb=ao then XC E w g i j u x else Holds E w c.K u x)
 lR:exb=ao->D_ p g xs
 own:p.nil=aq->∃nm ob,nm∈b/\σ (c6 nm)=.o ob/\fu c nm ob p.blk
 owni:exb=ao->∀i j,fT xs i j->(g i j).nil=aq->∃nm ob,nm∈b/\σ (c6 nm)=.o ob/\fu c nm ob (g i j).blk
 kn:∀nm∈b,∃ob,σ (c6 nm)=.o ob
def K1(σ:St)(c:gn)(D:aE (aN×Obj))(q:aN):Prop:=c.K q\/∃n e xs ob,(n,Obj.fL e xs)∈D/\σ (c6 n)=.o ob/\fu c n ob q
structure qH (E:fW) (σ:St) (w:cB) (c:gn) (te:TI) (b:aE aN) (exx:aY) (ys:Row) (D:aE (aN×Obj)) (news:aE bP) (gx:aN->aN->Pl):Prop where
 sh:∀y∈ys,y.map CV.kd=te.ks
 cellX:exx=ao->∀(i:aN) (y:aE CV) (j:aN) (x:CV),ys[i]? =ai y->y[j]? =ai x->∃u:bP,news[i*te.ks.length+j]? =ai u/\XC E w gx i j u x
 cellH:exx=aq->∀(i:aN) (y:aE CV) (j:aN) (x:CV),ys[i]? =ai y->y[j]? =ai x->∃u:bP,news[i*te.ks.length+j]? =ai u/\Holds E w (K1 σ c D) u x
 own:exx=ao->∀i j,fT ys i j->(gx i j).nil=aq->∃n ob,(n,Obj.dead)∈D/\σ (c6 n)=.o ob/\fu c n ob (gx i j).blk
 one:exx=ao->∀i j i' j',fT ys i j->fT ys i' j'->(gx i j).nil=aq->(gx i' j').nil=aq->(gx i j).blk=(gx i' j').blk->i=i'/\j=j'
 D:∀n x,(n,x)∈D->n∉b/\(∃ob,σ (c6 n)=.o ob)/\(x=.dead\/(exx=aq/\∃e xs,x=.fL e xs/\Holds E w (K1 σ c D) (j5 (c.P n)) (.l e xs)/\(c.P n).n=xs.length/\∃ti,E.ty e=ai ti/\(c.P n).sz=ti.ks.length))
theorem Ds(A:Ok E σ w c)(xk:e6 E σ a w c)(hd:∀d,o.dst=ai d->d<a.tmps.size)(ht:E.ty el=ai te)(hf:σ (c6 r)=.jw)(xn:r<900000000)
  (R:Ib E σ w c te v h5 xs b p g) (hM:qH E σ w c te b h9 ys D2 x9 gx) (X:aap w w' p p' ys.length x9) (hr:(execOp a.eval o).run P w=.ok (.value (j5 p')) w'):
  gw P E σ a w c o (nR b++(jV D2++[(c6 r,eW.o (.row el (h5&&h9) (xs++ys)))])++dw o (.v aq [.own r])):=by
 have hz:(h5&&h9)=ao->h5=ao/\h9=true:=λh=>by simpa using h
 generalize hw:(h5&&h9)=t at hz;let D:aE (aN×Obj):=Dh b++(D2++[(r,.row el t (xs++ys))])
 have hD:nR b++(jV D2++[(c6 r,eW.o (.row el t (xs++ys)))])=jV D:=by rw[Bb];simp only[D,jV,cO,e9,uU]
 rw[hD];have mem:∀m x,(m,x)∈D->(m∈b/\x=.dead)\/(m,x)∈D2\/(m=r/\x=.row el t (xs++ys)):=by
  intro m x hm;rcases bc.1 hm with hm|hm
  ·obtain⟨q,hq,h⟩:=cN.1 hm;cases h;exact .inl ⟨hq,rfl⟩
  ·rcases bc.1 hm with hm|hm
   ·exact .inr (.inl hm)
   ·rw[a_]at hm;cases hm;exact .inr (.inr ⟨rfl,rfl⟩)
 have S:∀m,m∈b->tX D m:=λm hm=>⟨.dead,bY _ (cN.2 ⟨m,hm,rfl⟩)⟩
 have h6:∀m x,(m,x)∈D2->tX D m:=λm x hm=>⟨x,bS _ (bY _ hm)⟩
 have xb:tX D r:=⟨_,bS _ (bS _ (a_.2 rfl))⟩
 have F1:p'.nil=aq->p'.blk=w.heap.size\/∃m ob,m∈b/\σ (c6 m)=.o ob/\fu c m ob p'.blk:=by
  intro f;rcases X.blk f with ⟨Q,V⟩|h
  ·rw[V];exact .inr (R.own Q)
  ·exact .inl h
 have x3:∀n x ob q,(n,x)∈D2->σ (c6 n)=.o ob->fu c n ob q->¬(p'.nil=aq/\q=p'.blk):=by
  rintro n x ob q s x4 z ⟨f,rfl⟩;have xg:=Own.lt A ⟨n,ob,x4,z⟩;rcases F1 f with h|⟨m,ob',Q,V,h3⟩
  ·omega
  ·have:=A.sep n ob m ob' _ x4 V z h3;subst this;exact(hM.D n x s).1 Q
 have xh:∀q,c.K q->¬(p'.nil=aq/\q=p'.blk):=by
  rintro q hq ⟨f,rfl⟩;have xg:=A.lt _ hq;rcases F1 f with h|⟨m,ob',Q,V,h3⟩
  ·omega
  ·exact A.kk m ob' _ V h3 hq
 have xa:h5=ao->∀i j,fT xs i j->(g i j).nil=aq->¬(p'.nil=aq/\(g i j).blk=p'.blk):=by
  rintro s i j M f ⟨k,B⟩;obtain⟨m,ob,q1,C,N⟩:=R.owni s i j M f;have xg:=Own.lt A ⟨m,ob,C,N⟩;rcases X.blk k with ⟨Q,V⟩|h
  ·exact(R.lR s).out i j M f Q (B.trans V)
  ·omega
 let K':aN->Prop:=λq=>c.K q\/(t=aq/\jM (tX D) σ c q/\¬(p'.nil=aq/\q=p'.blk))
 have x5:∀q,K' q->q<w.heap.size:=by
  rintro q (h|⟨_,h,_⟩)
  ·exact A.lt q h
  ·exact Own.lt A h.own
 have x6:∀q,K' q->¬(p'.nil=aq/\q=p'.blk):=by
  rintro q (h|⟨_,_,h⟩)
  ·exact xh q h
  ·exact h
 have F3:∀q,K' q->w'.heap[q]? =w.heap[q]? :=λq hq=>X.old q (x5 q hq) (λf B=>x6 q hq ⟨f,B⟩);have F4:t=aq->∀q,K1 σ c D2 q->K' q:=by
  rintro I q (h|⟨n,e',zs,ob,Q,V,h3⟩)
  ·exact .inl h
  ·exact .inr ⟨I,⟨n,ob,h6 n _ Q,V,h3⟩,x3 n _ ob q Q V h3⟩
 have F5:t=aq->h5=ao->∀i j,fT xs i j->(g i j).nil=aq->K' (g i j).blk:=by intro I s i j M f;obtain⟨m,ob,q1,C,N⟩:=R.owni s i j M f;exact .inr ⟨I,⟨m,ob,S m q1,C,N⟩,xa s i j M f⟩
 have F6:t=aq->h9=ao->∀i j,fT ys i j->(gx i j).nil=aq->K' (gx i j).blk:=by intro I s i j M f;obtain⟨n,ob,q1,C,N⟩:=hM.own s i j M f;exact .inr ⟨I,⟨n,ob,h6 n _ q1,C,N⟩,x3 n _ ob _ q1 C N⟩
 let G':aN->aN->Pl:=λi j=>if i<xs.length then g i j else gx (i-xs.length) j
 have hc:∀i j,i<xs.length->G' i j=g i j:=λi j h=>bm h;have ho:∀i j,¬i<xs.length->G' i j=gx (i-xs.length) j:=λi j h=>bh h;have h4:∀i j,i<xs.length->fT (xs++ys) i j->fT xs i j:=by rintro i j hi ⟨y,x,Q,V,h3⟩;rw[dj hi]at Q;exact⟨y,x,Q,V,h3⟩
 have h8:∀i j,¬i<xs.length->fT (xs++ys) i j->fT ys (i-xs.length) j:=by rintro i j hi ⟨y,x,Q,V,h3⟩;rw[cY (by omega)]at Q;exact⟨y,x,Q,V,h3⟩
 let c':gn:=⟨λm=>if m=r then p' else c.P m,λm=>if m=r then G' else c.G m,K'⟩
 have hP:c'.P r=p':=bm rfl;have hG:c'.G r=G':=bm rfl;have xd:ji σ c c':=λm hm=>by
  have:m≠r:=by rintro rfl;rcases hm with h|h;exact h hf;omega
  exact⟨bh this,bh this⟩
 have x8:t=ao->∀i j,fT (xs++ys) i j->(G' i j).nil=aq->¬(p'.nil=aq/\(G' i j).blk=p'.blk)/\jM (tX D) σ c (G' i j).blk:=by
  intro I i j M f;obtain⟨r1,r2⟩:=hz I;by_cases hi:i<xs.length
  ·rw[hc i j hi]at f⊢;obtain⟨m,ob,q1,C,N⟩:=R.owni r1 i j (h4 i j hi M) f;exact⟨xa r1 i j (h4 i j hi M) f,m,ob,S m q1,C,N⟩
  ·rw[ho i j hi]at f⊢;obtain⟨n,ob,q1,C,N⟩:=hM.own r2 _ j (h8 i j hi M) f;exact⟨x3 n _ ob _ q1 C N,n,ob,h6 n _ q1,C,N⟩
 have x7:∀y∈xs++ys,y.map CV.kd=te.ks:=λy hy=>(bc.1 hy).elim (R.sh y) (hM.sh y);refine I5 A xk hd (D:=D) (c':=c') (w':=w') xd ?_ ?_ ?_ ?_ (λq h=>.inl h) ?_ (λq hq=>iB (x5 q hq) X.size) ?_ X.size X.os X.tape X.output ?_ ?_ hr
 ·intro m x hm;rcases mem m x hm with ⟨_,rfl⟩|h7|⟨rfl,rfl⟩
  ·trivial
  ·obtain⟨_,⟨ob,x4⟩,s⟩:=hM.D m x h7;rcases s with rfl|⟨Y,e',zs,rfl,q1,C,N⟩
   ·trivial
   ·have I:t=false:=by rw[<-hw,Y];simp
    obtain⟨a1,a2⟩:=xd m (.inl (by rw[x4];simp));show Holds E w' K' (j5 (c'.P m)) _/\(c'.P m).n=_/\_;rw[a1];exact⟨q1.frame (λq hq=>F3 q (F4 I q hq)) (F4 I),C,N⟩
  ·refine⟨⟨te,ht,by rw[hP,X.sz];exact R.sz,x7⟩,?_,λI=> ?_⟩
   ·rw[hP,hG];refine⟨by rw[X.n,R.at_.n,bW],λf=> ?_,λf=> ?_⟩
    ·obtain⟨n1,n2,n3⟩:=X.nil f;refine⟨?_,n1⟩
     have e1:xs.length=0:=by rw[<-R.at_.n];exact n2
     rw[eO e1,eO n3];rfl
    ·obtain⟨x2,m1,m2,m3,m4,m5,m6⟩:=X.mem f;refine⟨x2,m1,m2,m3,m4,λi y j x hy s=> ?_⟩
     have hj:j<te.ks.length:=by rw[<-x7 y (aU hy),bJ];exact(aW.1 s).1
     by_cases hi:i<xs.length
     ·rw[dj hi]at hy;have xc:p.nil=false:=by
       cases hq:p.nil with
       |false=>rfl
       |true=>have:=(R.at_.nil hq).1;subst this;simp at hi
      obtain⟨xm,k1,k2,k3,k4,k5⟩:=R.at_.mem xc;obtain⟨u,hu,I⟩:=k5 i y j x hy s;have hk:i*p.sz+j<p.n*p.sz:=by have:(i+1)*p.sz<=p.n*p.sz:=b5 _ (by rw[R.at_.n];exact hi);rw[dc]at this;rw[R.sz]at this⊢;omega
      refine⟨u,?_,?_⟩
      ·rw[X.sz,jL];refine m5 _ u hk ?_;rw[k1.cell,<-jL];exact hu
      ·cases hb:h5 with
       |true=>
        rw[hb,bm rfl]at I;cases U:t with
        |true=>
         rw[bm rfl];have x1:XC E w' g i j u x:=I.frame (λhl k=>X.old _ (by obtain⟨m,ob,_,C,N⟩:=R.owni hb i j ⟨y,x,hy,s,hl⟩ k;exact Own.lt A ⟨m,ob,C,N⟩) (λx0 B=>xa hb i j ⟨y,x,hy,s,hl⟩ k ⟨x0,B⟩));cases x with
         |l e1 z1=>simpa only[XC,hc i j hi]using x1
         |_=>exact x1
        |false=>rw[bh (by simp)];have:=tr (K:=K') I (λhl k=>F5 U hb i j ⟨y,x,hy,s,hl⟩ k);exact this.frame F3 (λ_ h=>h)
       |false=>
        have U:t=false:=by rw[<-hw,hb];rfl
        rw[hb,bh (by simp)]at I;rw[U,bh (by simp)];exact I.frame (λq hq=>F3 q (.inl hq)) (λq hq=>.inl hq)
     ·rw[cY (by omega)]at hy;have xl:i-xs.length<ys.length:=(aW.1 hy).1;have hk:(i-xs.length)*p.sz+j<ys.length*p.sz:=by have:(i-xs.length+1)*p.sz<=ys.length*p.sz:=b5 _ xl;rw[dc]at this;rw[R.sz]at this⊢;omega
      have xf:p'.off+i*p'.sz+j=p'.off+p.n*p.sz+((i-xs.length)*p.sz+j):=by
       rw[X.sz,R.at_.n];have:i*p.sz=xs.length*p.sz+(i-xs.length)*p.sz:=by rw[<-dc];congr 1;omega
       omega
      have got:∀u,x9[(i-xs.length)*te.ks.length+j]? =ai u->x2[p'.off+i*p'.sz+j]? =ai u:=λu hu=>by rw[xf,m6 _ hk,R.sz];exact hu
      cases Y:h9 with
      |true=>
       obtain⟨u,hu,hX⟩:=hM.cellX Y _ y j x hy s;refine⟨u,got u hu,?_⟩
       cases U:t with
       |true=>
        rw[bm rfl];have x1:XC E w' gx (i-xs.length) j u x:=hX.frame (λhl k=>X.old _ (by obtain⟨n,ob,_,C,N⟩:=hM.own Y _ j ⟨y,x,hy,s,hl⟩ k;exact Own.lt A ⟨n,ob,C,N⟩) (λx0 B=>by obtain⟨n,ob,q1,C,N⟩:=hM.own Y _ j ⟨y,x,hy,s,hl⟩ k;exact x3 n _ ob _ q1 C N ⟨x0,B⟩));cases x with
        |l e1 z1=>simpa only[XC,ho i j hi]using x1
        |_=>exact x1
       |false=>rw[bh (by simp)];have:=tr (K:=K') hX (λhl k=>F6 U Y _ j ⟨y,x,hy,s,hl⟩ k);exact this.frame F3 (λ_ h=>h)
      |false=>
       have U:t=false:=by rw[<-hw,Y];simp
       obtain⟨u,hu,hH⟩:=hM.cellH Y _ y j x hy s;refine⟨u,got u hu,?_⟩
       rw[U,bh (by simp)];exact hH.frame (λq hq=>F3 q (F4 U q hq)) (F4 U)
   ·rw[hP,hG];refine⟨λi j M f xc B=>(x8 I i j M f).1 ⟨xc,B⟩,λi j i' j' M ha f k B=> ?_⟩
    obtain⟨r1,r2⟩:=hz I;have hv:∀i j i' j',i<xs.length->¬i'<xs.length->fT (xs++ys) i j->fT (xs++ys) i' j'->(G' i j).nil=aq->(G' i' j').nil=aq->(G' i j).blk≠(G' i' j').blk:=by intro i j i' j' hi O M ha f k B;rw[hc i j hi]at f B;rw[ho i' j' O]at k B;obtain⟨m,ob,q1,C,N⟩:=R.owni r1 i j (h4 i j hi M) f;obtain⟨n,ob',s1,s2,s3⟩:=hM.own r2 _ j' (h8 i' j' O ha) k;rw[B]at N;have:=A.sep m ob n ob' _ C s2 N s3;subst this;exact(hM.D m _ s1).1 q1
    by_cases hi:i<xs.length
    ·by_cases O:i'<xs.length
     ·rw[hc i j hi]at f B;rw[hc i' j' O]at k B;exact(R.lR r1).one i j i' j' (h4 i j hi M) (h4 i' j' O ha) f k B
     ·exact cJ B (hv i j i' j' hi O M ha f k)
    ·by_cases O:i'<xs.length
     ·exact cJ B.symm (hv i' j' i j O hi ha M k f)
     ·rw[ho i j hi]at f B;rw[ho i' j' O]at k B;have:=hM.one r2 _ j _ j' (h8 i j hi M) (h8 i' j' O ha) f k B;exact⟨by omega,this.2⟩
 ·intro m x q hm z;rcases mem m x hm with ⟨_,rfl⟩|h7|⟨rfl,rfl⟩
  ·exact z.elim
  ·obtain⟨_,_,s⟩:=hM.D m x h7;rcases s with rfl|⟨_,e',zs,rfl,_⟩
   ·exact z.elim
   ·exact z.elim
  ·rcases z with ⟨f,rfl⟩|⟨I,i,j,M,f,rfl⟩
   ·rw[hP]at f⊢;refine⟨?_,λhk=>x6 _ hk ⟨f,rfl⟩⟩
    rcases F1 f with h|⟨m,ob,Q,V,h3⟩
    ·right;omega
    ·exact .inl ⟨m,ob,S m Q,V,h3⟩
   ·rw[hG]at f⊢;obtain⟨q1,C⟩:=x8 I i j M f;refine⟨.inl C,?_⟩
    rintro (h|⟨h,_⟩)
    ·exact A.Fy C.own h
    ·rw[I]at h;cases h
 ·intro m x m' x' q hm xi z xe;have only:∀m x,(m,x)∈D->fu c' m x q->m=r:=by
   intro m x hm z;rcases mem m x hm with ⟨_,rfl⟩|h7|⟨rfl,rfl⟩
   ·exact z.elim
   ·obtain⟨_,_,s⟩:=hM.D m x h7;rcases s with rfl|⟨_,e',zs,rfl,_⟩
    ·exact z.elim
    ·exact z.elim
   ·rfl
  rw[only m x hm z,only m' x' xi xe]
 ·intro m zs hm;rcases mem m _ hm with ⟨_,h⟩|h7|⟨_,h⟩
  ·cases h
  ·obtain⟨_,_,s⟩:=hM.D m _ h7;rcases s with h|⟨_,e',zs,h,_⟩<;>cases h
  ·cases h
 ·rintro q (h|⟨_,h,_⟩)
  ·exact .inl h
  ·exact .inr (.inl h)
 ·intro q hq xj;refine X.old q hq (λf B=>xj ?_);rcases F1 f with h|⟨m,ob,Q,V,h3⟩
  ·omega
  ·rw[B];exact⟨m,ob,S m Q,V,h3⟩
 ·show _=j5 (c'.P r);rw[hP]
 ·intro m hm;have:m=r:=by simpa [cF,bL]using hm
  subst this;exact .inr xb
end
end Go.FG
namespace Go.FG
theorem Hi:∀{l:aE aN} {n:aN},n∈l->ma n l=true:=by
 intro l;induction l with
 |nil=>intro n h;cases h
 |cons m r ih=>
  intro n h;rcases cm.1 h with rfl|h
  ·simp[ma]
  ·simp only[ma,ih h,Ic]
theorem pU(h:ma n l=aq):n∉l:=λhm=>by rw[Hi hm]at h;cases h
theorem Holds.one{E:fW}{w:cB}{K:aN->Prop}{u:bP}{x:CV}(h:Holds E w K u x):u.oneCell'=true:=by cases h<;>rfl
theorem Uu(p:Pl):(j5 p).oneCell'=true:=by unfold j5;split<;>rfl
theorem XC.one{E:fW}{w:cB}{G:aN->aN->Pl}{i j:aN}{u:bP}{x:CV}(h:XC E w G i j u x):u.oneCell'=true:=by
 cases x with
 |l e d=>rw[h.1];exact Uu _
 |i=>rw[show u=_ from h.1];rfl
 |b=>rw[show u=_ from h.1];rfl
 |s=>rw[show u=_ from h.1];rfl
theorem HJ:(ND x).oneCell'=true:=by cases x<;>rfl
theorem vW{α:Type}{b:aY}{x y:Rd α}(h:b=ao):(bif b then x else y)=x:=by rw[h];rfl
theorem Dd{α:Type}{b:aY}{x y:Rd α}(h:b=aq):(bif b then x else y)=y:=by rw[h];rfl
theorem r0{α β γ:Type}{σ:St}{a x:α}{b y:β}{c z:γ}(h:(Rd.ret (a,b,c)).val σ=ai (x,y,z)):a=x/\b=y/\c=z:=by obtain⟨f,d⟩:=bU (aJ h);obtain⟨d,i⟩:=bU d;exact⟨f,d,i⟩
section
variable {P:de} {E:fW} {σ:St} {a:Act} {w:cB} {c:gn} {o:gK} {nm:aN} {e:sj}
theorem A5(N:Ok E σ w c)(ht:E.ty el=ai te)(hs:ed E w c s v)(h:(vV el s).val σ=ai (t,xs,b)):
  ∃p g,Ib E σ w c te v t xs b p g:=by
 have A:∀b,(∀m∈b,∃ob,σ (c6 m)=.o ob)->v=.slice aj 0 0->∀t,Ib E σ w c te v t [] b ⟨ao,0,0,0,0,te.ks.length⟩ (Ji E te.ks):=λb M O t=>
  ⟨O,rfl,λy I=>(by cases I),⟨rfl,λ_=>⟨rfl,rfl⟩,λh=>(by cases h)⟩,λ_=>ve (λ_ _=>rfl),λh=>(by cases h),λ_ i j ⟨y,x,h,_⟩=>(by simp at h),M⟩
 cases s with
 |nl=>obtain⟨rfl,rfl,rfl⟩:=r0 h;exact⟨_,_,A [] (λm hm=>by cases hm) hs ao⟩
 |own n=>
  obtain⟨ob,hg,h⟩:=Rd.bind_some h;have hg:=dh hg;cases ob with
  |row e' ex K=>obtain⟨k,Y⟩:=cG h;have:=aX k;subst this;have h:=Y;obtain⟨rfl,rfl,rfl⟩:=r0 h;obtain⟨⟨t2,q1,U,q3⟩,R,V⟩:=N.obj n _ hg;obtain rfl:te=t2:=aJ (ht.symm.trans q1);exact⟨c.P n,c.G n,hs,U,q3,R,V,λz=>⟨n,_,by simp,hg,.inl ⟨z,rfl⟩⟩,λr i j B z=>⟨n,_,by simp,hg,.inr ⟨r,i,j,B,z,rfl⟩⟩,λm hm=>by rw[a_]at hm;subst hm;exact⟨_,hg⟩⟩
  |_=>simp at h
 |vw n lo hi=>
  obtain⟨ob,hg,h⟩:=Rd.bind_some h;have hg:=dh hg;cases ob with
  |row e' ex K=>
   obtain⟨k,Y⟩:=cG h;have:=aX k;subst this;have h:=Y;obtain⟨rfl,rfl,rfl⟩:=r0 h;obtain⟨⟨t2,q1,U,q3⟩,R,V⟩:=N.obj n _ hg;obtain rfl:te=t2:=aJ (ht.symm.trans q1);obtain⟨v1,v2,v3,v4⟩:=hs;have h5:hi<=K.length:=by rw[<-R.n];exact v2
   have Q:=lS (xs:=K) (lo:=lo) h5;have M:∀m∈[n],∃ob,σ (c6 m)=.o ob:=λm hm=>by rw[a_]at hm;subst hm;exact⟨_,hg⟩
   cases hq:(c.P n).nil with
   |true=>
    have I:=(R.nil hq).1;subst I;have C:dR ([]:Row) lo hi=[]:=by unfold dR;simp
    rw[C];exact⟨_,_,A [n] M (v3 hq) ex⟩
   |false=>
    obtain⟨d,k1,k2,k3,k4,k5⟩:=R.mem hq;rcases v4 hq with ⟨u1,O⟩|⟨u1,oo,u2,O⟩
    ·have f:∀i j,fT (dR K lo hi) i j->fT K (lo+i) j:=by
      rintro i j ⟨y,x,k,X,h3⟩;rw[tn]at k;split at k
      ·exact⟨y,x,k,X,h3⟩
      ·cases k
     refine⟨⟨aq,(c.P n).blk,(c.P n).off+lo*(c.P n).sz,(c.P n).cap-lo,hi-lo,(c.P n).sz⟩,λi j=>c.G n (lo+i) j,O,U,λy I=>q3 y (Bu I),⟨Q.symm,λh=>(by cases h),λ_=>⟨d,k1,by show hi-lo<=(c.P n).cap-lo;omega,by show(c.P n).cap-lo<=maxLen;omega,?_,λi y j x k X=> ?_⟩⟩,λr=>⟨λi j B z _=>(V r).out _ j (f i j B) z hq,λi j i' j' B h4 z h6 he=> ?_⟩,λ_=>⟨n,_,by simp,hg,.inl ⟨hq,rfl⟩⟩,λr i j B z=>⟨n,_,by simp,hg,.inr ⟨r,lo+i,j,f i j B,z,rfl⟩⟩,M⟩
     ·show(c.P n).off+lo*(c.P n).sz+((c.P n).cap-lo)*(c.P n).sz<=d.size;have:lo*(c.P n).sz+((c.P n).cap-lo)*(c.P n).sz=(c.P n).cap*(c.P n).sz:=by rw[<-dc];congr 1;omega
      omega
     ·rw[tn]at k;split at k
      ·obtain⟨u,hu,S⟩:=k5 (lo+i) y j x k X;refine⟨u,?_,?_⟩
       ·show d[(c.P n).off+lo*(c.P n).sz+i*(c.P n).sz+j]? =ai u;rw[<-hu];congr 1;rw[dc];omega
       ·split at S
        ·rename_i r;rw[bm r];cases x with
         |l e1 z1=>exact S
         |_=>exact S
        ·rename_i r;rw[bh r];exact S
      ·cases k
     ·have:=(V r).one _ j _ j' (f i j B) (f i' j' h4) z h6 he;exact⟨by omega,this.2⟩
    ·have h0:hi-lo=0:=by omega
     have C:dR K lo hi=[]:=eO (Q.trans h0);rw[C];exact⟨⟨aq,(c.P n).blk,oo,0,0,(c.P n).sz⟩,Ji E te.ks,O,U,λy I=>(by cases I),⟨rfl,λh=>(by cases h),λ_=>⟨d,k1,bT _,bA _,by show oo+0*(c.P n).sz<=d.size;rw[Nat.zero_mul];omega,λi y j x h=>(by simp at h)⟩⟩,λ_=>ve (λ_ _=>rfl),λ_=>⟨n,_,by simp,hg,.inl ⟨hq,rfl⟩⟩,λ_ i j ⟨y,x,h,_⟩=>(by simp at h),M⟩
  |_=>simp at h
 |_=>simp[vV]at h
theorem qU(O:(∃C,P.underlying u=ai (.slice C))\/P.underlying u=ai .string)(k:0<ks.length)(hs:nP w v f ks.length R)(jG:∀y∈f,y.map CV.kd=ks)(I:∀i j u x,R i j u x->u.oneCell'=ao):
  ∃d,App P w u v z ks.length f.length d/\∀(i:aN) (y:aE CV) (j:aN) (x:CV),f[i]? =ai y->y[j]? =ai x->∃u:bP,d[i*ks.length+j]? =ai u/\R i j u x:=by
 have hl:∀y∈f,y.length=ks.length:=λy S=>by rw[<-jG y S];simp
 obtain⟨A,cp,d,rfl,s,U,B⟩:=hs.list hl;have first:∀W:cB,(∀q,W.cell? q=w.cell? q)->(e7 ks.length f.length (.slice A f.length cp)).run P W=.ok d.toArray W:=by
  intro W K;rcases U with h|⟨b,oo,rfl,h⟩
  ·subst h;have M:d=[]:=eO (by rw[s];simp);subst M;cases A with
   |none=>exact run_firstCells_none _ _ _ _ _
   |some a=>exact run_firstCells_some W ks.length 0 a _ _ [] (by simp) (λj v m=>by simp at m)
  ·exact run_firstCells_some W ks.length f.length _ _ _ d s (λj v m=>by rw[K,Addr.mL];exact h j v m)
 refine⟨d,⟨.inl ⟨O,by simp[o5],first w (λ_=>rfl),first w.drew (λ_=>rfl)⟩,s,λv Q=> ?_⟩,B⟩
 obtain⟨q,hq⟩:=bX Q;have t:q<f.length*ks.length:=by rw[<-s];exact(aW.1 hq).1
 have hi:q/ks.length<f.length:=by rw[wX k];exact t
 have m:q%ks.length<f[q/ks.length].length:=by rw[hl _ (bw hi)];exact Ea _ k
 obtain⟨V,r,N⟩:=B (q/ks.length) f[q/ks.length] (q%ks.length) (f[q/ks.length][q%ks.length]) (by simp[hi]) (by simp[m]);have:q/ks.length*ks.length+q%ks.length=q:=by have:=HY q ks.length;rw[Gv]at this;exact this
 rw[this,hq]at r;cases r;exact I _ _ _ _ N
theorem QZ(hE:dY P E)(t:Ok E σ w c)(V:E.ty el=ai te)(I:0<te.ks.length)(S:(∃X,P.underlying u=ai (.slice X))\/P.underlying u=ai .string)(A:ed E w c x v)
  (h:(QY E h8 el te.ks b x).val σ=ai (hc,f,w2)):
  ∃D d M,w2=jV D/\App P w u v z te.ks.length f.length d/\qH E σ w c te b hc f D d M:=by
 have he:∀D q,c.K q->K1 σ c D q:=λD q h=>.inl h;have PL:plain te.ks=ao->∀f,nP w v f te.ks.length (λ_ _ u x=>Sc u x)->(∀y∈f,y.map CV.kd=te.ks)->∃D d M,([]:aE (aN×eW))=jV D/\App P w u v z te.ks.length f.length d/\qH E σ w c te b ao f D d M:=by
  intro hp f hs jG;obtain⟨d,n1,n2⟩:=qU (P:=P) (z:=z) S I hs jG (λi j u x r=>by rw[r.1];exact HJ);refine⟨[],d,λ_ _=>⟨ao,0,0,0,0,0⟩,rfl,n1,jG,λ_ i y j x O A=> ?_,λh=>(by cases h),λ_ i j _ k=>(by cases k),λ_ i j _ _ _ _ k=>(by cases k),λn x k=>(by cases k)⟩
  obtain⟨u,S,r⟩:=n2 i y j x O A;exact⟨_,S,tN (gF hp (jG y (aU O)) A) r⟩
 have U:plain te.ks=ao->∀f,(lV E x).val σ=ai (el,f)->∃D d M,([]:aE (aN×eW))=jV D/\App P w u v z te.ks.length f.length d/\qH E σ w c te b ao f D d M:=by intro hp f r;obtain⟨q1,q2,_⟩:=zj t A r V hp;exact PL hp f q1 q2
 have SH:∀f,nP w v f te.ks.length (λ_ _ u x=>Holds E w c.K u x)->(∀y∈f,y.map CV.kd=te.ks)->∃D d M,([]:aE (aN×eW))=jV D/\App P w u v z te.ks.length f.length d/\qH E σ w c te b aq f D d M:=by
  intro f hs jG;obtain⟨d,n1,n2⟩:=qU (P:=P) (z:=z) S I hs jG (λi j u x r=>r.one);refine⟨[],d,λ_ _=>⟨ao,0,0,0,0,0⟩,rfl,n1,jG,λh=>(by cases h),λ_ i y j x O A=> ?_,λh=>(by cases h),λh=>(by cases h),λn x k=>(by cases k)⟩
  obtain⟨u,S,r⟩:=n2 i y j x O A;exact⟨_,S,r.frame (λ_ _=>rfl) (he [])⟩
 have ha:∀f,Holds E w c.K v (.l el f)->∃D d M,([]:aE (aN×eW))=jV D/\App P w u v z te.ks.length f.length d/\qH E σ w c te b aq f D d M:=by intro f Y;obtain⟨q1,q2⟩:=yN V Y;exact SH f q1 q2
 have HP:∀f,Holds E w c.K v (.l el f)->(lV E x).val σ=ai (el,f)->∃D d M,([]:aE (aN×eW))=jV D/\App P w u v z te.ks.length f.length d/\qH E σ w c te b (plain te.ks) f D d M:=by
  intro f Y r;cases hp:plain te.ks with
  |true=>exact U hp f r
  |false=>exact ha f Y
 have FZ:∀n xs lo hi,σ (c6 n)=.o (.row el ao xs)->n∉b->u6 (c.P n) lo hi v->∃D d M,[(c6 n,eW.o (.fL el xs))]=jV D/\App P w u v z te.ks.length (dR xs lo hi).length d/\qH E σ w c te b aq (dR xs lo hi) D d M:=by
  intro n xs lo hi hg N C;obtain⟨⟨t2,q1,q2,q3⟩,q4,q5⟩:=t.obj n _ hg;obtain rfl:te=t2:=aJ (V.symm.trans q1);obtain⟨t3,r1,r2,r3⟩:=wF t hg C;obtain rfl:te=t3:=aJ (V.symm.trans r1);let D:aE (aN×Obj):=[(n,.fL el xs)]
  have hf:∀i j,fT xs i j->(c.G n i j).nil=aq->K1 σ c D (c.G n i j).blk:=λi j Y k=>.inr ⟨n,el,xs,_,a_.2 rfl,hg,.inr ⟨rfl,i,j,Y,k,rfl⟩⟩;have h6:iO w (c.P n) xs (λ_ _ u x=>Holds E w (K1 σ c D) u x):=q4.frame (λ_=>rfl) (λi j y x u O A r=>by rw[bm rfl]at r;exact tr r (λhl k=>hf i j ⟨y,x,O,A,hl⟩ k));have h7:nP w v (dR xs lo hi) te.ks.length (λ_ _ u x=>Holds E w (K1 σ c D) u x):=by have:=JM h6 C;rwa[q2]at this
  obtain⟨d,n1,n2⟩:=qU (P:=P) (z:=z) S I h7 r2 (λi j u x r=>r.one);refine⟨D,d,λ_ _=>⟨ao,0,0,0,0,0⟩,rfl,n1,r2,λh=>(by cases h),λ_=>n2,λh=>(by cases h),λh=>(by cases h),λm y hm=> ?_⟩
  rw[a_]at hm;cases hm;exact⟨N,⟨_,hg⟩,.inr ⟨rfl,el,xs,rfl,ny V q2 q3 h6 (λk=>.inr ⟨n,el,xs,_,a_.2 rfl,hg,.inl ⟨k,rfl⟩⟩),q4.n,te,V,q2⟩⟩
 cases x with
 |s s=>
  obtain⟨B,h⟩:=cG h;obtain⟨rfl,rfl,rfl⟩:=r0 h;have hk:te.ks=[.i .u8]:=by
   unfold u8s at B;split at B
   ·assumption
   ·cases B
  have C:v=.string s:=A.1;subst C;refine⟨[],(s.data.map λb=>Value.int .u8 b.toNat).toList,λ_ _=>⟨ao,0,0,0,0,0⟩,rfl,⟨.inl ⟨S,?_,?_,?_⟩,?_,?_⟩,by rw[hk];exact HB s,λ_ i y j x O A=> ?_,λh=>(by cases h),λ_ i j _ k=>(by cases k),λ_ i j _ _ _ _ k=>(by cases k),λn x k=>(by cases k)⟩
  ·simp[o5,lD]
  ·simp[e7,lD];apply sb;simp
  ·simp[e7,lD];apply sb;simp
  ·rw[hk,lD];simp
  ·intro v C;have C:∃b,b∈s.data/\Value.int ba (b.toNat:ay)=v:=by simpa using C
   obtain⟨b,_,rfl⟩:=C;rfl
  ·obtain⟨rfl,b,hb,rfl⟩:=FP O A;refine⟨.int .u8 b.toNat,?_,rfl,trivial⟩
   rw[hk];simp[hb]
 |nl=>obtain⟨rfl,rfl,rfl⟩:=r0 h;have C:v=.slice aj 0 0:=A;subst C;refine⟨[],[],λ_ _=>⟨ao,0,0,0,0,0⟩,rfl,⟨.inl ⟨S,by simp[o5],run_firstCells_none _ _ _ _ _,run_firstCells_none _ _ _ _ _⟩,by simp,λv C=>(by cases C)⟩,λy O=>(by cases O),λ_ i y j x O=>(by simp at O),λh=>(by cases h),λ_ i j _ k=>(by cases k),λ_ i j _ _ _ _ k=>(by cases k),λn x k=>(by cases k)⟩
 |sh X xs=>obtain⟨B,Q⟩:=cG h;have:=aX B;subst this;have h:=Q;obtain⟨rfl,rfl,rfl⟩:=r0 h;exact HP xs A rfl
 |own n=>
  obtain⟨ob,hg,h⟩:=Rd.bind_some h;have hg:=dh hg;have C:v=j5 (c.P n):=A;cases ob with
  |row X ex xs=>
   obtain⟨B,Q⟩:=cG h;have:=aX B;subst this;have h:=Q;have h4:(lV E (.own n)).val σ=ai (el,xs):=by simp[lV,i6,hg]
   have h5:u6 (c.P n) 0 xs.length v:=by rw[C];exact vi t hg
   cases hp:plain te.ks with
   |true=>rw[vW (by rw[hp];rfl)]at h;obtain⟨rfl,rfl,rfl⟩:=r0 h;rw[hp];exact U hp xs h4
   |false=>
    cases ex with
    |false=>rw[vW (by simp)]at h;obtain⟨rfl,rfl,rfl⟩:=r0 h;rw[hp];obtain⟨t3,r1,r2,r3⟩:=wF t hg h5;obtain rfl:te=t3:=aJ (V.symm.trans r1);rw[qw]at r2 r3;exact SH xs (r3.imp λi y j x u _ _ r=>by simpa using r) r2
    |true=>
     rw[Dd (by rw[hp];rfl)]at h;cases hm:ma n b with
     |true=>rw[hm]at h;simp at h
     |false=>
      have N:=pU hm;rw[hm]at h;cases R:E.tk h8 with
      |true=>rw[R]at h;obtain⟨rfl,rfl,rfl⟩:=r0 h;have:=FZ n xs 0 xs.length hg N h5;rwa[qw]at this
      |false=>
       rw[R]at h;obtain⟨rfl,rfl,rfl⟩:=r0 h;obtain⟨t3,r1,r2,r3⟩:=wF t hg h5;obtain rfl:te=t3:=aJ (V.symm.trans r1);rw[qw]at r2 r3;have hj:=r3.imp (R':=λi j u x=>XC E w (c.G n) i j u x) (λi y j x u _ _ r=>by rw[bm rfl,bV]at r;exact r);obtain⟨d,n1,n2⟩:=qU (P:=P) (z:=z) S I hj r2 (λi j u x r=>r.one);refine⟨[(n,.dead)],d,c.G n,rfl,n1,r2,λ_=>n2,λh=>(by cases h),λ_ i j Y k=>⟨n,_,a_.2 rfl,hg,.inr ⟨rfl,i,j,Y,k,rfl⟩⟩,λ_=>((t.obj n _ hg).lR rfl).one,λm y hm=> ?_⟩
       rw[a_]at hm;cases hm;exact⟨N,⟨_,hg⟩,.inl rfl⟩
  |fL X xs=>obtain⟨B,Q⟩:=cG h;have:=aX B;subst this;have h:=Q;obtain⟨rfl,rfl,rfl⟩:=r0 h;refine HP xs ?_ (by simp[lV,i6,hg]);rw[C];exact(t.obj n _ hg).1
  |_=>simp at h
 |vw n lo hi=>
  obtain⟨ob,hg,h⟩:=Rd.bind_some h;have hg:=dh hg;cases ob with
  |row X ex xs=>
   obtain⟨B,Q⟩:=cG h;have:=aX B;subst this;have h:=Q;have h4:(lV E (.vw n lo hi)).val σ=ai (el,dR xs lo hi):=by simp[lV,i6,hg]
   cases hp:plain te.ks with
   |true=>rw[vW (by rw[hp];rfl)]at h;obtain⟨rfl,rfl,rfl⟩:=r0 h;rw[hp];exact U hp _ h4
   |false=>
    cases ex with
    |false=>rw[vW (by simp)]at h;obtain⟨rfl,rfl,rfl⟩:=r0 h;rw[hp];obtain⟨t3,r1,r2,r3⟩:=wF t hg A;obtain rfl:te=t3:=aJ (V.symm.trans r1);exact SH _ (r3.imp λi y j x u _ _ r=>by simpa using r) r2
    |true=>
     rw[Dd (by rw[hp];rfl)]at h;cases hm:ma n b with
     |true=>rw[hm]at h;simp at h
     |false=>
      have N:=pU hm;rw[hm]at h;cases R:E.tk h8 with
      |true=>rw[R]at h;obtain⟨rfl,rfl,rfl⟩:=r0 h;exact FZ n xs lo hi hg N A
      |false=>rw[R]at h;simp at h
  |fL X xs=>obtain⟨B,Q⟩:=cG h;have:=aX B;subst this;have h:=Q;obtain⟨rfl,rfl,rfl⟩:=r0 h;exact HP _ (oU t hg A) (by simp[lV,i6,hg])
  |_=>simp at h
 |lR n i j=>obtain⟨B,h⟩:=cG h;obtain⟨⟨X,xs⟩,h2,h⟩:=Rd.bind_some h;obtain⟨h3,Q⟩:=cG h;have:=aX h3;subst this;have h:=Q;obtain⟨rfl,rfl,rfl⟩:=r0 h;exact U B xs h2
 |_=>simp[QY]at h
theorem Nf(hE:dY P E)(M:Ok E σ w c)(S:e6 E σ a w c)(hd:∀d,o.dst=ai d->d<a.tmps.size)(ho:o.op=.call cl)(hb:cl.callee=.builtin .append)(h:(lE E nm o).val σ=ai e)(hc:e.cond=ao):gw P E σ a w c o e.ws:=by
 simp only[lE,ho,hb]at h;split at h
 ·rename_i s x t u m N;obtain⟨ku,h1,h⟩:=Rd.bind_some h;obtain⟨sv,h2,h⟩:=Rd.bind_some h;obtain⟨xv,h3,h⟩:=Rd.bind_some h;obtain⟨es,_⟩:=iJ S h2;obtain⟨ex,_⟩:=iJ S h3;have m:=B9 m;have N:=B9 N;have U:∀{r w'},(gW #[t,u] o.type #[a.eval s,a.eval x]).run P w=.ok r w'->(execOp a.eval o).run P w=.ok (.value r) w':=by intro r w' hr;obtain⟨cs,hw⟩:=ml (P:=P) (a:=a) (w:=w) ho hb;rw[hw,m,N];simp only[builtin,Cw,e9,uU];exact iI hr
  have h9:((∃e',P.underlying u=ai (.slice e'))\/P.underlying u=ai .string)->∀b v wl,(EV E nm t sv xv).val σ=ai (b,v,wl)->b=ao->gw P E σ a w c o (wl++dw o (.v aq [v])):=by
   intro hu b v wl h B;obtain⟨ti,k1,h⟩:=Rd.bind_some h;have k1:=dE k1;split at h
   ·rename_i el X h5;obtain⟨te,I,h⟩:=Rd.bind_some h;have I:=dE I;obtain⟨K,h⟩:=cG h;obtain⟨⟨hj,xs,bl⟩,k3,h⟩:=Rd.bind_some h;obtain⟨⟨x6,ys,w2⟩,k4,h⟩:=Rd.bind_some h;obtain⟨_,k5,h⟩:=Rd.bind_some h;obtain⟨rfl,rfl,rfl⟩:=r0 h;obtain⟨hf,h6⟩:=kc k5;have ht:=oQ hE k1 X h5;obtain⟨x4,hi,h7,Y,A,hz⟩:=hE.info el te I;obtain⟨z,h8,O,_⟩:=hz K;obtain⟨p,g,f⟩:=A5 M I es k3;obtain⟨D,x5,gx,rfl,hA,hM⟩:=QZ (P:=P) (z:=z.cells) hE M I A hu ex k4;simp only[b8,aM,bf]at B;obtain⟨p',w',hr,V⟩:=s9 (P:=P) (w:=w) (ty:=o.type) (p:=p) (x:=a.eval x) ht hi h8 (by rw[O,f.sz];simp) (by rw[h7,f.sz]) (λC=>by rw[f.at_.n,(f.at_.nil C).1];rfl) (λC=>by obtain⟨R,m1,m2,m3,m4,_⟩:=f.at_.mem C;exact⟨R,m1,m2,m3,m4⟩) (by rw[f.sz];exact hA) (by rw[f.at_.n,Y];exact B.1) (by rw[f.at_.n];exact B.2);rw[<-f.v]at hr;exact Ds M S hd I hf h6 f hM V (U hr)
   ·simp at h
  have hh:∀k,P.underlying u=ai (.int k)->∀(kn:sn) (n:ay),a.eval x=.int kn n->∀b v wl,(SY E nm t sv n).val σ=ai (b,v,wl)->b=ao->gw P E σ a w c o (wl++dw o (.v aq [v])):=by
   intro k hu kn n x3 b v wl h B;obtain⟨ti,k1,h⟩:=Rd.bind_some h;have k1:=dE k1;split at h
   ·rename_i el X h5;obtain⟨te,I,h⟩:=Rd.bind_some h;have I:=dE I;obtain⟨ha,h⟩:=cG h;simp only[aM]at ha;obtain⟨K,x0⟩:=ha;obtain⟨⟨hj,xs,bl⟩,k3,h⟩:=Rd.bind_some h;obtain⟨_,k5,h⟩:=Rd.bind_some h;obtain⟨rfl,rfl,rfl⟩:=r0 h;obtain⟨hf,h6⟩:=kc k5;have ht:=oQ hE k1 X h5;obtain⟨x4,hi,h7,Y,A,hz⟩:=hE.info el te I;obtain⟨z,h8,O,_⟩:=hz K;obtain⟨p,g,f⟩:=A5 M I es k3;simp only[b8,aM,bf]at B;obtain⟨⟨c0,c1,c2⟩,c3⟩:=B;have Q:(aT te.ks n.toNat).length=n.toNat:=by simp[aT]
    have he:fC z.cells n.toNat=madeCells (te.ks.map ie).toArray (n.toNat*te.ks.length):=by rw[O];show madeCells _ (n.toNat*(te.ks.map ie).toArray.size)=_;simp
    have hA:App P w u (a.eval x) z.cells te.ks.length (aT te.ks n.toNat).length (fC z.cells n.toNat).toList:=by
     refine⟨.inr ⟨⟨k,hu⟩,⟨kn,?_⟩,?_⟩,?_,λv hv=> ?_⟩
     ·rw[x3,Q,Int.toNat_of_nonneg c0]
     ·rw[Q]
     ·rw[Q,dn,size_zeroCells,O];simp
     ·rw[he]at hv;obtain⟨q,hq⟩:=bX hv;have x2:q<n.toNat*te.ks.length:=by have:=(aW.1 hq).1;simpa [size_madeCells]using this
      have h1:q/te.ks.length<n.toNat:=by rw[wX A];exact x2
      have h2:q%te.ks.length<te.ks.length:=Ea _ A;have:=lr (n:=n.toNat) h1 (show te.ks[q%te.ks.length]? =ai te.ks[q%te.ks.length]by simp[h2]);rw[show q/te.ks.length*te.ks.length+q%te.ks.length=q by have:=HY q te.ks.length;rw[Gv]at this;exact this]at this;rw[cR,this]at hq;cases hq;cases te.ks[q%te.ks.length]<;>rfl
    have hM:qH E σ w c te bl ao (aT te.ks n.toNat) [] (fC z.cells n.toNat).toList (Ji E te.ks):=by
     refine⟨wU K _,λ_ i y j x hy hx=> ?_,λh=>(by cases h),λ_ i j _ C=>(by cases C),λ_ i j _ _ _ _ C=>(by cases C),λn x C=>(by cases C)⟩
     obtain⟨x1,k,hk,rfl⟩:=tV hy hx;refine⟨ie k,?_,Mh x0 K hk⟩
     rw[he,cR];exact lr x1 hk
    obtain⟨p',w',hr,V⟩:=s9 (P:=P) (w:=w) (ty:=o.type) (p:=p) (x:=a.eval x) ht hi h8 (by rw[O,f.sz];simp) (by rw[h7,f.sz]) (λC=>by rw[f.at_.n,(f.at_.nil C).1];rfl) (λC=>by obtain⟨R,m1,m2,m3,m4,_⟩:=f.at_.mem C;exact⟨R,m1,m2,m3,m4⟩) (by rw[f.sz];exact hA) (by rw[f.at_.n,Y,Q];exact c1) (by rw[f.at_.n,Q];exact c2);rw[<-f.v]at hr;have:=Ds M S hd I hf h6 f hM V (U hr);rw[gh]at this;exact this
   ·simp at h
  cases ku with
  |i k=>
   cases xv with
   |i k' n=>obtain⟨⟨b,v,wl⟩,h4,h⟩:=Rd.bind_some h;obtain rfl:=aJ h;exact hh k (yx hE h1) k' n ex b v wl h4 hc
   |_=>simp at h
  |l e'=>obtain⟨⟨b,v,wl⟩,h4,h⟩:=Rd.bind_some h;obtain rfl:=aJ h;exact h9 (.inl ⟨e',kg hE h1⟩) b v wl h4 hc
  |s=>obtain⟨⟨b,v,wl⟩,h4,h⟩:=Rd.bind_some h;obtain rfl:=aJ h;exact h9 (.inr (kI hE h1)) b v wl h4 hc
  |b=>simp at h
  |o=>simp at h
 ·simp at h
end
end Go.FG
namespace Go.FG
section
variable {P:de} {E:fW} {σ:St} {a:Act} {w:cB} {c:gn} {o:gK} {nm:aN} {e:sj}
theorem T_:∀{xs:aE AV} {cs:aE CV},(P3.aaY xs).val σ=ai cs->cs.length=xs.length/\∀(d:eF bP),fI E w c d xs->∀(q:aN) (x:CV),cs[q]? =ai x->∃u:bP,d[q]? =ai u/\Holds E w c.K u x:=by
 intro xs;induction xs with
 |nil=>intro cs h;obtain rfl:=aJ h;exact⟨rfl,λ_ _ q x hq=>by simp at hq⟩
 |cons a xs ih=>
  intro cs h;obtain⟨l,A,h⟩:=Rd.bind_some h;obtain⟨M,N⟩:=ih A;have f:∀r,(∀u,ed E w c a u->Holds E w c.K u r)->cs=r::l->cs.length=(a::xs).length/\∀(d:eF bP),fI E w c d (a::xs)->∀(q:aN) (x:CV),cs[q]? =ai x->∃u:bP,d[q]? =ai u/\Holds E w c.K u x:=by
   rintro r t rfl;refine⟨by simp[M],λd y q x hq=> ?_⟩
   cases q with
   |zero=>cases hq;obtain⟨u,m,B⟩:=y.2 0 a rfl;exact⟨u,m,t u B⟩
   |succ q=>
    have z:fI E w c (d.extract 1 d.size) xs:=by
     refine⟨by simp;have:=y.1;simp at this;omega,λj b I=> ?_⟩
     obtain⟨u,m,C⟩:=y.2 (j+1) b I;refine⟨u,?_,C⟩
     have:=(dr.1 m).1;rw[dS,bm (by omega),iL];exact m
    obtain⟨u,r1,r2⟩:=N _ z q x hq;refine⟨u,?_,r2⟩
    rw[dS]at r1;split at r1
    ·rw[iL];exact r1
    ·cases r1
  cases a with
  |i k n=>exact f (.i k n) (λu m=>by rw[show u=_ from m];exact .i _ _) (aJ h).symm
  |b x=>exact f (.b x) (λu m=>by rw[show u=_ from m];exact .b _) (aJ h).symm
  |s x=>exact f (.s x) (λu m=>by rw[show u=_ from m.1];exact .s _ m.2) (aJ h).symm
  |sh e xs=>exact f (.l e xs) (λu m=>m) (aJ h).symm
  |_=>simp at h
def adL(E:fW)(σ:St)(w:cB)(c:gn)(D:aE (aN×Obj))(cs:aE CV)(v:bP):Prop:=
 ∃n,v=.pointer (ai (ad (c.P n).blk 0))/\(((n,Obj.nI cs)∈D)\/σ (c6 n)=.o (.nI cs))
theorem T'(r:Ok E σ w c)(s:e6 E σ a w c):∀{xs:aE eQ} {l:aE (aE CV)} {ws:aE (aN×eW)},(P3 xs).val σ=ai (l,ws)->l.length=xs.length/\∃D,ws=jV D/\
  (∀n x,(n,x)∈D->∃cs M,x=.nI cs/\σ (c6 n)=.o (.box M)/\∀(q:aN) (y:CV),cs[q]? =ai y->∃u:bP,w.cell? (ad (c.P n).blk q)=ai u/\Holds E w c.K u y)/\
  ∀(q:aN) (cs:aE CV),l[q]? =ai cs->∃x,xs[q]? =ai x/\adL E σ w c D cs (a.eval x):=by
 intro xs;induction xs with
 |nil=>intro l ws h;obtain⟨rfl,rfl⟩:=bU (aJ h);exact⟨rfl,[],rfl,λn x h=>(by cases h),λq cs h=>by simp at h⟩
 |cons x xs ih=>
  intro l ws h;obtain⟨v,R,h⟩:=Rd.bind_some h;have i:=(iJ s R).1;split at h
  ·rename_i n;obtain⟨ob,hg,h⟩:=Rd.bind_some h;have hg:=dh hg;have i:a.eval x=.pointer (ai (ad (c.P n).blk 0)):=i;cases ob with
   |box M=>
    obtain⟨cs,S,h⟩:=Rd.bind_some h;obtain⟨⟨Y,I⟩,j,h⟩:=Rd.bind_some h;obtain⟨rfl,rfl⟩:=bU (aJ h);obtain⟨A,D,rfl,B,C⟩:=ih j;obtain⟨_,N⟩:=T_ (E:=E) (w:=w) (c:=c) S;obtain⟨f,U,t,k⟩:=r.obj n _ hg;refine⟨by simp[A],(n,.nI cs)::D,rfl,λm y hm=> ?_,λq d hq=> ?_⟩
    ·rcases cm.1 hm with hm|hm
     ·cases hm;refine⟨cs,M,rfl,hg,λq y hq=> ?_⟩
      obtain⟨u,X,V⟩:=N f ⟨t,k⟩ q y hq;exact⟨u,(U.cell q).trans X,V⟩
     ·exact B m y hm
    ·cases q with
     |zero=>cases hq;exact⟨x,rfl,n,i,.inl (cD ..)⟩
     |succ q=>obtain⟨x',z,m,O,Q⟩:=C q d hq;exact⟨x',z,m,O,Q.imp (cu _) id⟩
   |nI cs=>
    obtain⟨⟨Y,I⟩,j,h⟩:=Rd.bind_some h;obtain⟨rfl,rfl⟩:=bU (aJ h);obtain⟨A,D,rfl,B,C⟩:=ih j;refine⟨by simp[A],D,rfl,B,λq d hq=> ?_⟩
    cases q with
    |zero=>cases hq;exact⟨x,rfl,n,i,.inr hg⟩
    |succ q=>exact C q d hq
   |_=>simp at h
  ·simp at h
theorem Hq(j:Ok E σ w c)(z:e6 E σ a w c)(hd:∀d,o.dst=ai d->d<a.tmps.size)(M:o.op=.makeFunc fn first i)(h:(lE E nm o).val σ=ai e):gw P E σ a w c o e.ws:=by
 cases fn with
 |func f=>
  simp only[lE,M]at h;obtain⟨R,h⟩:=cG h;obtain⟨⟨l,ws⟩,S,h⟩:=Rd.bind_some h;obtain rfl:=aJ h;obtain⟨hl,D,rfl,r,y⟩:=T' j z S;have I:first= #[]:=by simpa using R
  let B:aN->Prop:=λb=>c.K b\/∃n x,(n,x)∈D/\b=(c.P n).blk;let c':gn:=⟨c.P,c.G,B⟩
  have k:∀b,c.K b->B b:=λb h=>.inl h;have own:∀n x,(n,x)∈D->jM (tX D) σ c (c.P n).blk:=λn x hm=>by obtain⟨cs,A,_,hg,_⟩:=r n x hm;exact⟨n,_,⟨x,hm⟩,hg,rfl⟩
  have fb:∀n cs,(n,Obj.nI cs)∈D->FB E w B (c.P n).blk cs:=λn cs hm=>by obtain⟨Q,A,t,hg,O⟩:=r n _ hm;cases t;exact⟨.inr ⟨n,_,hm,rfl⟩,λq x hq=>by obtain⟨u,X,U⟩:=O q x hq;exact⟨u,X,U.frame (λ_ _=>rfl) k⟩⟩
  refine I5 j z hd (c':=c') (w':=w) (v:=.func (.func f) #[] (i.map a.eval)) (λm _=>⟨rfl,rfl⟩) ?_ ?_ ?_ ?_ k ?_ ?_ (λb _ _=>rfl) (bT _) rfl rfl rfl ?_ ?_ ?_
  ·intro n x hm;obtain⟨cs,A,rfl,hg,O⟩:=r n x hm;exact fb n cs hm
  ·intro n x b hm C;obtain⟨cs,A,rfl,_⟩:=r n x hm;exact C.elim
  ·intro n x n' x' b hm _ C;obtain⟨cs,A,rfl,_⟩:=r n x hm;exact C.elim
  ·intro n xs hm;obtain⟨cs,A,t,_⟩:=r n _ hm;cases t
  ·rintro b (h|⟨n,x,hm,rfl⟩)
   ·exact .inl h
   ·exact .inr (.inl (own n x hm))
  ·rintro b (h|⟨n,x,hm,rfl⟩)
   ·exact j.lt b h
   ·exact Own.lt j (own n x hm).own
  ·refine⟨i.map a.eval,rfl,by simp[hl],λq cs hq=> ?_⟩
   obtain⟨x,t,n,Y,N⟩:=y q cs hq;rw[cR]at t;refine⟨(c.P n).blk,by rw[Mm,t,<-Y];rfl,?_⟩
   rcases N with hm|hg
   ·exact fb n cs hm
   ·exact FB.frame (j.obj n _ hg) (λ_ _=>rfl) k
  ·intro n V;simp[cF,bL]at V
  ·unfold execOp;rw[M,I];refine iI (s:=S2 (.func f) ((#[]:eF eQ).map a.eval) (i.map a.eval)) ?_;simp[S2]
 |_=>simp[lE,M]at h
end
end Go.FG
namespace Go.FG
theorem nz:∀{l:aE (aN×eW)} {k:aN} {c:eW},eP l k=c->c≠ .jw->(k,c)∈l:=by
 intro l;induction l with
 |nil=>intro k c h i;exact cJ h.symm i
 |cons d l ih=>
  obtain⟨k',c'⟩:=d;intro k c h i;unfold eP at h;cases f:bK k k' with
  |true=>rw[f]at h;have:=aX f;subst this;have:c'=c:=h;subst this;exact cD ..
  |false=>rw[f]at h;exact cu _ (ih h i)
theorem rC:∀{l:aE (aN×eW)} {k:aN} {c:eW},(k,c)∈l->(∀d∈l,d.2≠ .jw)->eP l k≠ .jw:=by
 intro l;induction l with
 |nil=>intro k c h;cases h
 |cons d l ih=>
  obtain⟨k',c'⟩:=d;intro k c h f;unfold eP;cases i:bK k k' with
  |true=>exact f _ (cD ..)
  |false=>
   rcases cm.1 h with h|h
   ·cases h;simp at i
   ·exact ih h (λd hd=>f d (cu _ hd))
theorem M':(k,c)∈Dv nm a↔∃e ex xs,a=.ow e ex xs/\k=c6 nm/\c=.o (.row e ex xs):=by
 cases a with
 |ow e ex xs=>simp only[Dv,a_,iS];exact⟨λ⟨d,f⟩=>⟨e,ex,xs,rfl,d,f⟩,λ⟨m,i,j,h,d,f⟩=>by cases h;exact⟨d,f⟩⟩
 |_=>simp[Dv]
theorem Bs:∀{xs:aE AA} {nm:aN} {k:aN} {c:eW},(k,c)∈sQ nm xs↔∃j e ex d,xs[j]? =ai (.ow e ex d)/\k=c6 (nm+j)/\c=.o (.row e ex d):=by
 intro xs;induction xs with
 |nil=>intro nm k c;simp[sQ]
 |cons a xs ih=>
  intro nm k c;simp only[sQ,bc,M',ih];constructor
  ·rintro (⟨e,ex,d,rfl,f,h⟩|⟨j,e,ex,d,h0,f,h⟩)
   ·exact⟨0,e,ex,d,rfl,f,h⟩
   ·exact⟨j+1,e,ex,d,h0,by rw[f];congr 1;omega,h⟩
  ·rintro ⟨j,e,ex,d,h0,f,h⟩;cases j with
   |zero=>cases h0;exact .inl ⟨e,ex,d,rfl,f,h⟩
   |succ j=>exact .inr ⟨j,e,ex,d,h0,by rw[f];congr 1;omega,h⟩
theorem gY:(k,c)∈uF p a↔(∃xs,a=.pt xs/\k=c6 (dF p 900)/\c=.o (.box (gf (dF p 0) xs)))\/∃xs j e ex f,((∃g,a=.v g xs)\/a=.pt xs)/\xs[j]? =ai (.ow e ex f)/\k=c6 (dF p j)/\c=.o (.row e ex f):=by
 have t:∀j,dF p 0+j=dF p j:=λj=>by unfold dF;omega
 cases a with
 |v g xs=>
  simp only[uF,Bs,t];constructor
  ·rintro ⟨j,e,ex,f,h⟩;exact .inr ⟨xs,j,e,ex,f,.inl ⟨g,rfl⟩,h⟩
  ·rintro (⟨d,h,_⟩|⟨d,j,e,ex,f,h,i⟩)
   ·cases h
   ·rcases h with ⟨s,h⟩|h<;>cases h;exact⟨j,e,ex,f,i⟩
 |pt xs=>
  simp only[uF,cm,Bs,t,iS];constructor
  ·rintro (⟨m,r⟩|⟨j,e,ex,f,h⟩)
   ·exact .inl ⟨xs,rfl,m,r⟩
   ·exact .inr ⟨xs,j,e,ex,f,.inr rfl,h⟩
  ·rintro (⟨d,h,m,r⟩|⟨d,j,e,ex,f,h,i⟩)
   ·cases h;exact .inl ⟨m,r⟩
   ·rcases h with ⟨s,h⟩|h<;>cases h;exact .inr ⟨j,e,ex,f,i⟩
 |fb xs=>
  simp only[uF,ld,false_iff];rintro (⟨d,h,_⟩|⟨d,j,e,ex,f,h,i⟩)
  ·cases h
  ·rcases h with ⟨s,h⟩|h<;>cases h
theorem lu:∀{l:aE gg} {q:aN} {k:aN} {c:eW},(k,c)∈I8 q l↔∃p a,l[p]? =ai a/\((k=pW (q+p)/\c=.v (rL (q+p) a))\/(k,c)∈uF (q+p) a):=by
 intro l;induction l with
 |nil=>intro q k c;simp[I8]
 |cons a l ih=>
  intro q k c;simp only[I8,cm,bc,ih,iS];constructor
  ·rintro ((⟨d,f⟩|h)|⟨p,b,h0,h⟩)
   ·exact⟨0,a,rfl,.inl ⟨d,f⟩⟩
   ·exact⟨0,a,rfl,.inr h⟩
   ·exact⟨p+1,b,h0,by rw[show q+(p+1)=q+1+p by omega];exact h⟩
  ·rintro ⟨p,b,h0,h⟩;cases p with
   |zero=>
    cases h0;rcases h with ⟨d,f⟩|h
    ·exact .inl (.inl ⟨d,f⟩)
    ·exact .inl (.inr h)
   |succ p=>exact .inr (⟨p,b,h0,by rw[show q+1+p=q+(p+1)by omega];exact h⟩)
theorem Hd:∀d∈I8 q l,d.2≠ .jw:=by
 rintro ⟨k,c⟩ h;obtain⟨p,a,_,h⟩:=lu.1 h;rcases h with ⟨_,h⟩|h
 ·rw[h];simp
 ·rcases gY.1 h with ⟨_,_,_,h⟩|⟨_,_,_,_,_,_,_,_,h⟩<;>rw[h]<;>simp
theorem Ai(h:inj args (c6 m)=.o ob):∃p a,args[p]? =ai a/\((∃xs,a=.pt xs/\m=dF p 900/\ob=.box (gf (dF p 0) xs))\/∃xs j e ex d,((∃g,a=.v g xs)\/a=.pt xs)/\xs[j]? =ai (.ow e ex d)/\m=dF p j/\ob=.row e ex d):=by
 obtain⟨p,a,h0,h⟩:=lu.1 (nz h (by simp));rw[bV]at h;refine⟨p,a,h0,?_⟩
 rcases h with ⟨h,_⟩|h
 ·exact cJ h (lM _ _)
 ·rcases gY.1 h with ⟨xs,f,i,k⟩|⟨xs,j,e,ex,d,f,i,k,r⟩
  ·cases k;exact .inl ⟨xs,f,jI i,rfl⟩
  ·cases r;exact .inr ⟨xs,j,e,ex,d,f,i,jI k,rfl⟩
theorem Hf:(∃a,args[n]? =ai a/\slot (inj args) n=rL n a)\/slot (inj args) n=.un:=by
 unfold slot;cases h:inj args (pW n)with
 |v x=>
  obtain⟨p,a,h0,h⟩:=lu.1 (nz h (by simp));rw[bV]at h;rcases h with ⟨d,f⟩|h
  ·have:=FU d;subst this;cases f;exact .inl ⟨a,h0,rfl⟩
  ·rcases gY.1 h with ⟨_,_,h,_⟩|⟨_,_,_,_,_,_,_,h,_⟩<;>exact cJ h (rB _ _)
 |o=>exact .inr rfl
 |jw=>exact .inr rfl
theorem qj(h:args[p]? =ai a):(∀xs,a=.pt xs->inj args (c6 (dF p 900))≠ .jw)/\∀xs j e ex f,((∃g,a=.v g xs)\/a=.pt xs)->xs[j]? =ai (.ow e ex f)->inj args (c6 (dF p j))≠ .jw:=by
 constructor
 ·intro xs d;exact rC (lu.2 ⟨p,a,h,.inr (gY.2 (.inl ⟨xs,d,by rw[bV],rfl⟩))⟩) Hd
 ·intro xs j e ex f d i;exact rC (lu.2 ⟨p,a,h,.inr (gY.2 (.inr ⟨xs,j,e,ex,f,d,i,by rw[bV],rfl⟩))⟩) Hd
theorem hN:∀{xs:aE AA} {nm j:aN},(gf nm xs)[j]? =(xs[j]?).map (kO (nm+j)):=by
 intro xs;induction xs with
 |nil=>intro nm j;simp[gf]
 |cons a xs ih=>
  intro nm j;cases j with
  |zero=>rfl
  |succ j=>simp only[gf,dD,ih];congr 2;omega
theorem iw:∀{xs:aE AA} {nm:aN},(gf nm xs).length=xs.length:=by
 intro xs;induction xs with
 |nil=>intro nm;rfl
 |cons a xs ih=>intro nm;simp[gf,ih]
theorem sU(h:n∈bL (kO nm a)):n=nm/\∃e ex d,a=.ow e ex d:=by cases a<;>simp[kO,bL]at h;exact⟨h,_,_,_,rfl⟩
theorem He(n:aN):mf (inj args) (slot (inj args) n):=by
 rcases Hf (args:=args) (n:=n)with ⟨a,h0,h⟩|h
 ·rw[h];intro m hm;have cells:∀xs,((∃g,a=.v g xs)\/a=.pt xs)->m∈(gf (dF n 0) xs).flatMap bL->inj args (c6 m)≠ .jw:=by
   intro xs r hm;obtain⟨v,k,hm⟩:=bM.1 hm;obtain⟨j,d⟩:=bX k;rw[hN]at d;cases f:xs[j]? with
   |none=>rw[f]at d;cases d
   |some y=>
    rw[f]at d;cases d;obtain⟨rfl,e,ex,s,rfl⟩:=sU hm;have:=(qj h0).2 xs j e ex s r f;have i:dF n 0+j=dF n j:=by unfold dF;omega
    rw[i];exact this
  cases a with
  |v g xs=>exact cells xs (.inl ⟨g,rfl⟩) hm
  |pt xs=>
   have:m=dF n 900:=by simpa [rL,cF,bL]using hm
   rw[this];exact(qj h0).1 xs rfl
  |fb xs=>simp[rL,cF,bL]at hm
 ·rw[h];intro m hm;simp[cF]at hm
theorem Fp(h:inj args (c6 nm)=.o (.box xs)):∀a∈xs,iU (inj args) a:=by
 obtain⟨p,a,h0,r⟩:=Ai h;rcases r with ⟨k,rfl,_,f⟩|⟨_,_,_,_,_,_,_,_,f⟩
 ·cases f;intro v t m hm;obtain⟨j,d⟩:=bX t;rw[hN]at d;cases i:k[j]? with
  |none=>rw[i]at d;cases d
  |some y=>
   rw[i]at d;cases d;obtain⟨rfl,e,ex,zs,rfl⟩:=sU hm;have:=(qj h0).2 k j e ex zs (.inr rfl) i;have s:dF p 0+j=dF p j:=by unfold dF;omega
   rw[s];exact this
 ·cases f
end Go.FG
namespace Go.FG
theorem tH(h:j<1000):(dF p j-900000000)/1000=p/\(dF p j-900000000)%1000=j:=by unfold dF;omega
theorem BA(p j:aN):900000000<=dF p j:=by unfold dF;omega
theorem tI(h:j<1000)(f:d<1000)(e:dF p j=dF p' d):p=p'/\j=d:=by unfold dF at e;omega
section
variable {P:de} {E:fW} {σ:St} {a:Act} {w:cB} {c:gn} {o:gK} {nm:aN} {e:sj}
theorem rA(f:Ok E σ w c)(hg:σ (c6 n)=.o (.row el ex xs))(r:∀b,c.K b->K b)(m:∀b,fu c n (.row el ex xs) b->K b):Holds E w K (j5 (c.P n)) (.l el xs):=by
 obtain⟨⟨M,z,A,B⟩,C,I⟩:=f.obj n _ hg;refine ny z A B (C.frame (λ_=>rfl) (λi j y x u t s h=> ?_)) (λd=>m _ (.inl ⟨d,rfl⟩));split at h
 ·rename_i k;exact tr h (λhl d=>m _ (.inr ⟨k,i,j,⟨y,x,t,s,hl⟩,d,rfl⟩))
 ·exact h.frame (λ_ _=>rfl) r
theorem DR(d:Ok E σ w c)(hg:σ (c6 n)=.o (.row el ex xs))(h:∀b,c.K b->K b)(f:∀b,fu c n (.row el ex xs) b->K b)(i:u6 (c.P n) lo hi v):Holds E w K v (.l el (dR xs lo hi)):=by obtain⟨⟨t,j,k,r⟩,m,s⟩:=d.obj n _ hg;exact Bp j (rA d hg h f) m.n k i
def K1r(σ:St)(c:gn)(ou:aE aN)(b:aN):Prop:=c.K b\/∃n∈ou,∃o,σ (c6 n)=.o o/\fu c n o b
def uW(T:Tab)(σ:St)(w:cB)(c:gn)(ou:aE aN)(k:Pk)(u:bP):Prop:=
 match k.src with
 |.own nm e ex=>∃xs,σ (c6 nm)=.o (.row e ex xs)/\k.a=.ow e ex xs/\u=j5 (c.P nm)
 |.no=>(∀d:gn,(∀b,K1r σ c ou b->d.K b)->∀nm,ed T w d (kO nm k.a) u)/\∀e ex xs,k.a≠ .ow e ex xs
theorem uW.mono(h:uW T σ w c ou k u)(hs:∀n∈ou,n∈d):uW T σ w c d k u:=by
 unfold uW at h⊢;split
 ·rename_i hk;rw[hk]at h;exact h
 ·rename_i hk;rw[hk]at h;exact⟨λf i=>h.1 f (λb j=>i b (j.imp id (λ⟨n,r,m⟩=>⟨n,hs n r,m⟩))),h.2⟩
theorem BN(A:Ok E σ w c){mt:aY}{x:AV}{k:Pk}{u:bP}(h:(zh E mt x).val σ=ai k)(r:ed E w c x u):uW E σ w c k.rd k u:=by
 have rd:∀{n el:aN} {ex:aY} {xs:Row},σ (c6 n)=.o (.row el ex xs)->∀m:gn,(∀b,K1r σ c [n] b->m.K b)->(∀b,c.K b->m.K b)/\∀b,fu c n (.row el ex xs) b->m.K b:=λhg m h=>⟨λb z=>h b (.inl z),λb z=>h b (.inr ⟨_,a_.2 rfl,_,hg,z⟩)⟩
 cases x with
 |i=>obtain rfl:=aJ h;exact⟨λm _ _=>r,λ_ _ _ d=>by cases d⟩
 |b=>obtain rfl:=aJ h;exact⟨λm _ _=>r,λ_ _ _ d=>by cases d⟩
 |s=>obtain rfl:=aJ h;exact⟨λm _ _=>r,λ_ _ _ d=>by cases d⟩
 |nl=>obtain rfl:=aJ h;exact⟨λm _ _=>r,λ_ _ _ d=>by cases d⟩
 |sh e xs=>obtain rfl:=aJ h;exact⟨λm t _=>Holds.frame r (λ_ _=>rfl) (λb z=>t b (.inl z)),λ_ _ _ d=>by cases d⟩
 |fn f B=>obtain rfl:=aJ h;exact⟨λm t _=>ed.frame (a:=.fn f B) r (λ_ _=>rfl) (λb z=>t b (.inl z)) (λn I=>by simp[bL]at I),λ_ _ _ d=>by cases d⟩
 |own n=>
  obtain⟨ob,hg,h⟩:=Rd.bind_some h;have hg:=dh hg;have r:u=j5 (c.P n):=r;cases ob with
  |row el ex xs=>
   cases mt with
   |true=>obtain rfl:=aJ h;exact⟨xs,hg,rfl,r⟩
   |false=>
    obtain rfl:=aJ h;refine⟨λm t _=> ?_,λ_ _ _ d=>by cases d⟩
    obtain⟨r1,r2⟩:=rd hg m t;rw[r];exact rA A hg r1 r2
  |fL el xs=>
   obtain rfl:=aJ h;refine⟨λm t _=> ?_,λ_ _ _ d=>by cases d⟩
   rw[r];exact Holds.frame (A.obj n _ hg).1 (λ_ _=>rfl) (λb z=>t b (.inl z))
  |_=>simp at h
 |vw n lo hi=>
  cases mt with
  |true=>simp[zh]at h
  |false=>
  obtain⟨ob,hg,h⟩:=Rd.bind_some h;have hg:=dh hg;cases ob with
  |row el ex xs=>
   obtain rfl:=aJ h;refine⟨λm t _=> ?_,λ_ _ _ d=>by cases d⟩
   obtain⟨r1,r2⟩:=rd hg m t;exact DR A hg r1 r2 r
  |fL el xs=>
   obtain rfl:=aJ h;refine⟨λm t _=> ?_,λ_ _ _ d=>by cases d⟩
   exact Holds.frame (oU A hg r) (λ_ _=>rfl) (λb z=>t b (.inl z))
  |_=>simp at h
 |lR n i j=>
  obtain⟨ob,hg,h⟩:=Rd.bind_some h;have hg:=dh hg;cases ob with
  |row el ex xs=>
   cases ex with
   |false=>simp at h
   |true=>
   obtain⟨te,M,h⟩:=Rd.bind_some h;have M:=dE M;split at h
   ·rename_i U C;obtain⟨t2,X,h⟩:=Rd.bind_some h;obtain⟨_,h⟩:=cG h;obtain rfl:=aJ h;obtain⟨⟨hi,r⟩,_⟩:=r;obtain⟨zs,y,t3,Q,R,Y,q4,q5,S,q7,q8⟩:=wk A hg M C hi;refine⟨λm t _=> ?_,λ_ _ _ d=>by cases d⟩
    show Holds E w m.K u (.l U (iH (av xs i j)));rw[eI Q R,r];obtain⟨r1,r2⟩:=rd hg m t;exact ny Y q5 S (q7.frame (λ_=>rfl) (λi' j' y' x' u' O N V=>jK (gF q4 (S y' (aU O)) N) V)) (λI=>r2 _ (.inr ⟨rfl,i,j,⟨y,_,Q,R,rfl⟩,I,rfl⟩))
   ·simp at h
  |_=>simp at h
 |_=>simp[zh]at h
theorem DH(m:Ok E σ w c){mt:aY}:∀{xs:aE AV} {l:aE Pk},(BO E mt xs).val σ=ai l->l.length=xs.length/\∀(j:aN) (k:Pk),l[j]? =ai k->∃x,xs[j]? =ai x/\(zh E mt x).val σ=ai k:=by
 intro xs;induction xs with
 |nil=>intro l h;obtain rfl:=aJ h;exact⟨rfl,λj k h=>by simp at h⟩
 |cons x xs ih=>
  intro l h;obtain⟨k,f,h⟩:=Rd.bind_some h;obtain⟨t,i,h⟩:=Rd.bind_some h;obtain rfl:=aJ h;obtain⟨r,s⟩:=ih i;refine⟨by simp[r],λj k' d=> ?_⟩
  cases j with
  |zero=>cases d;exact⟨x,rfl,f⟩
  |succ j=>exact s j k' d
structure zr (T:Tab) (σ:St) (w:cB) (c:gn) (ou:aE aN) (pa:Pa) (v:bP):Prop where
 len:pa.cs.length<=100
 val:pa.box=aj->∃agg,pa.arg=.v agg (pa.cs.map (·.a))/\((agg=aq/\∃k,pa.cs=[k]/\uW T σ w c ou k v)\/(agg=ao/\∃gv:eF bP,v=.agg gv/\gv.size=pa.cs.length/\∀(j:aN) (k:Pk),pa.cs[j]? =ai k->∃u:bP,gv[j]? =ai u/\uW T σ w c ou k u))
 box:∀n xs,pa.box=ai (n,xs)->pa.arg=.pt (pa.cs.map (·.a))/\v=.pointer (ai (ad (c.P n).blk 0))/\σ (c6 n)=.o (.box xs)/\pa.cs.length=xs.length/\
  (∃gv,nb w (c.P n).blk gv/\gv.size=xs.length/\∀(j:aN) (k:Pk),pa.cs[j]? =ai k->∃u:bP,gv[j]? =ai u/\uW T σ w c ou k u)/\
  ∀(j:aN) (k:Pk) (nm e:aN) (ex:aY),pa.cs[j]? =ai k->k.src=.own nm e ex->xs[j]? =ai (.own nm)
theorem Fw{pa:Pa}{j:aN}{k:Pk}(h:pa.cs[j]? =ai k):∀n∈k.rd,n∈pa.ou:=λn d=>bM.2 ⟨k,aU h,d⟩
theorem Nn{mt:aY}{x:AV}{k:Pk}(h:(zh E mt x).val σ=ai k){nm e:aN}{ex:aY}(hs:k.src=.own nm e ex):x=.own nm:=by
 cases x with
 |own n=>
  obtain⟨ob,hg,h⟩:=Rd.bind_some h;cases ob with
  |row el d xs=>
   cases mt with
   |true=>obtain rfl:=aJ h;cases hs;rfl
   |false=>obtain rfl:=aJ h;cases hs
  |fL el xs=>obtain rfl:=aJ h;cases hs
  |_=>simp at h
 |vw n lo hi=>
  cases mt with
  |true=>simp[zh]at h
  |false=>
  obtain⟨ob,hg,h⟩:=Rd.bind_some h;cases ob with
  |row=>obtain rfl:=aJ h;cases hs
  |fL=>obtain rfl:=aJ h;cases hs
  |_=>simp at h
 |lR n i j=>
  obtain⟨ob,hg,h⟩:=Rd.bind_some h;cases ob with
  |row el ex xs=>
   cases ex with
   |false=>simp at h
   |true=>
   obtain⟨te,m,h⟩:=Rd.bind_some h;split at h
   ·obtain⟨r,f,h⟩:=Rd.bind_some h;obtain⟨_,h⟩:=cG h;obtain rfl:=aJ h;cases hs
   ·simp at h
  |_=>simp at h
 |i=>obtain rfl:=aJ h;cases hs
 |b=>obtain rfl:=aJ h;cases hs
 |s=>obtain rfl:=aJ h;cases hs
 |nl=>obtain rfl:=aJ h;cases hs
 |sh=>obtain rfl:=aJ h;cases hs
 |fn=>obtain rfl:=aJ h;cases hs
 |_=>simp[zh]at h
theorem T7(d:Ok E σ w c){mt:aY}{x:SV}{pa:Pa}{v:bP}(h:(aaP E mt x).val σ=ai pa)(hl:pa.cs.length<=100)(i:iM E w c x v):zr E σ w c pa.ou pa v:=by
 have C:∀agg xs,x=.v agg xs->((BO E mt xs).bind λl=>Rd.ret (⟨.v agg (l.map (·.a)),aj,l⟩:Pa)).val σ=ai pa->zr E σ w c pa.ou pa v:=by
  rintro agg xs rfl h;obtain⟨l,I,h⟩:=Rd.bind_some h;obtain rfl:=aJ h;obtain⟨B,A⟩:=DH d I;refine⟨hl,λ_=>⟨agg,rfl,?_⟩,λn Q t=>by cases t⟩
  replace i:pO E w c agg xs v:=i;unfold pO at i;split at i
  ·rename_i y;left;obtain⟨k,rfl⟩:=gE.1 (B.trans rfl);obtain⟨R,s,hk⟩:=A 0 k rfl;cases s;exact⟨rfl,k,rfl,(BN d hk i).mono (Fw (j:=0) (pa:=⟨.v aq ([k].map (·.a)),aj,[k]⟩) rfl)⟩
  ·obtain⟨f,rfl,hs,O⟩:=i;right;refine⟨rfl,f,rfl,by rw[hs];exact B.symm,λj k r=> ?_⟩
   obtain⟨y,s,hk⟩:=A j k r;obtain⟨u,N,K⟩:=O j y s;exact⟨u,N,(BN d hk K).mono (Fw (j:=j) (pa:=⟨.v ao (l.map (·.a)),aj,l⟩) r)⟩
  ·exact i.elim
 unfold aaP at h;split at h
 ·rename_i n;obtain⟨_,h⟩:=cG h;obtain⟨ob,hg,h⟩:=Rd.bind_some h;have hg:=dh hg;cases ob with
  |box xs=>
   obtain⟨l,I,h⟩:=Rd.bind_some h;obtain rfl:=aJ h;obtain⟨B,A⟩:=DH d I;obtain⟨f,t,hs,O⟩:=d.obj n _ hg;refine⟨hl,λt=>(by cases t),λm Q M=> ?_⟩
   cases M;refine⟨rfl,i,hg,B,⟨f,t,hs,λj k r=> ?_⟩,λj k nm e ex r z=> ?_⟩
   ·obtain⟨y,s,hk⟩:=A j k r;obtain⟨u,N,K⟩:=O j y s;exact⟨u,N,(BN d hk K).mono (Fw (j:=j) (pa:=⟨.pt (l.map (·.a)),ai (n,xs),l⟩) r)⟩
   ·obtain⟨y,s,hk⟩:=A j k r;rw[s,Nn hk z]
  |_=>simp at h
 ·rename_i agg xs _;exact C _ _ rfl h
 ·simp at h
theorem Lt(h:ed T w c y u):ed T w c (V_ k y) u:=by
 unfold V_;split
 ·rename_i e;have:u=.slice aj 0 0:=h;subst this;exact .nl _ _ _
 ·exact h
theorem Hm:∀(ks:aE Ck) (xs:aE AV),(Bz ks xs).length=xs.length
 |[],[]=>rfl
 |[],_::_=>rfl
 |_::_,[]=>rfl
 |k::ks,y::r=>by simp[Bz,Hm ks r]
theorem Lu:∀(ks:aE Ck) (xs:aE AV) (j:aN) (y:AV),(Bz ks xs)[j]? =ai y->∃z,xs[j]? =ai z/\∀u,ed T w c z u->ed T w c y u
 |[],xs,j,y,h=>⟨y,by simpa [Bz]using h,λ_ h=>h⟩
 |_::_,[],j,y,h=>by simp[Bz]at h
 |k::ks,x::r,0,y,h=>by
  simp only[Bz,rQ,jf]at h;subst h;exact⟨x,rfl,λu d=>Lt d⟩
 |k::ks,x::r,j+1,y,h=>by simp only[Bz,dD]at h;exact Lu ks r j y h
theorem ab4(h:iM T w c s v):iM T w c (nlz T t s) v:=by
 unfold nlz;split
 ·exact h
 ·split
  ·rename_i ti g xs _;have h:pO T w c g xs v:=h;show pO T w c g (Bz ti.ks xs) v;unfold pO at h;split at h
   ·rename_i y;cases hk:ti.ks with
    |nil=>exact h
    |cons k ks=>
     have e:∀z,Bz (k::ks) [z]=[V_ k z]:=λz=>by cases ks<;>rfl
     rw[e];exact Lt h
   ·obtain⟨d,f,i,m⟩:=h;refine⟨d,f,by rw[Hm];exact i,λj y x=> ?_⟩
    obtain⟨z,C,B⟩:=Lu (T:=T) (w:=w) (c:=c) ti.ks _ j y x;obtain⟨u,A,r⟩:=m j z C;exact⟨u,A,B u r⟩
   ·cases h
  ·exact h
theorem PV(i:Ok E σ w c)(d:e6 E σ a w c):∀{xs:aE eQ} {p:aN} {ps:aE Pa},(PU E f u p xs).val σ=ai ps->ps.length=xs.length/\∀(q:aN) (pa:Pa),ps[q]? =ai pa->∃x,xs[q]? =ai x/\zr E σ w c pa.ou pa (a.eval x):=by
 intro xs;induction xs with
 |nil=>intro p ps h;obtain rfl:=aJ h;exact⟨rfl,λq pa h=>by simp at h⟩
 |cons x xs ih=>
  intro p ps h;obtain⟨v,k,h⟩:=Rd.bind_some h;obtain⟨pa,m,h⟩:=Rd.bind_some h;obtain⟨hl,h⟩:=cG h;obtain⟨l,r,h⟩:=Rd.bind_some h;obtain rfl:=aJ h;obtain⟨s,t⟩:=ih r;refine⟨by simp[s],λq j hq=> ?_⟩
  cases q with
  |zero=>
   cases hq;refine⟨x,rfl,T7 i m (cM hl) ?_⟩
   cases E.mode f p with
   |true=>exact(lN d k).1
   |false=>exact ab4 (lN d k).1
  |succ q=>exact t q j hq
theorem zr.mono(h:zr T σ w c ou pa v)(hs:∀n∈ou,n∈r):zr T σ w c r pa v:=by
 refine⟨h.len,λy=> ?_,λn xs y=> ?_⟩
 ·obtain⟨agg,s,t⟩:=h.val y;refine⟨agg,s,?_⟩
  rcases t with ⟨f,k,i,m⟩|⟨f,d,i,m,x⟩
  ·exact .inl ⟨f,k,i,m.mono hs⟩
  ·exact .inr ⟨f,d,i,m,λj k z=>by obtain⟨u,A,hk⟩:=x j k z;exact⟨u,A,hk.mono hs⟩⟩
 ·obtain⟨s,t,f,i,⟨d,m,x,B⟩,C⟩:=h.box n xs y;exact⟨s,t,f,i,⟨d,m,x,λj k z=>by obtain⟨u,A,hk⟩:=B j k z;exact⟨u,A,hk.mono hs⟩⟩,C⟩
end
end Go.FG
namespace Go.FG
theorem lx:∀{l:aE α},(l.flatMap f).Nodup->(∀(i j:aN) (x y:α) (z:aN),l[i]? =ai x->l[j]? =ai y->z∈f x->z∈f y->i=j)/\∀x∈l,(f x).Nodup:=by
 intro l;induction l with
 |nil=>intro _;exact⟨λi j x y z h=>by simp at h,λx h=>by cases h⟩
 |cons a l ih=>
  intro h;rw[xD]at h;obtain⟨s,t,r⟩:=ej.1 h;obtain⟨u,A⟩:=ih t;refine⟨λi j x y z hi k d m=> ?_,λx d=> ?_⟩
  ·cases i with
   |zero=>
    cases hi;cases j with
    |zero=>rfl
    |succ j=>exact cJ rfl (r z d z (bM.2 ⟨y,aU k,m⟩))
   |succ i=>
    cases j with
    |zero=>cases k;exact cJ rfl (r z m z (bM.2 ⟨x,aU hi,d⟩))
    |succ j=>rw[u i j x y z hi k d m]
  ·rcases cm.1 d with rfl|d
   ·exact s
   ·exact A x d
def loc(ps:aE Pa)(m:aN):aA aN:=
 match ps[(m-900000000)/1000]? with
 |none=>aj
 |some pa=>if(m-900000000)%1000=900 then pa.box.map (·.1)else(pa.cs[(m-900000000)%1000]?).bind λk=>match k.src with|.own nm _ _=>ai nm|.no=>aj
theorem Fu(hp:ps[p]? =ai pa)(h:pa.cs[j]? =ai k)(hs:k.src=.own nm e ex)(hl:j<900):loc ps (dF p j)=ai nm:=by obtain⟨d,f⟩:=tH (p:=p) (j:=j) (by omega);unfold loc;rw[d,f,hp];simp only;rw[bh (by omega),h];simp only[Option.bind_some,hs]
theorem Aj(hp:ps[p]? =ai pa)(h:pa.box=ai (n,xs)):loc ps (dF p 900)=ai n:=by obtain⟨d,f⟩:=tH (p:=p) (j:=900) (by omega);unfold loc;rw[d,f,hp];simp[h]
def qd(σ:St)(c:gn)(ps:aE Pa):gn:=
 ⟨λm=>match loc ps m with|some n=>c.P n|none=>⟨ao,0,0,0,0,0⟩,λm=>match loc ps m with|some n=>c.G n|none=>λ_ _=>⟨ao,0,0,0,0,0⟩,K1r σ c (ps.flatMap (·.ou))⟩
theorem tC(h:loc ps m=ai n):(qd σ c ps).P m=c.P n/\(qd σ c ps).G m=c.G n:=by unfold qd;simp only[h];exact⟨trivial,trivial⟩
section
variable {P:de} {E:fW} {σ:St} {a:Act} {w:cB} {c:gn} {o:gK} {nm:aN} {e:sj}
structure Handed (T:Tab) (σ:St) (w:cB) (c:gn) (ps:aE Pa) (fbs:aE (aE CV)) (vs:eF bP):Prop where
 size:vs.size=ps.length+fbs.length
 at_:∀(q:aN) (pa:Pa),ps[q]? =ai pa->∃v,vs[q]? =ai v/\zr T σ w c (ps.flatMap (·.ou)) pa v
 fb:∀(q:aN) (cs:aE CV),fbs[q]? =ai cs->∃b,vs[ps.length+q]? =ai (.pointer (ai (ad b 0)))/\FB T w c.K b cs
 nd:(ps.flatMap (·.tG)).Nodup
 ap:∀n∈ps.flatMap (·.tG),n∉ps.flatMap (·.ou)
def js(ps:aE Pa)(d:aE (aE CV)):aE gg:=ps.map (·.arg)++d.map gg.fb
theorem u_(h:(js ps d)[p]? =ai x):(∃pa,ps[p]? =ai pa/\x=pa.arg)\/(ps.length<=p/\∃cs,d[p-ps.length]? =ai cs/\x=.fb cs):=by
 unfold js at h;by_cases hp:p<ps.length
 ·rw[dj (by simpa using hp),bI]at h;cases hq:ps[p]? with
  |none=>rw[hq]at h;cases h
  |some pa=>rw[hq]at h;cases h;exact .inl ⟨pa,rfl,rfl⟩
 ·rw[cY (by simp;omega),bI,bJ]at h;cases hq:d[p-ps.length]? with
  |none=>rw[hq]at h;cases h
  |some cs=>rw[hq]at h;cases h;exact .inr ⟨by omega,cs,rfl,rfl⟩
theorem RD(hp:ps[p]? =ai pa)(m:pa.cs[j]? =ai k)(hl:j<900)(h:uW T σ w c (ps.flatMap (·.ou)) k u):ed T w (qd σ c ps) (kO (dF p j) k.a) u:=by
 unfold uW at h;split at h
 ·rename_i n e ex hs;obtain⟨xs,r,d,f⟩:=h;rw[d];show u=j5 ((qd σ c ps).P (dF p j));rw[(tC (Fu hp m hs hl)).1];exact f
 ·exact h.1 _ (λb i=>i) _
theorem RB(h:zr T σ w c ou pa v)(d:(∃g,pa.arg=.v g xs)\/pa.arg=.pt xs):xs=pa.cs.map (·.a)/\∀(j:aN) (k:Pk),pa.cs[j]? =ai k->∃u,uW T σ w c ou k u:=by
 cases s:pa.box with
 |none=>
  obtain⟨agg,m,t⟩:=h.val s;rw[m]at d;have:xs=pa.cs.map (·.a):=by rcases d with ⟨g,d⟩|d<;>cases d;rfl
  refine⟨this,λj k f=> ?_⟩
  rcases t with ⟨_,k',hk,hp⟩|⟨_,i,_,_,hp⟩
  ·rw[hk]at f;cases j with
   |zero=>cases f;exact⟨_,hp⟩
   |succ j=>simp at f
  ·obtain⟨u,_,r⟩:=hp j k f;exact⟨u,r⟩
 |some x=>
  obtain⟨n,y⟩:=x;obtain⟨m,_,_,_,⟨i,_,_,hp⟩,_⟩:=h.box n y s;rw[m]at d;have:xs=pa.cs.map (·.a):=by rcases d with ⟨g,d⟩|d<;>cases d;rfl
  exact⟨this,λj k f=>by obtain⟨u,_,r⟩:=hp j k f;exact⟨u,r⟩⟩
theorem wj(X:Ok E σ w c)(hh:Handed E σ w c ps S vs)(h:inj (js ps S) (c6 m)=.o ob):
  ∃n o p pa,loc ps m=ai n/\ps[p]? =ai pa/\n∈pa.tG/\σ (c6 n)=.o o/\ph E w (qd σ c ps) m ob/\(∀b,fu (qd σ c ps) m ob b->fu c n o b)/\
   ((m=dF p 900/\∃xs,pa.box=ai (n,xs))\/∃j k e ex,m=dF p j/\j<900/\pa.cs[j]? =ai k/\k.src=.own n e ex):=by
 obtain⟨p,x,h0,h⟩:=Ai h;have N:∀cs xs,x=.fb cs->¬((∃g,x=.v g xs)\/x=.pt xs):=by rintro cs xs rfl (⟨g,h⟩|h)<;>cases h
 rcases u_ h0 with ⟨pa,hp,rfl⟩|⟨_,cs,_,f⟩
 ·obtain⟨v,hv,s⟩:=hh.at_ p pa hp;rcases h with ⟨xs,f,rfl,rfl⟩|⟨xs,j,e,ex,ys,f,r,rfl,rfl⟩
  ·cases A:pa.box with
   |none=>obtain⟨agg,U,_⟩:=s.val A;rw[U]at f;cases f
   |some nx=>
    obtain⟨n,zs⟩:=nx;obtain⟨U,h2,h3,h4,⟨O,h5,h6,h7⟩,_⟩:=s.box n zs A;rw[U]at f;cases f;have d:=Aj hp A;obtain⟨z,Q⟩:=tC (σ:=σ) (c:=c) d;refine⟨n,_,p,pa,d,hp,by simp[Pa.tG,A],h3,?_,λb R=>by rw[show b=_ from R,z];rfl,.inl ⟨rfl,zs,A⟩⟩
    refine⟨O,by rw[z];exact h5,by rw[iw,bJ,h6];exact h4.symm,λj y r=> ?_⟩
    rw[hN,bI]at r;cases hk:pa.cs[j]? with
    |none=>rw[hk]at r;cases r
    |some k=>
     rw[hk]at r;cases r;obtain⟨u,I,B⟩:=h7 j k hk;have t:j<900:=by have:=(aW.1 hk).1;have:=s.len;omega
     refine⟨u,I,?_⟩
     have hn:dF p 0+j=dF p j:=by unfold dF;omega
     rw[hn];exact RD hp hk t B
  ·obtain⟨h8,B⟩:=RB s f;rw[h8,bI]at r;cases hk:pa.cs[j]? with
   |none=>rw[hk]at r;cases r
   |some k=>
    rw[hk]at r;have M:k.a=.ow e ex ys:=by simpa using r
    obtain⟨u,I⟩:=B j k hk;have t:j<900:=by have:=(aW.1 hk).1;have:=s.len;omega
    unfold uW at I;split at I
    ·rename_i n e' h9 hs;obtain⟨zs,q1,q2,q3⟩:=I;rw[M]at q2;cases q2;have d:=Fu hp hk hs t;obtain⟨z,Q⟩:=tC (σ:=σ) (c:=c) d;refine⟨n,_,p,pa,d,hp,?_,q1,?_,λb R=>by rw[lK (c:=⟨λ_=>c.P n,λ_=>c.G n,c.K⟩) (c':=qd σ c ps) ⟨z,Q⟩]at R;exact R,.inr ⟨j,k,e,ex,rfl,t,hk,hs⟩⟩
     ·refine bS _ (bM.2 ⟨k,aU hk,?_⟩);simp[Pk.tG,hs]
     ·have V:=X.obj n _ q1;obtain⟨⟨t2,r1,r2,r3⟩,r4,r5⟩:=V;refine⟨⟨t2,r1,by rw[z];exact r2,r3⟩,?_,λf=>by rw[z,Q];exact r5 f⟩
      rw[z,Q];refine r4.frame (λ_=>rfl) (λi j y x u hy f Y=> ?_);split at Y
      ·rename_i C;rw[bm C];exact Y
      ·rename_i C;rw[bh C];exact Y.frame (λ_ _=>rfl) (λb A=>.inl A)
    ·exact cJ M (I.2 _ _ _)
 ·rcases h with ⟨xs,h,_⟩|⟨xs,j,e,ex,ys,h,_⟩
  ·rw[f]at h;cases h
  ·exact cJ h (N cs xs f)
theorem enter(d:Ok E σ w c)(A:Handed E σ w c ps N vs):
  Ok E (inj (js ps N)) w (qd σ c ps)/\(∀(p:aN) (x:gg),(js ps N)[p]? =ai x->∃v,vs[p]? =ai v/\iM E w (qd σ c ps) (rL p x) v)/\
  ∀b,Own (inj (js ps N)) (qd σ c ps) b->∃n∈ps.flatMap (·.tG),∃o,σ (c6 n)=.o o/\fu c n o b:=by
 have z:∀{p:aN} {pa:Pa} {n:aN},ps[p]? =ai pa->n∈pa.tG->n∈ps.flatMap (·.tG):=λhp B=>bM.2 ⟨_,aU hp,B⟩;obtain⟨h9,ha⟩:=lx A.nd;refine⟨⟨λm ob h=> ?_,λm ob m' ob' b h h' I r=> ?_,λm ob b h I hk=> ?_,λb f=> ?_,λm xs h=>Fp h,E.gp.fr d.gp (λ_ _=>rfl) (λb f=>.inl f)⟩,λp x hx=> ?_,?_⟩
 ·obtain⟨n,o,p,pa,_,_,_,_,h,_⟩:=wj d A h;exact h
 ·obtain⟨n,o,p,pa,_,hp,B,X,_,i,h3⟩:=wj d A h;obtain⟨n',o',p',he,_,Q,C,s,_,Y,t⟩:=wj d A h';have:=d.sep n o n' o' b X s (i b I) (Y b r);subst this;have:=h9 p p' pa he n hp Q B C;subst this;rw[hp]at Q;cases Q;have h4:=ha pa (aU hp);unfold Pa.tG at h4;obtain⟨_,m2,m3⟩:=ej.1 h4;have M:∀(j:aN) (k:Pk) (e:aN) (ex:aY),pa.cs[j]? =ai k->k.src=.own n e ex->n∈pa.cs.flatMap (·.tG):=λj k e ex hk hs=>bM.2 ⟨k,aU hk,by simp[Pk.tG,hs]⟩;rcases h3 with ⟨rfl,xs,f⟩|⟨j,k,e,ex,rfl,K,hk,hs⟩
  ·rcases t with ⟨rfl,_⟩|⟨j',k',e',h6,rfl,h8,O,U⟩
   ·rfl
   ·exact cJ rfl (m3 n (by simp[f]) n (M _ _ _ _ O U))
  ·rcases t with ⟨rfl,xs,f⟩|⟨j',k',e',h6,rfl,h8,O,U⟩
   ·exact cJ rfl (m3 n (by simp[f]) n (M _ _ _ _ hk hs))
   ·have:=(lx m2).1 j j' k k' n hk O (by simp[Pk.tG,hs]) (by simp[Pk.tG,U]);rw[this]
 ·obtain⟨n,o,p,pa,_,hp,B,X,_,i,_⟩:=wj d A h;rcases hk with hk|⟨n',C,o',s,r⟩
  ·exact d.kk n o b X (i b I) hk
  ·have:=d.sep n o n' o' b X s (i b I) r;subst this;exact A.ap n (z hp B) C
 ·rcases f with f|⟨n',C,o',s,r⟩
  ·exact d.lt b f
  ·exact Own.lt d ⟨n',o',s,r⟩
 ·rcases u_ hx with ⟨pa,hp,rfl⟩|⟨hr,cs,h7,rfl⟩
  ·obtain⟨v,hv,R⟩:=A.at_ p pa hp;refine⟨v,hv,?_⟩
   have V:∀{j:aN} {k:Pk},pa.cs[j]? =ai k->j<900:=λK=>by have:=(aW.1 K).1;have:=R.len;omega
   cases f:pa.box with
   |none=>
    obtain⟨agg,h1,h2⟩:=R.val f;rw[h1];rcases h2 with ⟨rfl,k,hk,S⟩|⟨rfl,h5,rfl,hs,hc⟩
    ·rw[hk];have:=RD (j:=0) hp (by rw[hk];rfl) (by omega) S;exact this
    ·refine⟨h5,rfl,by rw[iw,bJ];exact hs,λj y K=> ?_⟩
     rw[hN,bI]at K;cases hk:pa.cs[j]? with
     |none=>rw[hk]at K;cases K
     |some k=>
      rw[hk]at K;cases K;obtain⟨u,hu,S⟩:=hc j k hk;refine⟨u,hu,?_⟩
      have B:dF p 0+j=dF p j:=by unfold dF;omega
      rw[B];exact RD hp hk (V hk) S
   |some nx=>obtain⟨n,zs⟩:=nx;obtain⟨h1,h2,_⟩:=R.box n zs f;rw[h1];show v=.pointer (ai (ad ((qd σ c ps).P (dF p 900)).blk 0));rw[(tC (Aj hp f)).1];exact h2
  ·obtain⟨b,hv,I⟩:=A.fb (p-ps.length) cs h7;rw[show ps.length+(p-ps.length)=p by omega]at hv;exact⟨_,hv,b,rfl,I.frame (λ_ _=>rfl) (λb f=>.inl f)⟩
 ·rintro b ⟨m,ob,h,I⟩;obtain⟨n,o,p,pa,_,hp,B,X,_,i,_⟩:=wj d A h;exact⟨n,z hp B,o,X,i b I⟩
end
end Go.FG
namespace Go.FG
def s4(p j:aN)(a:AA):AV:=match a with|.kp _=>.own (dF p j)|a=>kO (dF p (100+j)) a
def nK(p:aN):aN->aE AA->aE AV
 |_,[]=>[]|j,a::r=>s4 p j a::nK p (j+1) r
def Hw(p j:aN)(a b:AA):aE (aN×eW):=
 match b with
 |.kp d=>(match a with|.ow e ex _=>[(c6 (dF p j),.o (.row e ex d))]|_=>[])
 |.ow e ex d=>[(c6 (dF p (100+j)),.o (.row e ex d))]
 |_=>[]
def s5(p:aN):aN->aE AA->aE AA->aE (aN×eW)
 |_,_,[]=>[]|j,as,b::r=>Hw p j (as.headD .nl) b++s5 p (j+1) as.tail r
def BK(p:aN)(a:gg)(l:aE AA):aE (aN×eW):=
 match a with
 |.v _ xs=>s5 p 0 xs l
 |.pt xs=>(c6 (dF p 900),.o (.box (nK p 0 l)))::s5 p 0 xs l
 |.fb _=>[]
def Js:aN->aE gg->aE (aE AA)->aE (aN×eW)
 |_,[],_=>[]|p,a::r,l=>BK p a (l.headD [])++Js (p+1) r l.tail
def Jw:aN->aE gg->aE (aN×eW)
 |_,[]=>[]|q,a::r=>uF q a++Jw (q+1) r
def nu(args:aE gg)(r:iQ):St:=eP (Jw 500 r.rs++Js 0 args r.outs)
def EW(q:aN)(a:gg):aY×aE AV:=match a with|.v g xs=>(g,gf (dF q 0) xs)|.pt _=>(aq,[.bp (dF q 900) 0])|.fb xs=>(aq,[.fp xs 0])
def kP:aN->aE gg->aE (aY×aE AV)
 |_,[]=>[]|q,a::r=>EW q a::kP (q+1) r
def RM(rs:aE gg):SV:=rO (kP 500 rs)
def GA(T:Tab)(args:aE gg)(r:iQ)(f:gn)(w:cB)(v:bP)(w':cB):Prop:=
 ∃d,Ok T (nu args r) w' d/\Grow (inj args) f w (nu args r) d w'/\(∀m,inj args (c6 m)≠ .jw->d.P m=f.P m/\d.G m=f.G m)/\iM T w' d (RM r.rs) v
def kT(P:de)(T:Tab)(g:aN)(d:aE gg->aA (aY×iQ)):Prop:=
 ∀args r,d args=ai (ao,r)->∀(w:cB) (f:gn) (vs:eF bP),Ok T (inj args) w f->vs.size=args.length->(∀(p:aN) (x:gg),args[p]? =ai x->∃v,vs[p]? =ai v/\iM T w f (rL p x) v)->
  (∃fn,P.funcs[g]? =ai fn/\fn.body.isSome=ao/\(fn.name== "runtime.NumGoroutine")=aq)/\Calls P g vs w (λ|.returned v,w'=>GA T args r f w v w'|_,_=>False)
abbrev J4:=aN×aA aN×Obj
def find(L:aE J4)(m:aN):aA aN:=
 match L with
 |[]=>aj
 |(n,t,_)::r=>if m=n then t else find r m
theorem G_(h:find L m=ai x):∃ob,(m,ai x,ob)∈L:=by
 induction L with
 |nil=>cases h
 |cons d L ih=>
  obtain⟨n,t,ob⟩:=d;unfold find at h;split at h
  ·rename_i hm;subst hm;rw[h];exact⟨ob,cD ..⟩
  ·obtain⟨ob,h⟩:=ih h;exact⟨ob,cu _ h⟩
theorem Un(h:(m,t,ob)∈L)(i:(L.map (·.1)).Nodup):find L m=t:=by
 induction L with
 |nil=>cases h
 |cons d L ih=>
  obtain⟨n,k,ob'⟩:=d;rw[e9,j_]at i;unfold find;rcases cm.1 h with f|f
  ·cases f;rw[bm rfl]
  ·have j:m≠n:=λe=>i.1 (cN.2 ⟨_,f,e⟩);rw[bh j];exact ih f i.2
def lB(ok:aY)(L:aE J4)(v d:AV):Prop:=
 (v=d/\match v with|.i _ _=>True|.b _=>True|.s _=>True|.nl=>True|.sh _ _=>ok=ao|_=>False)\/∃n x ob,v=.own n/\d=.own x/\(n,ai x,ob)∈L
def WO(L:aE J4)(v d:AV):Prop:=∃n x ob,v=.bp n 0/\d=.bp x 0/\(n,ai x,ob)∈L
def nf(ok:aY)(L:aE J4)(vs d:aE AV):Prop:=vs.length=d.length/\∀(j:aN) (v f:AV),vs[j]? =ai v->d[j]? =ai f->lB ok L v f
def ArgRel(ok:aY)(L:aE J4)(s s3:aY×aE AV):Prop:=s.1=s3.1/\s.2.length=s3.2.length/\∀(j:aN) (v d:AV),s.2[j]? =ai v->s3.2[j]? =ai d->lB ok L v d\/WO L v d
def DU(ok:aY)(L:aE J4)(s s3:aE (aY×aE AV)):Prop:=s.length=s3.length/\∀(j:aN) (x d:aY×aE AV),s[j]? =ai x->s3[j]? =ai d->ArgRel ok L x d
structure WT (σ σ3:St) (c c3:gn) (ok:aY) (tG:aE aN) (L:aE J4) (n:aN) (t:aA aN) (ob:Obj):Prop where
 old:σ (c6 n)≠ .jw->n∈tG
 new:σ (c6 n)=.jw->n<900000000
 dead:t=aj->ob=.dead
 some_:∀x,t=ai x->(σ (c6 n)≠ .jw->c3.P x=c.P n/\c3.G x=c.G n)/\
  ((∃e ex ys,ob=.row e ex ys/\σ3 (c6 x)=.o (.row e ex ys)/\(ex=ao\/ok=ao))\/∃vs vs3,ob=.box vs/\σ3 (c6 x)=.o (.box vs3)/\nf ok L vs vs3)
section
variable {P:de} {E:fW} {σ:St} {a:Act} {w:cB} {c:gn} {o:gK} {nm:aN} {e:sj}
theorem leave(h7:Ok E σ w c)(xv:e6 E σ a w c)(hd:∀d,o.dst=ai d->d<a.tmps.size)(hh:Handed E σ w c ps hz vs)
  (S:Ok E (nu (js ps hz) r) w' R) (O:Grow (inj (js ps hz)) (qd σ c ps) w (nu (js ps hz) r) R w') (h8:iM E w' R (RM r.rs) v)
  (hL:∀n t ob,(n,t,ob)∈L->WT σ (nu (js ps hz) r) c R ok (ps.flatMap (·.tG)) L n t ob) (xr:(L.map (·.1)).Nodup)
  (xl:∀n n' x ob ob',(n,ai x,ob)∈L->(n',ai x,ob')∈L->n=n') (xj:∀n∈ps.flatMap (·.tG),∃t ob,(n,t,ob)∈L)
  (x1:∀n x,(n,x)∈Fz->ok=ao/\n∈ps.flatMap (·.ou)/\∃el ex xs,σ (c6 n)=.o (.row el ex xs)/\x=.fL el xs) (xp:ok=ao->∀n∈ps.flatMap (·.ou),∃x,(n,x)∈Fz)
  (xw:DU ok L ss (kP 500 r.rs)):
  ∃c',Ok E (wr σ (jV (Fz++L.map λt=>(t.1,t.2.2))++dw o (rO ss))) w' c'/\e6 E (wr σ (jV (Fz++L.map λt=>(t.1,t.2.2))++dw o (rO ss))) (a.put o.dst v) w' c'/\Grow σ c w (wr σ (jV (Fz++L.map λt=>(t.1,t.2.2))++dw o (rO ss))) c' w'/\ji σ c c':=by
 obtain⟨xm,_,xe⟩:=enter h7 hh;let D:aE (aN×Obj):=Fz++L.map λt=>(t.1,t.2.2)
 have V:∀n x,(n,x)∈D->(n,x)∈Fz\/∃t,(n,t,x)∈L:=by
  intro n x hm;rcases bc.1 hm with h|h
  ·exact .inl h
  ·obtain⟨⟨n',t,ob⟩,N,Y⟩:=cN.1 h;cases Y;exact .inr ⟨t,N⟩
 have x9:∀n t ob,(n,t,ob)∈L->(n,ob)∈D:=λn t ob h=>bS _ (cN.2 ⟨_,h,rfl⟩);have xo:∀n,n∈ps.flatMap (·.tG)->tX D n:=λn f=>by obtain⟨t,ob,h⟩:=xj n f;exact⟨ob,x9 n t ob h⟩
 have x3:∀b,Own (inj (js ps hz)) (qd σ c ps) b->jM (tX D) σ c b:=λb B=>by obtain⟨n,f,ob,N,Y⟩:=xe b B;exact⟨n,ob,xo n f,N,Y⟩
 let K':aN->Prop:=λb=>if ok=ao then R.K b else c.K b
 let c':gn:=⟨λm=>match find L m with|some x=>R.P x|none=>c.P m,λm=>match find L m with|some x=>R.G x|none=>c.G m,K'⟩
 have at_:∀n x ob,(n,ai x,ob)∈L->c'.P n=R.P x/\c'.G n=R.G x:=λn x ob h=>by have:=Un h xr;simp only[c',this];exact⟨trivial,trivial⟩
 have xa:∀n,find L n=aj->c'.P n=c.P n/\c'.G n=c.G n:=λn h=>by simp only[c',h];exact⟨trivial,trivial⟩
 have hA:ji σ c c':=by
  intro m hm;cases Q:find L m with
  |none=>exact xa m Q
  |some x=>
   obtain⟨ob,hx⟩:=G_ Q;obtain⟨e1,e2⟩:=at_ m x ob hx;have he:=hL m _ ob hx;rw[e1,e2];by_cases f:σ (c6 m)=.jw
   ·have:=he.new f;rcases hm with h|h
    ·exact cJ f h
    ·omega
   ·exact(he.some_ x rfl).1 f
 have h5:ok=ao->∀b,K' b↔R.K b:=λh b=>by simp only[K',h,if_true]
 have x4:ok=aq->∀b,K' b↔c.K b:=λh b=>by simp only[K',h];simp
 have xf:∀b,(qd σ c ps).K b->R.K b:=O.K;have xh:∀b,c.K b->(qd σ c ps).K b:=λb B=>.inl B;have hK:∀b,c.K b->K' b:=λb B=>by
  cases h:ok with
  |true=>exact(h5 h b).2 (xf b (xh b B))
  |false=>exact(x4 h b).2 B
 have xq:∀b,K' b->c.K b\/jM (tX D) σ c b\/w.heap.size<=b:=λb B=>by
  cases h:ok with
  |true=>
   rcases O.kn b ((h5 h b).1 B)with N|N|N
   ·rcases N with N|⟨n,f,ob,Y,k⟩
    ·exact .inl N
    ·obtain⟨x,hx⟩:=xp h n f;exact .inr (.inl ⟨n,ob,⟨x,bY _ hx⟩,Y,k⟩)
   ·exact .inr (.inl (x3 b N))
   ·exact .inr (.inr N)
  |false=>exact .inl ((x4 h b).1 B)
 have xi:∀b,K' b->b<w'.heap.size:=λb B=>by
  cases h:ok with
  |true=>exact S.lt b ((h5 h b).1 B)
  |false=>exact iB (h7.lt b ((x4 h b).1 B)) O.size
 have h6:∀n x ob b,(n,ai x,ob)∈L->fu c' n ob b->∃o3,nu (js ps hz) r (c6 x)=.o o3/\fu R x o3 b:=by
  intro n x ob b hm Q;obtain⟨e1,e2⟩:=at_ n x ob hm;rcases((hL n _ ob hm).some_ x rfl).2 with ⟨e,ex,ys,rfl,k,_⟩|⟨us,X,rfl,k,_⟩
  ·refine⟨_,k,?_⟩
   simp only[fu,e1,e2]at Q⊢;exact Q
  ·refine⟨_,k,?_⟩
   simp only[fu,e1]at Q⊢;exact Q
 have ht:∀{v v3:AV} {u:bP},lB ok L v v3->ed E w' R v3 u->ed E w' c' v u/\∀n∈bL v,tX D n:=by
  rintro v v3 u (⟨rfl,h⟩|⟨n,x,ob,rfl,rfl,hm⟩) M
  ·cases v with
   |sh e xs=>exact⟨Holds.frame M (λ_ _=>rfl) (λb B=>(h5 h b).2 B),λn f=>by simp[bL]at f⟩
   |i=>exact⟨M,λn f=>by simp[bL]at f⟩
   |b=>exact⟨M,λn f=>by simp[bL]at f⟩
   |s=>exact⟨M,λn f=>by simp[bL]at f⟩
   |nl=>exact⟨M,λn f=>by simp[bL]at f⟩
   |_=>exact h.elim
  ·refine⟨?_,λm C=> ?_⟩
   ·show u=j5 (c'.P n);rw[(at_ n x ob hm).1];exact M
   ·have:m=n:=by simpa [bL]using C
    subst this;exact⟨ob,x9 _ _ _ hm⟩
 have xg:∀{v v3:AV} {u:bP},WO L v v3->ed E w' R v3 u->ed E w' c' v u/\∀n∈bL v,tX D n:=by
  rintro v v3 u ⟨n,x,ob,rfl,rfl,hm⟩ M;refine⟨?_,λm C=> ?_⟩
  ·show u=.pointer (ai (ad (c'.P n).blk 0));rw[(at_ n x ob hm).1];exact M
  ·have:m=n:=by simpa [bL]using C
   subst this;exact⟨ob,x9 _ _ _ hm⟩
 have x0:∀{s s3:aY×aE AV} {u:bP},ArgRel ok L s s3->pO E w' R s3.1 s3.2 u->pO E w' c' s.1 s.2 u/\∀n∈s.2.flatMap bL,tX D n:=by
  rintro ⟨g,xs⟩ ⟨g3,h9⟩ u ⟨N,Y,k⟩ M;have N:g=g3:=N;subst N;have one:∀(j:aN) (y:AV) (uu:bP),xs[j]? =ai y->(∀y3,h9[j]? =ai y3->ed E w' R y3 uu)->ed E w' c' y uu/\∀n∈bL y,tX D n:=by
   intro j y uu I xy;have A:j<h9.length:=by rw[<-Y];exact(aW.1 I).1
   have xc:=k j y h9[j] I (by simp[A]);have xn:=xy h9[j] (by simp[A]);rcases xc with h|h
   ·exact ht h xn
   ·exact xg h xn
  replace M:pO E w' R g h9 u:=M;unfold pO at M;split at M
  ·rename_i y3;obtain⟨y,rfl⟩:=gE.1 (show xs.length=1 from Y);obtain⟨k1,k2⟩:=one 0 y u rfl (λy0 h=>by cases h;exact M);exact⟨k1,λn f=>k2 n (by simpa using f)⟩
  ·obtain⟨hw,rfl,hs,hv⟩:=M;have cell:∀(j:aN) (y:AV),xs[j]? =ai y->∃uu:bP,hw[j]? =ai uu/\ed E w' c' y uu/\∀n∈bL y,tX D n:=by
    intro j y I;have A:j<h9.length:=by rw[<-Y];exact(aW.1 I).1
    obtain⟨uu,M,ha⟩:=hv j h9[j] (by simp[A]);obtain⟨k1,k2⟩:=one j y uu I (λy0 h=>by simp[A]at h;rw[<-h];exact ha);exact⟨uu,M,k1,k2⟩
   refine⟨⟨hw,rfl,by rw[hs];exact Y.symm,λj y I=> ?_⟩,λn f=> ?_⟩
   ·obtain⟨uu,k1,k2,_⟩:=cell j y I;exact⟨uu,k1,k2⟩
   ·obtain⟨y,hy,f⟩:=bM.1 f;obtain⟨j,I⟩:=bX hy;obtain⟨uu,_,_,k3⟩:=cell j y I;exact k3 n f
  ·exact M.elim
 have xb:iM E w' c' (rO ss) v/\∀n∈cF (rO ss),tX D n:=by
  obtain⟨hl,hr⟩:=xw;have jS:∀(l l3:aE (aY×aE AV)),l=ss->l3=kP 500 r.rs->iM E w' R (.jS l3) v->iM E w' c' (.jS l) v/\∀n∈cF (.jS l),tX D n:=by
   rintro l l3 rfl rfl ⟨us,rfl,hs,hv⟩;have cell:∀(j:aN) (x:aY×aE AV),l[j]? =ai x->∃u:bP,us[j]? =ai u/\pO E w' c' x.1 x.2 u/\∀n∈x.2.flatMap bL,tX D n:=by
    intro j x I;have A:j<(kP 500 r.rs).length:=by rw[<-hl];exact(aW.1 I).1
    have k:(kP 500 r.rs)[j]? =ai ((kP 500 r.rs)[j].1,(kP 500 r.rs)[j].2):=by simp[A]
    obtain⟨u,M,ha⟩:=hv j _ _ k;obtain⟨k1,k2⟩:=x0 (hr j x _ I k) ha;exact⟨u,M,k1,k2⟩
   refine⟨⟨us,rfl,by rw[hs];exact hl.symm,λj g xs I=> ?_⟩,λn f=> ?_⟩
   ·obtain⟨u,k1,k2,_⟩:=cell j (g,xs) I;exact⟨u,k1,k2⟩
   ·obtain⟨x,hx,f⟩:=bM.1 f;obtain⟨j,I⟩:=bX hx;obtain⟨u,_,_,k3⟩:=cell j x I;exact k3 n f
  unfold RM at h8;cases k:kP 500 r.rs with
  |nil=>rw[k]at h8 hl;have:ss=[]:=eO hl;subst this;exact jS [] [] rfl k.symm h8
  |cons x l=>
   cases l with
   |nil=>obtain⟨g,xs⟩:=x;rw[k]at h8 hl;obtain⟨⟨g',y1⟩,rfl⟩:=gE.1 (show ss.length=1 from hl);exact x0 (s3:=(g,xs)) (hr 0 _ _ rfl (by rw[k];rfl)) h8
   |cons y l=>
    rw[k]at h8 hl;match ss,hl with
    |s1::s2::st,_=>exact jS _ (x::y::l) rfl k.symm h8
    |[_],hl=>simp at hl
    |[],hl=>simp at hl
 refine⟨c',?_⟩
 have:=GR h7 xv hd (D:=D) (s:=rO ss) (v:=v) (w':=w') (c':=c') hA ?_ ?_ ?_ ?_ hK xq xi ?_ O.size O.os O.tape O.output xb.1 (λn f=>.inr (xb.2 n f))
 ·exact⟨this.1,this.2.1,this.2.2,hA⟩
 ·intro n x hm;rcases V n x hm with hm|⟨t,hm⟩
  ·obtain⟨x2,f,el,ex,xs,hg,rfl⟩:=x1 n x hm;have xd:find L n=none:=by
    cases Q:find L n with
    |none=>rfl
    |some x=>obtain⟨ob,hx⟩:=G_ Q;have:=(hL n _ ob hx).old (by rw[hg];simp);exact cJ f (hh.ap n this)
   obtain⟨e1,_⟩:=xa n xd;obtain⟨N,Y,ti,k,h4⟩:=kK h7 hg;show Holds E w' K' (j5 (c'.P n)) _/\(c'.P n).n=_/\_;rw[e1];refine⟨?_,N,ti,k,h4.1⟩
   have:=rA h7 hg (K:=(qd σ c ps).K) xh (λb B=>.inr ⟨n,f,_,hg,B⟩);exact this.frame (O.WX xm) (λb B=>(h5 x2 b).2 (xf b B))
  ·have he:=hL n t x hm;cases t with
   |none=>rw[he.dead rfl];trivial
   |some y=>
    obtain⟨e1,e2⟩:=at_ n y x hm;rcases(he.some_ y rfl).2 with ⟨el,ex,ys,rfl,k,xu⟩|⟨us,X,rfl,k,hl,hc⟩
    ·obtain⟨⟨t2,r1,r2,r3⟩,r4,r5⟩:=S.obj y _ k;refine⟨⟨t2,r1,by rw[e1];exact r2,r3⟩,?_,λhx=>by rw[e1,e2];exact r5 hx⟩
     rw[e1,e2];refine r4.frame (λ_=>rfl) (λi j yy xx u hy hx hr=> ?_);split at hr
     ·rename_i x8;rw[bm x8];exact hr
     ·rename_i x8;rw[bh x8];have x2:=xu.resolve_left x8;exact hr.frame (λ_ _=>rfl) (λb B=>(h5 x2 b).2 B)
    ·obtain⟨hw,B,hs,hv⟩:=S.obj y _ k;refine⟨hw,by rw[e1];exact B,by rw[hs];exact hl.symm,λj yy I=> ?_⟩
     have A:j<X.length:=by rw[<-hl];exact(aW.1 I).1
     obtain⟨u,M,ha⟩:=hv j X[j] (by simp[A]);exact⟨u,M,(ht (hc j yy X[j] I (by simp[A])) ha).1⟩
 ·intro n x b hm Q;rcases V n x hm with hm|⟨t,hm⟩
  ·obtain⟨_,_,el,ex,xs,_,rfl⟩:=x1 n x hm;exact Q.elim
  ·cases t with
   |none=>rw[(hL n _ x hm).dead rfl]at Q;exact Q.elim
   |some y=>
    obtain⟨o3,k,x6⟩:=h6 n y x b hm Q;have U:jM (tX D) σ c b\/w.heap.size<=b:=(O.own b ⟨y,o3,k,x6⟩).imp (x3 b) id;refine⟨U,λhk=> ?_⟩
    cases h:ok with
    |true=>exact S.kk y o3 b k x6 ((h5 h b).1 hk)
    |false=>
     have hk:=(x4 h b).1 hk;rcases U with U|U
     ·exact h7.Fy U.own hk
     ·have:=h7.lt b hk;omega
 ·intro n x n' x' b hm C Q x5;rcases V n x hm with hm|⟨t,hm⟩
  ·obtain⟨_,_,el,ex,xs,_,rfl⟩:=x1 n x hm;exact Q.elim
  ·rcases V n' x' C with C|⟨t',C⟩
   ·obtain⟨_,_,el,ex,xs,_,rfl⟩:=x1 n' x' C;exact x5.elim
   ·cases t with
    |none=>rw[(hL n _ x hm).dead rfl]at Q;exact Q.elim
    |some y=>
     cases t' with
     |none=>rw[(hL n' _ x' C).dead rfl]at x5;exact x5.elim
     |some y'=>obtain⟨o3,k,x6⟩:=h6 n y x b hm Q;obtain⟨xz,xc,xk⟩:=h6 n' y' x' b C x5;have:=S.sep y o3 y' xz b k xc x6 xk;subst this;exact xl n n' y x x' hm C
 ·intro n xs hm y hy m x7;rcases V n _ hm with hm|⟨t,hm⟩
  ·obtain⟨_,_,el,ex,zs,_,h⟩:=x1 n _ hm;cases h
  ·have he:=hL n t _ hm;cases t with
   |none=>have:=he.dead rfl;cases this
   |some z=>
    rcases(he.some_ z rfl).2 with ⟨el,ex,ys,h,_⟩|⟨us,X,h,k,hl,hc⟩
    ·cases h
    ·cases h;obtain⟨j,I⟩:=bX hy;have A:j<X.length:=by rw[<-hl];exact(aW.1 I).1
     rcases hc j y X[j] I (by simp[A])with ⟨N,Y⟩|⟨n',x',ob',N,_,Y⟩
     ·exfalso;subst N;cases h:X[j]<;>rw[h]at x7 Y<;>first|(simp[bL]at x7;done)|exact Y
     ·rw[N]at x7;have:m=n':=by simpa [bL]using x7
      subst this;exact .inr ⟨ob',x9 _ _ _ Y⟩
 ·intro b B xt;exact O.same b B (λho=>xt (x3 b ho))
end
end Go.FG
namespace Go.FG
def J9(a:gg)(xs:aE AA):Prop:=(∃g,a=.v g xs)\/a=.pt xs
inductive AE (args:aE gg) (r:iQ):aN->eW->Prop
 |rb (q xs):r.rs[q]? =ai (.pt xs)->AE args r (dF (500+q) 900) (.o (.box (gf (dF (500+q) 0) xs)))
 |rr (q a xs j e ex ys):r.rs[q]? =ai a->J9 a xs->xs[j]? =ai (.ow e ex ys)->AE args r (dF (500+q) j) (.o (.row e ex ys))
 |ob (p xs):args[p]? =ai (.pt xs)->AE args r (dF p 900) (.o (.box (nK p 0 (r.outs.getD p []))))
 |kp (p a xs j e ex z ys):args[p]? =ai a->J9 a xs->xs[j]? =ai (.ow e ex z)->(r.outs.getD p [])[j]? =ai (.kp ys)->AE args r (dF p j) (.o (.row e ex ys))
 |nw (p a xs j e ex ys):args[p]? =ai a->J9 a xs->(r.outs.getD p [])[j]? =ai (.ow e ex ys)->AE args r (dF p (100+j)) (.o (.row e ex ys))
theorem Hl:∀{l:aE gg} {q:aN} {k:aN} {c:eW},(k,c)∈Jw q l↔∃i a,l[i]? =ai a/\(k,c)∈uF (q+i) a:=by
 intro l;induction l with
 |nil=>intro q k c;simp[Jw]
 |cons a l ih=>
  intro q k c;simp only[Jw,bc,ih];constructor
  ·rintro (h|⟨i,b,h0,h⟩)
   ·exact⟨0,a,rfl,h⟩
   ·exact⟨i+1,b,h0,by rw[show q+(i+1)=q+1+i by omega];exact h⟩
  ·rintro ⟨i,b,h0,h⟩;cases i with
   |zero=>cases h0;exact .inl h
   |succ i=>exact .inr ⟨i,b,h0,by rw[show q+1+i=q+(i+1)by omega];exact h⟩
theorem Hk:∀{l:aE gg} {p:aN} {os:aE (aE AA)} {k:aN} {c:eW},(k,c)∈Js p l os↔∃i a,l[i]? =ai a/\(k,c)∈BK (p+i) a (os.getD i []):=by
 intro l;induction l with
 |nil=>intro p os k c;simp[Js]
 |cons a l ih=>
  intro p os k c;have h0:os.headD []=os.getD 0 []:=by cases os<;>rfl
  have f:∀i,os.tail.getD i []=os.getD (i+1) []:=λi=>by cases os<;>simp
  simp only[Js,bc,ih,h0,f];constructor
  ·rintro (h|⟨i,b,d,h⟩)
   ·exact⟨0,a,rfl,h⟩
   ·exact⟨i+1,b,d,by rw[show p+(i+1)=p+1+i by omega];exact h⟩
  ·rintro ⟨i,b,d,h⟩;cases i with
   |zero=>cases d;exact .inl h
   |succ i=>exact .inr ⟨i,b,d,by rw[show p+1+i=p+(i+1)by omega];exact h⟩
theorem yC:(k,c)∈Hw p j a b↔(∃e ex z d,a=.ow e ex z/\b=.kp d/\k=c6 (dF p j)/\c=.o (.row e ex d))\/∃e ex d,b=.ow e ex d/\k=c6 (dF p (100+j))/\c=.o (.row e ex d):=by
 cases b with
 |kp d=>
  cases a with
  |ow e ex z=>
   constructor
   ·intro h;have h:=a_.1 h;cases h;exact .inl ⟨e,ex,z,d,rfl,rfl,rfl,rfl⟩
   ·rintro (⟨t,f,x,s,u,i,m,r⟩|⟨_,_,_,h,_⟩)
    ·cases u;cases i;rw[m,r];exact a_.2 rfl
    ·cases h
  |_=>simp[Hw]
 |ow e ex d=>
  constructor
  ·intro h;have h:=a_.1 h;cases h;exact .inr ⟨e,ex,d,rfl,rfl,rfl⟩
  ·rintro (⟨_,_,_,_,_,h,_⟩|⟨t,f,s,i,m,r⟩)
   ·cases h
   ·cases i;rw[m,r];exact a_.2 rfl
 |_=>simp[Hw]
theorem Jg:∀{l:aE AA} {j:aN} {as:aE AA} {k:aN} {c:eW},(k,c)∈s5 p j as l↔∃i b,l[i]? =ai b/\(k,c)∈Hw p (j+i) (as.getD i .nl) b:=by
 intro l;induction l with
 |nil=>intro j as k c;simp[s5]
 |cons b l ih=>
  intro j as k c;have h0:as.headD .nl=as.getD 0 .nl:=by cases as<;>rfl
  have m:∀i,as.tail.getD i .nl=as.getD (i+1) .nl:=λi=>by cases as<;>simp
  simp only[s5,bc,ih,h0,m];constructor
  ·rintro (h|⟨i,f,d,h⟩)
   ·exact⟨0,b,rfl,h⟩
   ·exact⟨i+1,f,d,by rw[show j+(i+1)=j+1+i by omega];exact h⟩
  ·rintro ⟨i,f,d,h⟩;cases i with
   |zero=>cases d;exact .inl h
   |succ i=>exact .inr ⟨i,f,d,by rw[show j+1+i=j+(i+1)by omega];exact h⟩
theorem Fm{xs:aE AA}{i e:aN}{ex:aY}{z:Row}:xs.getD i .nl=.ow e ex z↔xs[i]? =ai (.ow e ex z):=by
 rw[dK];cases h:xs[i]? with
 |none=>simp
 |some x=>simp
theorem qk{p:aN}{a:gg}{l:aE AA}{k:aN}{c:eW}:(k,c)∈BK p a l↔(∃xs,a=.pt xs/\k=c6 (dF p 900)/\c=.o (.box (nK p 0 l)))\/∃xs,J9 a xs/\((∃j e ex z d,xs[j]? =ai (.ow e ex z)/\l[j]? =ai (.kp d)/\k=c6 (dF p j)/\c=.o (.row e ex d))\/∃j e ex d,l[j]? =ai (.ow e ex d)/\k=c6 (dF p (100+j))/\c=.o (.row e ex d)):=by
 have cells:∀xs,(k,c)∈s5 p 0 xs l↔((∃j e ex z d,xs[j]? =ai (.ow e ex z)/\l[j]? =ai (.kp d)/\k=c6 (dF p j)/\c=.o (.row e ex d))\/∃j e ex d,l[j]? =ai (.ow e ex d)/\k=c6 (dF p (100+j))/\c=.o (.row e ex d)):=by
  intro xs;rw[Jg];constructor
  ·rintro ⟨i,b,s,h⟩;rw[bV]at h;rcases yC.1 h with ⟨e,ex,z,d,m,rfl,f,r⟩|⟨e,ex,d,rfl,f,r⟩
   ·exact .inl ⟨i,e,ex,z,d,Fm.1 m,s,f,r⟩
   ·exact .inr ⟨i,e,ex,d,s,f,r⟩
  ·rintro (⟨i,e,ex,z,d,m,s,f,r⟩|⟨i,e,ex,d,s,f,r⟩)
   ·exact⟨i,_,s,yC.2 (.inl ⟨e,ex,z,d,Fm.2 m,rfl,by rw[bV];exact f,r⟩)⟩
   ·exact⟨i,_,s,yC.2 (.inr ⟨e,ex,d,rfl,by rw[bV];exact f,r⟩)⟩
 cases a with
 |v g xs=>
  simp only[BK,cells];constructor
  ·intro h;exact .inr ⟨xs,.inl ⟨g,rfl⟩,h⟩
  ·rintro (⟨d,h,_⟩|⟨d,h|h,t⟩)
   ·cases h
   ·obtain⟨u,h⟩:=h;cases h;exact t
   ·cases h
 |pt xs=>
  simp only[BK,cm,cells,iS];constructor
  ·rintro (⟨m,f⟩|h)
   ·exact .inl ⟨xs,rfl,m,f⟩
   ·exact .inr ⟨xs,.inr rfl,h⟩
  ·rintro (⟨d,h,m,f⟩|⟨d,h|h,t⟩)
   ·exact .inl ⟨m,f⟩
   ·obtain⟨u,h⟩:=h;cases h
   ·cases h;exact .inr t
 |fb xs=>
  simp only[BK,ld,false_iff];rintro (⟨d,h,_⟩|⟨d,h|h,_⟩)
  ·cases h
  ·obtain⟨u,h⟩:=h;cases h
  ·cases h
theorem wb:(c6 m,c)∈Jw 500 r.rs++Js 0 args r.outs↔AE args r m c:=by
 rw[bc,Hl,Hk];constructor
 ·rintro (⟨q,a,h0,h⟩|⟨p,a,h0,h⟩)
  ·rcases gY.1 h with ⟨xs,rfl,i,rfl⟩|⟨xs,j,e,ex,d,f,t,i,rfl⟩
   ·rw[jI i];exact .rb q xs h0
   ·rw[jI i];exact .rr q a xs j e ex d h0 f t
  ·rw[bV]at h;rcases qk.1 h with ⟨xs,rfl,i,rfl⟩|⟨xs,f,⟨j,e,ex,z,d,s,k,i,rfl⟩|⟨j,e,ex,d,k,i,rfl⟩⟩
   ·rw[jI i];exact .ob p xs h0
   ·rw[jI i];exact .kp p a xs j e ex z d h0 f s k
   ·rw[jI i];exact .nw p a xs j e ex d h0 f k
 ·intro h;cases h with
  |rb q xs h0=>exact .inl ⟨q,_,h0,gY.2 (.inl ⟨xs,rfl,rfl,rfl⟩)⟩
  |rr q a xs j e ex d h0 f t=>exact .inl ⟨q,a,h0,gY.2 (.inr ⟨xs,j,e,ex,d,f,t,rfl,rfl⟩)⟩
  |ob p xs h0=>exact .inr ⟨p,_,h0,qk.2 (.inl ⟨xs,rfl,by rw[bV],by rw[bV]⟩)⟩
  |kp p a xs j e ex z d h0 f s k=>exact .inr ⟨p,a,h0,qk.2 (.inr ⟨xs,f,.inl ⟨j,e,ex,z,d,s,k,by rw[bV],rfl⟩⟩)⟩
  |nw p a xs j e ex d h0 f k=>exact .inr ⟨p,a,h0,qk.2 (.inr ⟨xs,f,.inr ⟨j,e,ex,d,k,by rw[bV],rfl⟩⟩)⟩
def Wm:aA AA->aA eW
 |some (.ow e ex d)=>ai (.o (.row e ex d))|_=>aj
def kpC(a b:aA AA):aA eW:=
 match a,b with|some (.ow e ex _),ai (.kp d)=>ai (.o (.row e ex d))|_,_=>aj
def PR:gg->aE AA|.v _ xs=>xs|.pt xs=>xs|.fb _=>[]
theorem J9.eq(h:J9 a xs):PR a=xs:=by rcases h with ⟨g,rfl⟩|rfl<;>rfl
def Dl(args:aE gg)(r:iQ)(P J:aN):aA eW:=
 if 500<=P then(match r.rs[P-500]? with
  |some a=>if J=900 then ai (.o (.box (gf (dF P 0) (PR a))))else Wm (PR a)[J]?
  |none=>aj)
 else(match args[P]? with
  |some a=>if J=900 then ai (.o (.box (nK P 0 (r.outs.getD P []))))else if J<100 then kpC (PR a)[J]? (r.outs.getD P [])[J]? else Wm (r.outs.getD P [])[J-100]?
  |none=>aj)
structure Small (args:aE gg) (r:iQ):Prop where
 a:∀(p:aN) (a:gg) (xs:aE AA),args[p]? =ai a->J9 a xs->p<500
 rl:∀(q:aN) (a:gg) (xs:aE AA),r.rs[q]? =ai a->J9 a xs->xs.length<=100
 o:∀p:aN,(r.outs.getD p []).length<=100
theorem G4(hs:Small args r)(h:AE args r m c):∃P J,m=dF P J/\J<1000/\Dl args r P J=ai c:=by
 cases h with
 |rb q xs h0=>exact⟨500+q,900,rfl,by omega,by simp[Dl,h0,PR]⟩
 |rr q a xs j e ex y h0 i x=>
  have:=hs.rl q a xs h0 i;have s:=(aW.1 x).1;refine⟨500+q,j,rfl,by omega,?_⟩
  have:j≠900:=by omega
  simp[Dl,h0,i.eq,x,this,Wm]
 |ob p xs h0=>
  have:=hs.a p _ xs h0 (.inr rfl);have:¬500<=p:=by omega
  exact⟨p,900,rfl,by omega,by simp[Dl,h0,this]⟩
 |kp p a xs j e ex z y h0 i A k=>
  have:=hs.a p _ xs h0 i;have t:¬500<=p:=by omega
  have s:=(aW.1 k).1;have:=hs.o p;have d:j≠900:=by omega
  have f:j<100:=by omega
  refine⟨p,j,rfl,by omega,?_⟩
  simp only[Dl,h0,i.eq,A,k,d,f,t,if_false,if_true,kpC]
 |nw p a xs j e ex y h0 i k=>
  have:=hs.a p _ xs h0 i;have t:¬500<=p:=by omega
  have s:=(aW.1 k).1;have:=hs.o p;have d:¬100+j=900:=by omega
  have f:¬100+j<100:=by omega
  refine⟨p,100+j,rfl,by omega,?_⟩
  have u:100+j-100=j:=by omega
  simp only[Dl,h0,k,d,f,u,t,if_false,Wm]
theorem yO:∀{l:aE (aN×eW)} {k:aN} {c:eW},(k,c)∈l->(∀c',(k,c')∈l->c'=c)->eP l k=c:=by
 intro l;induction l with
 |nil=>intro k c h;cases h
 |cons d l ih=>
  obtain⟨k',c'⟩:=d;intro k c h m;unfold eP;cases j:bK k k' with
  |true=>have:=aX j;subst this;exact m c' (cD ..)
  |false=>
   rcases cm.1 h with h|h
   ·cases h;simp at j
   ·exact ih h (λf i=>m f (cu _ i))
theorem wa(hs:Small args r)(h:AE args r m c):nu args r (c6 m)=c:=by refine yO (wb.2 h) (λc' j=> ?_);obtain⟨P,J,k,s,t⟩:=G4 hs h;obtain⟨x,u,f,i,d⟩:=G4 hs (wb.1 j);obtain⟨rfl,rfl⟩:=tI s i (k.symm.trans f);rw[t]at d;cases d;rfl
theorem qf(h:nu args r (c6 m)=.o o):AE args r m (.o o):=wb.1 (nz h (by simp))
theorem vh:∀{xs:aE AA} {j i:aN},(nK p j xs)[i]? =(xs[i]?).map (s4 p (j+i)):=by
 intro xs;induction xs with
 |nil=>intro j i;simp[nK]
 |cons a xs ih=>
  intro j i;cases i with
  |zero=>rfl
  |succ i=>simp only[nK,dD,ih];congr 2;omega
theorem uG:∀{xs:aE AA} {j:aN},(nK p j xs).length=xs.length:=by
 intro xs;induction xs with
 |nil=>intro j;rfl
 |cons a xs ih=>intro j;simp[nK,ih]
theorem DJ:∀{l:aE gg} {q i:aN},(kP q l)[i]? =(l[i]?).map (EW (q+i)):=by
 intro l;induction l with
 |nil=>intro q i;simp[kP]
 |cons a l ih=>
  intro q i;cases i with
  |zero=>rfl
  |succ i=>simp only[kP,dD,ih];congr 2;omega
theorem wu:∀{l:aE gg} {q:aN},(kP q l).length=l.length:=by
 intro l;induction l with
 |nil=>intro q;rfl
 |cons a l ih=>intro q;simp[kP,ih]
end Go.FG
namespace Go.FG
def lQ(L:aE J4):aE (aN×eW):=jV (L.map λt=>(t.1,t.2.2))
theorem il(L R:aE J4):lQ (L++R)=lQ L++lQ R:=by simp[lQ,jV]
def N8(ok:aY)(σ:St)(n:aN)(a:AA):Prop:=
 match a with
 |.ow _ ex _=>(ex=ao\/ok=ao)/\σ (c6 n)=.jw/\n<900000000
 |.sh _ _=>ok=ao|.kp _=>False|.fn _ _=>False|_=>True
def Nb(n x:aN)(a:AA):aE J4:=match a with|.ow e ex d=>[(n,ai x,.row e ex d)]|_=>[]
theorem Hj:(m,t,ob)∈Nb n x a↔∃e ex d,a=.ow e ex d/\m=n/\t=ai x/\ob=.row e ex d:=by
 cases a with
 |ow e ex d=>
  constructor
  ·intro h;have h:=a_.1 h;cases h;exact⟨e,ex,d,rfl,rfl,rfl,rfl⟩
  ·rintro ⟨j,f,i,h,rfl,rfl,rfl⟩;cases h;exact a_.2 rfl
 |_=>simp[Nb]
theorem lB.mono(h:lB ok L v v3)(hs:∀e∈L,e∈L'):lB ok L' v v3:=h.imp id (λ⟨n,x,ob,d,f,i⟩=>⟨n,x,ob,d,f,hs _ i⟩)
theorem nf.mono(h:nf ok L v v3)(hs:∀e∈L,e∈L'):nf ok L' v v3:=⟨h.1,λj x y d f=>(h.2 j x y d f).mono hs⟩
section
variable {P:de} {E:fW} {σ:St} {a:Act} {w:cB} {c:gn} {o:gK} {nm:aN} {e:sj}
theorem Db{ok:aY}{n:aN}{a:AA}{v:AV}{ws:aE (aN×eW)}(h:(qV ok n a).val σ=ai (v,ws)):N8 ok σ n a/\v=kO n a/\∀x,ws=lQ (Nb n x a)/\lB ok (Nb n x a) v (kO x a):=by
 cases a with
 |i=>obtain⟨rfl,rfl⟩:=bU (aJ h);exact⟨trivial,rfl,λx=>⟨rfl,.inl ⟨rfl,trivial⟩⟩⟩
 |b=>obtain⟨rfl,rfl⟩:=bU (aJ h);exact⟨trivial,rfl,λx=>⟨rfl,.inl ⟨rfl,trivial⟩⟩⟩
 |s=>obtain⟨rfl,rfl⟩:=bU (aJ h);exact⟨trivial,rfl,λx=>⟨rfl,.inl ⟨rfl,trivial⟩⟩⟩
 |nl=>obtain⟨rfl,rfl⟩:=bU (aJ h);exact⟨trivial,rfl,λx=>⟨rfl,.inl ⟨rfl,trivial⟩⟩⟩
 |sh e xs=>obtain⟨d,h⟩:=cG h;obtain⟨rfl,rfl⟩:=bU (aJ h);exact⟨d,rfl,λx=>⟨rfl,.inl ⟨rfl,d⟩⟩⟩
 |ow e ex xs=>obtain⟨d,h⟩:=cG h;obtain⟨u,k,h⟩:=Rd.bind_some h;obtain⟨rfl,rfl⟩:=bU (aJ h);obtain⟨f,j⟩:=kc k;exact⟨⟨by simpa using d,f,j⟩,rfl,λx=>⟨rfl,.inr ⟨n,x,_,rfl,rfl,a_.2 rfl⟩⟩⟩
 |kp=>simp[qV]at h
 |fn=>simp[qV]at h
theorem A2{ok:aY}{P:aN}:∀{xs:aE AA} {n j:aN} {vs:aE AV} {ws:aE (aN×eW)},(zZ ok n xs).val σ=ai (vs,ws)->vs=gf n xs/\(∀(i:aN) (a:AA),xs[i]? =ai a->N8 ok σ (n+i) a)/\
  ∃L,ws=lQ L/\(∀m t ob,(m,t,ob)∈L↔∃i e ex d,xs[i]? =ai (.ow e ex d)/\m=n+i/\t=ai (dF P (j+i))/\ob=.row e ex d)/\∀(i:aN) (v:AV) (a:AA),vs[i]? =ai v->xs[i]? =ai a->lB ok L v (kO (dF P (j+i)) a):=by
 intro xs;induction xs with
 |nil=>intro n j vs ws h;obtain⟨rfl,rfl⟩:=bU (aJ h);exact⟨rfl,λi a h=>by simp at h,[],rfl,λm t ob=>by simp,λi v a h=>by simp at h⟩
 |cons a xs ih=>
  intro n j vs ws h;obtain⟨⟨v,w1⟩,f,h⟩:=Rd.bind_some h;obtain⟨⟨N,O⟩,A,h⟩:=Rd.bind_some h;obtain⟨rfl,rfl⟩:=bU (aJ h);obtain⟨x,rfl,y⟩:=Db f;obtain⟨rfl,z⟩:=y (dF P j);obtain⟨B,C,L,rfl,I,K⟩:=ih (j:=j+1) A;refine⟨by rw[B];rfl,λi k hi=> ?_,Nb n (dF P j) a++L,by rw[il],λm t ob=> ?_,λi M k u s=> ?_⟩
  ·cases i with
   |zero=>cases hi;exact x
   |succ i=>have:=C i k hi;rwa[show n+1+i=n+(i+1)by omega]at this
  ·rw[bc,Hj,I];constructor
   ·rintro (⟨e,ex,d,rfl,rfl,rfl,rfl⟩|⟨i,e,ex,d,f,rfl,rfl,rfl⟩)
    ·exact⟨0,e,ex,d,rfl,rfl,rfl,rfl⟩
    ·exact⟨i+1,e,ex,d,f,by omega,by rw[show j+1+i=j+(i+1)by omega],rfl⟩
   ·rintro ⟨i,e,ex,d,f,rfl,rfl,rfl⟩;cases i with
    |zero=>cases f;exact .inl ⟨e,ex,d,rfl,rfl,rfl,rfl⟩
    |succ i=>exact .inr ⟨i,e,ex,d,f,by omega,by rw[show j+1+i=j+(i+1)by omega],rfl⟩
  ·cases i with
   |zero=>cases u;cases s;exact z.mono (λe r=>bY _ r)
   |succ i=>have:=(K i M k u s).mono (L':=Nb n (dF P j) a++L) (λe r=>bS _ r);rwa[show j+1+i=j+(i+1)by omega]at this
def Gz(σ:St)(ok:aY)(b P:aN)(x:gg)(L:aE J4)(n:aN)(t:aA aN)(ob:Obj):Prop:=
 (∃xs j e ex d,J9 x xs/\xs[j]? =ai (.ow e ex d)/\n=b+j/\t=ai (dF P j)/\ob=.row e ex d/\(ex=ao\/ok=ao)/\σ (c6 n)=.jw/\n<900000000)\/
 ∃xs,x=.pt xs/\n=b+30/\t=ai (dF P 900)/\ob=.box (gf b xs)/\σ (c6 n)=.jw/\n<900000000/\nf ok L (gf b xs) (gf (dF P 0) xs)
theorem Ix{ok:aY}{b P:aN}{x:gg}{s:aY×aE AV}{ws:aE (aN×eW)}(h:(EY ok b x).val σ=ai (s,ws)):∃L,ws=lQ L/\(∀n t ob,(n,t,ob)∈L->Gz σ ok b P x L n t ob)/\ArgRel ok L s (EW P x):=by
 have r:∀j,dF P (0+j)=dF P 0+j:=λj=>by unfold dF;omega
 cases x with
 |v g xs=>
  obtain⟨⟨vs,w1⟩,f,h⟩:=Rd.bind_some h;obtain⟨rfl,rfl⟩:=bU (aJ h);obtain⟨rfl,y,L,rfl,z,A⟩:=A2 (P:=P) (j:=0) f;refine⟨L,rfl,λn t ob hm=> ?_,rfl,by simp[EW,iw],λj v B m d=>.inl ?_⟩
  ·obtain⟨i,e,ex,C,f,rfl,rfl,rfl⟩:=(z n t ob).1 hm;have:=y i _ f;exact .inl ⟨xs,i,e,ex,C,.inl ⟨g,rfl⟩,f,rfl,by rw[bV],rfl,this⟩
  ·have d:(gf (dF P 0) xs)[j]? =ai B:=d;rw[hN]at d;cases k:xs[j]? with
   |none=>rw[k]at d;cases d
   |some a=>rw[k]at d;cases d;have:=A j v a m k;rwa[r]at this
 |pt xs=>
  obtain⟨⟨vs,w1⟩,f,h⟩:=Rd.bind_some h;obtain⟨u,M,h⟩:=Rd.bind_some h;obtain⟨rfl,rfl⟩:=bU (aJ h);obtain⟨I,K⟩:=kc M;obtain⟨rfl,y,L,rfl,z,A⟩:=A2 (P:=P) (j:=0) f;have cr:nf ok L (gf b xs) (gf (dF P 0) xs):=by
   refine⟨by rw[iw,iw],λj v B m d=> ?_⟩
   rw[hN]at d;cases k:xs[j]? with
   |none=>rw[k]at d;cases d
   |some a=>rw[k]at d;cases d;have:=A j v a m k;rwa[r]at this
  refine⟨L++[(b+30,ai (dF P 900),.box (gf b xs))],by rw[il];rfl,λn t ob hm=> ?_,rfl,rfl,λj v B m d=>.inr ?_⟩
  ·rcases bc.1 hm with hm|hm
   ·obtain⟨i,e,ex,C,f,rfl,rfl,rfl⟩:=(z n t ob).1 hm;have:=y i _ f;exact .inl ⟨xs,i,e,ex,C,.inr rfl,f,rfl,by rw[bV],rfl,this⟩
   ·rw[a_]at hm;cases hm;exact .inr ⟨xs,rfl,rfl,rfl,rfl,I,K,cr.mono (λe N=>bY _ N)⟩
  ·cases j with
   |zero=>cases m;cases d;exact⟨_,_,_,rfl,rfl,bS _ (a_.2 rfl)⟩
   |succ j=>simp at m
 |fb xs=>simp[EY]at h
theorem ArgRel.mono(h:ArgRel ok L s s3)(hs:∀e∈L,e∈L'):ArgRel ok L' s s3:=⟨h.1,h.2.1,λj x y k m=>(h.2.2 j x y k m).imp (λh=>h.mono hs) (λ⟨n,x,ob,d,f,i⟩=>⟨n,x,ob,d,f,hs _ i⟩)⟩
theorem Gz.mono{ok:aY}{b P:aN}{x:gg}{L L':aE J4}{n:aN}{t:aA aN}{ob:Obj}(h:Gz σ ok b P x L n t ob)(hs:∀e∈L,e∈L'):Gz σ ok b P x L' n t ob:=h.imp id (λ⟨xs,d,f,i,j,k,m,r⟩=>⟨xs,d,f,i,j,k,m,r.mono hs⟩)
theorem GM{ok:aY}:∀{l:aE gg} {b P:aN} {i:aE (aY×aE AV)} {ws:aE (aN×eW)},(A4 ok b l).val σ=ai (i,ws)->∃L,ws=lQ L/\(∀n t ob,(n,t,ob)∈L->∃q x,l[q]? =ai x/\Gz σ ok (b+40*q) (P+q) x L n t ob)/\DU ok L i (kP P l):=by
 intro l;induction l with
 |nil=>intro b P i ws h;obtain⟨rfl,rfl⟩:=bU (aJ h);exact⟨[],rfl,λn t ob h=>(by cases h),rfl,λj x M h=>by simp at h⟩
 |cons x l ih=>
  intro b P i ws h;obtain⟨⟨v,w1⟩,A,h⟩:=Rd.bind_some h;obtain⟨⟨I,K⟩,B,h⟩:=Rd.bind_some h;obtain⟨rfl,rfl⟩:=bU (aJ h);obtain⟨k,rfl,a1,a2⟩:=Ix (P:=P) A;obtain⟨m,rfl,r,u,z⟩:=ih (P:=P+1) B;refine⟨k++m,by rw[il],λn t ob hm=> ?_,by simp[kP,u],λj s s3 hs f=> ?_⟩
  ·rcases bc.1 hm with hm|hm
   ·exact⟨0,x,rfl,(a1 n t ob hm).mono (λe d=>bY _ d)⟩
   ·obtain⟨q,y,hq,C⟩:=r n t ob hm;refine⟨q+1,y,hq,?_⟩
    rw[show b+40*(q+1)=b+40+40*q by omega,show P+(q+1)=P+1+q by omega];exact C.mono (λe d=>bS _ d)
  ·cases j with
   |zero=>cases hs;cases f;exact a2.mono (λe d=>bY _ d)
   |succ j=>exact(z j s s3 hs f).mono (λe d=>bS _ d)
end
end Go.FG
namespace Go.FG
section
variable {P:de} {E:fW} {σ:St} {a:Act} {w:cB} {c:gn} {o:gK} {nm:aN} {e:sj}
def qB(σ:St)(ok f:aY)(b p j:aN)(k:Pk)(a:AA)(n:aN)(t:aA aN)(ob:Obj):Prop:=
 (∃e ex,k.src=.own n e ex/\t=aj/\ob=.dead)\/
 (∃e ex d,k.src=.own n e ex/\a=.kp d/\t=ai (dF p j)/\ob=.row e ex d/\(ex=ao\/ok=ao))\/
 ∃e ex d,f=ao/\a=.ow e ex d/\n=b+j/\t=ai (dF p (100+j))/\ob=.row e ex d/\(ex=ao\/ok=ao)/\σ (c6 n)=.jw/\n<900000000
theorem Rz{ok:aY}{b p j:aN}{k:Pk}{a:AA}{ws:aE (aN×eW)}(h:(DG ok k a).val σ=ai ws):∃L,ws=lQ L/\(∀n t ob,(n,t,ob)∈L->qB σ ok aq b p j k a n t ob)/\∀n e ex,k.src=.own n e ex->∃t ob,(n,t,ob)∈L:=by
 cases hs:k.src with
 |no=>
  have h:(Rd.ret []:Rd (aE (aN×eW))).val σ=ai ws:=by unfold DG at h;rw[hs]at h;exact h
  obtain rfl:=aJ h;exact⟨[],rfl,λn t ob h=>(by cases h),λn e ex h=>by cases h⟩
 |own n e ex=>
  cases a with
  |kp f=>
   have h:(bif ex||ok then Rd.ret [(c6 n,eW.o (.row e ex f))]else .fail).val σ=ai ws:=by unfold DG at h;rw[hs]at h;exact h
   obtain⟨r,h⟩:=cG h;obtain rfl:=aJ h;refine⟨[(n,ai (dF p j),.row e ex f)],rfl,λm t ob hm=> ?_,λm i d h=> ?_⟩
   ·rw[a_]at hm;cases hm;exact .inr (.inl ⟨e,ex,f,hs,rfl,rfl,rfl,by simpa using r⟩)
   ·cases h;exact⟨_,_,a_.2 rfl⟩
  |nl=>
   have h:(Rd.ret [(c6 n,eW.o .dead)]:Rd (aE (aN×eW))).val σ=ai ws:=by unfold DG at h;rw[hs]at h;exact h
   obtain rfl:=aJ h;refine⟨[(n,aj,.dead)],rfl,λm t ob hm=> ?_,λm i d h=> ?_⟩
   ·rw[a_]at hm;cases hm;exact .inl ⟨e,ex,hs,rfl,rfl⟩
   ·cases h;exact⟨_,_,a_.2 rfl⟩
  |_=>unfold DG at h;rw[hs]at h;simp at h
theorem Nk:∀{r:aE Pk} {l:aE AA} {j:aN} {ws:aE (aN×eW)},(Ju ok r l).val σ=ai ws->∃L,ws=lQ L/\(∀n t ob,(n,t,ob)∈L->∃i k,r[i]? =ai k/\qB σ ok aq b p (j+i) k (l.getD i .nl) n t ob)/\
  ∀(i:aN) (k:Pk) (n e:aN) (ex:aY),r[i]? =ai k->k.src=.own n e ex->∃t ob,(n,t,ob)∈L:=by
 intro r;induction r with
 |nil=>intro l j ws h;obtain rfl:=aJ h;exact⟨[],rfl,λn t ob h=>(by cases h),λi k n e ex h=>by simp at h⟩
 |cons k r ih=>
  intro l j ws h;obtain⟨w1,z,h⟩:=Rd.bind_some h;obtain⟨B,A,h⟩:=Rd.bind_some h;obtain rfl:=aJ h;obtain⟨f,rfl,a1,a2⟩:=Rz (b:=b) (p:=p) (j:=j) z;obtain⟨m,rfl,s,u⟩:=ih (j:=j+1) A;have x:l.headD .nl=l.getD 0 .nl:=by cases l<;>rfl
  have y:∀i,l.tail.getD i .nl=l.getD (i+1) .nl:=λi=>by cases l<;>simp
  refine⟨f++m,by rw[il],λn t ob hm=> ?_,λi k' n e ex hk hs=> ?_⟩
  ·rcases bc.1 hm with hm|hm
   ·exact⟨0,k,rfl,by rw[<-x];exact a1 n t ob hm⟩
   ·obtain⟨i,k',hk,d⟩:=s n t ob hm;rw[y]at d;exact⟨i+1,k',hk,by rw[show j+(i+1)=j+1+i by omega];exact d⟩
  ·cases i with
   |zero=>cases hk;obtain⟨t,ob,h⟩:=a2 n e ex hs;exact⟨t,ob,bY _ h⟩
   |succ i=>obtain⟨t,ob,h⟩:=u i k' n e ex hk hs;exact⟨t,ob,bS _ h⟩
theorem Ni{ok:aY}{b p j:aN}{k:Pk}{v d:AV}{a:AA}{ws:aE (aN×eW)}(I:∀n e ex,k.src=.own n e ex->v=.own n)(h:(BJ ok (b+j) k v a).val σ=ai (d,ws)):
  ∃L,ws=lQ L/\(∀n t ob,(n,t,ob)∈L->qB σ ok ao b p j k a n t ob)/\(∀n e ex,k.src=.own n e ex->∃t ob,(n,t,ob)∈L)/\lB ok L d (s4 p j a):=by
 have new:∀{d:AV} {ws:aE (aN×eW)},(qV ok (b+j) a).val σ=ai (d,ws)->∃L,ws=lQ L/\(∀n t ob,(n,t,ob)∈L->qB σ ok ao b p j k a n t ob)/\lB ok L d (s4 p j a):=by
  intro d ws h;obtain⟨y,rfl,A⟩:=Db h;obtain⟨rfl,B⟩:=A (dF p (100+j));refine⟨_,rfl,λn t ob hm=> ?_,?_⟩
  ·obtain⟨e,ex,r,rfl,rfl,rfl,rfl⟩:=Hj.1 hm;exact .inr (.inr ⟨e,ex,r,rfl,rfl,rfl,rfl,rfl,y⟩)
  ·have:s4 p j a=kO (dF p (100+j)) a:=by cases a<;>first|rfl|exact y.elim
   rw[this];exact B
 cases hs:k.src with
 |no=>
  have h:(qV ok (b+j) a).val σ=ai (d,ws):=by unfold BJ at h;rw[hs]at h;exact h
  obtain⟨L,rfl,a1,a2⟩:=new h;exact⟨L,rfl,a1,λm s f h=>(by cases h),a2⟩
 |own n e ex=>
  have i:((qV ok (b+j) a).bind λ(x:AV×aE (aN×eW))=>Rd.ret (x.1,(c6 n,eW.o .dead)::x.2)).val σ=ai (d,ws)->∃L,ws=lQ L/\(∀n t ob,(n,t,ob)∈L->qB σ ok ao b p j k a n t ob)/\(∀z s f,Src.own n e ex=.own z s f->∃t ob,(z,t,ob)∈L)/\lB ok L d (s4 p j a):=by
   intro h;obtain⟨⟨K,w1⟩,u,h⟩:=Rd.bind_some h;obtain⟨rfl,rfl⟩:=bU (aJ h);obtain⟨L,rfl,a1,a2⟩:=new u;refine⟨(n,aj,.dead)::L,rfl,λm t ob hm=> ?_,λm s f h=> ?_,a2.mono (λe C=>cu _ C)⟩
   ·rcases cm.1 hm with hm|hm
    ·cases hm;exact .inl ⟨e,ex,hs,rfl,rfl⟩
    ·exact a1 m t ob hm
   ·cases h;exact⟨_,_,cD ..⟩
  cases a with
  |kp r=>
   have h:(bif ex||ok then Rd.ret (v,[(c6 n,eW.o (.row e ex r))])else .fail).val σ=ai (d,ws):=by unfold BJ at h;rw[hs]at h;exact h
   obtain⟨u,h⟩:=cG h;obtain⟨rfl,rfl⟩:=bU (aJ h);refine⟨[(n,ai (dF p j),.row e ex r)],rfl,λm t ob hm=> ?_,λm s f h=> ?_,.inr ⟨n,dF p j,_,I n e ex hs,rfl,a_.2 rfl⟩⟩
   ·rw[a_]at hm;cases hm;exact .inr (.inl ⟨e,ex,r,hs,rfl,rfl,rfl,by simpa using u⟩)
   ·cases h;exact⟨_,_,a_.2 rfl⟩
  |_=>exact i (by unfold BJ at h;rw[hs]at h;exact h)
theorem Jr:∀{r:aE Pk} {vs:aE AV} {l:aE AA} {j:aN} {d:aE AV} {ws:aE (aN×eW)},(∀(i:aN) (k:Pk) (n e:aN) (ex:aY),r[i]? =ai k->k.src=.own n e ex->vs[i]? =ai (.own n))->(rn ok (b+j) r vs l).val σ=ai (d,ws)->
  l.length=r.length/\∃L,ws=lQ L/\(∀n t ob,(n,t,ob)∈L->∃i k,r[i]? =ai k/\qB σ ok ao b p (j+i) k (l.getD i .nl) n t ob)/\
  (∀(i:aN) (k:Pk) (n e:aN) (ex:aY),r[i]? =ai k->k.src=.own n e ex->∃t ob,(n,t,ob)∈L)/\d.length=l.length/\∀(i:aN) (v:AV) (a:AA),d[i]? =ai v->l[i]? =ai a->lB ok L v (s4 p (j+i) a):=by
 intro r;induction r with
 |nil=>
  intro vs l j d ws u h;cases vs with
  |cons=>cases l<;>simp[rn]at h
  |nil=>
   cases l with
   |cons=>simp[rn]at h
   |nil=>obtain⟨rfl,rfl⟩:=bU (aJ h);exact⟨rfl,[],rfl,λn t ob h=>(by cases h),λi k n e ex h=>by simp at h,rfl,λi v a h=>by simp at h⟩
 |cons k r ih=>
  intro vs l j d ws u h;cases vs with
  |nil=>cases l<;>simp[rn]at h
  |cons v vs=>
   cases l with
   |nil=>simp[rn]at h
   |cons a l=>
    obtain⟨⟨Q,w1⟩,K,h⟩:=Rd.bind_some h;obtain⟨⟨R,S⟩,M,h⟩:=Rd.bind_some h;obtain⟨rfl,rfl⟩:=bU (aJ h);obtain⟨x,rfl,a1,a2,a3⟩:=Ni (p:=p) (λn e ex hs=>by have:=u 0 k n e ex rfl hs;simpa using this) K;obtain⟨i0,y,rfl,A,B,C,I⟩:=ih (j:=j+1) (λi k' n e ex hk hs=>u (i+1) k' n e ex hk hs) M;refine⟨by simp[i0],x++y,by rw[il],λn t ob hm=> ?_,λi k' n e ex hk hs=> ?_,by simp[C],λi O z m f=> ?_⟩
    ·rcases bc.1 hm with hm|hm
     ·exact⟨0,k,rfl,a1 n t ob hm⟩
     ·obtain⟨i,k',hk,N⟩:=A n t ob hm;exact⟨i+1,k',hk,by rw[show j+(i+1)=j+1+i by omega];exact N⟩
    ·cases i with
     |zero=>cases hk;obtain⟨t,ob,h⟩:=a2 n e ex hs;exact⟨t,ob,bY _ h⟩
     |succ i=>obtain⟨t,ob,h⟩:=B i k' n e ex hk hs;exact⟨t,ob,bS _ h⟩
    ·cases i with
     |zero=>cases m;cases f;exact a3.mono (λe s=>bY _ s)
     |succ i=>have:=(I i O z m f).mono (L':=x++y) (λe s=>bS _ s);rwa[show j+1+i=j+(i+1)by omega]at this
def Gw(σ:St)(ok:aY)(b p:aN)(pa:Pa)(l:aE AA)(L:aE J4)(n:aN)(t:aA aN)(ob:Obj):Prop:=
 (∃i k,pa.cs[i]? =ai k/\qB σ ok pa.box.isSome b p i k (l.getD i .nl) n t ob)\/∃xs d,pa.box=ai (n,xs)/\t=ai (dF p 900)/\ob=.box d/\nf ok L d (nK p 0 l)
theorem Ry(z:zr T σ w c ou pa v)(h:(Rx ok b pa l).val σ=ai ws):
  ∃L,ws=lQ L/\(∀n t ob,(n,t,ob)∈L->Gw σ ok b p pa l L n t ob)/\∀n∈pa.tG,∃t ob,(n,t,ob)∈L:=by
 have cs:∀n,n∈pa.cs.flatMap (·.tG)->∃(i:aN) (k:Pk) (e:aN) (ex:aY),pa.cs[i]? =ai k/\k.src=.own n e ex:=by
  intro n s;obtain⟨k,hk,s⟩:=bM.1 s;obtain⟨i,hi⟩:=bX hk;unfold Pk.tG at s;split at s
  ·rename_i m e ex hs;have:=a_.1 s;subst this;exact⟨i,k,e,ex,hi,hs⟩
  ·cases s
 unfold Rx at h;split at h
 ·rename_i n xs f;obtain⟨⟨r,w1⟩,B,h⟩:=Rd.bind_some h;obtain rfl:=aJ h;obtain⟨_,_,_,hl,_,x⟩:=z.box n xs f;obtain⟨i0,L,rfl,a1,a2,a3,a4⟩:=Jr (b:=b) (p:=p) (j:=0) x (by rw[zQ];exact B);have cr:nf ok L r (nK p 0 l):=by
   refine⟨by rw[uG,a3],λi v K I d=> ?_⟩
   rw[vh]at d;cases A:l[i]? with
   |none=>rw[A]at d;cases d
   |some y=>rw[A]at d;cases d;exact a4 i v y I A
  refine⟨L++[(n,ai (dF p 900),.box r)],by rw[il];rfl,λm t ob hm=> ?_,λm hm=> ?_⟩
  ·rcases bc.1 hm with hm|hm
   ·obtain⟨i,k,hk,u⟩:=a1 m t ob hm;rw[bV]at u;exact .inl ⟨i,k,hk,by rw[f];exact u⟩
   ·rw[a_]at hm;cases hm;exact .inr ⟨xs,r,f,rfl,rfl,cr.mono (λe C=>bY _ C)⟩
  ·unfold Pa.tG at hm;rw[f]at hm;rcases bc.1 hm with hm|hm
   ·have:=a_.1 hm;subst this;exact⟨_,_,bS _ (a_.2 rfl)⟩
   ·obtain⟨i,k,e,ex,hk,hs⟩:=cs m hm;obtain⟨t,ob,h⟩:=a2 i k m e ex hk hs;exact⟨t,ob,bY _ h⟩
 ·rename_i f;obtain⟨L,rfl,a1,a2⟩:=Nk (b:=b) (p:=p) (j:=0) h;refine⟨L,rfl,λm t ob hm=> ?_,λm hm=> ?_⟩
  ·obtain⟨i,k,hk,u⟩:=a1 m t ob hm;rw[bV]at u;exact .inl ⟨i,k,hk,by rw[f];exact u⟩
  ·unfold Pa.tG at hm;rw[f,eJ]at hm;obtain⟨i,k,e,ex,hk,hs⟩:=cs m hm;exact a2 i k m e ex hk hs
theorem Gw.mono(h:Gw σ ok b p pa l L n t ob)(hs:∀e∈L,e∈L'):Gw σ ok b p pa l L' n t ob:=
 h.imp id (λ⟨xs,d,f,i,j,k⟩=>⟨xs,d,f,i,j,k.mono hs⟩)
theorem Nj:∀{ps:aE Pa} {b p:aN} {os:aE (aE AA)} {ws:aE (aN×eW)},(∀(q:aN) (pa:Pa),ps[q]? =ai pa->∃v,zr T σ w c ou pa v)->(Jt ok b ps os).val σ=ai ws->
  ∃L,ws=lQ L/\(∀n t ob,(n,t,ob)∈L->∃q pa,ps[q]? =ai pa/\Gw σ ok (b+40*q) (p+q) pa (os.getD q []) L n t ob)/\∀n∈ps.flatMap (·.tG),∃t ob,(n,t,ob)∈L:=by
 intro ps;induction ps with
 |nil=>intro b p os ws _ h;obtain rfl:=aJ h;exact⟨[],rfl,λn t ob h=>(by cases h),λn h=>(by cases h)⟩
 |cons pa ps ih=>
  intro b p os ws j h;obtain⟨w1,B,h⟩:=Rd.bind_some h;obtain⟨I,C,h⟩:=Rd.bind_some h;obtain rfl:=aJ h;obtain⟨v,m⟩:=j 0 pa rfl;obtain⟨s,rfl,a1,a2⟩:=Ry (p:=p) m B;obtain⟨u,rfl,x,y⟩:=ih (p:=p+1) (λq d hq=>j (q+1) d hq) C;have z:os.headD []=os.getD 0 []:=by cases os<;>rfl
  have A:∀i,os.tail.getD i []=os.getD (i+1) []:=λi=>by cases os<;>simp
  refine⟨s++u,by rw[il],λn t ob hm=> ?_,λn f=> ?_⟩
  ·rcases bc.1 hm with hm|hm
   ·exact⟨0,pa,rfl,by rw[<-z];exact(a1 n t ob hm).mono (λe k=>bY _ k)⟩
   ·obtain⟨q,d,hq,r⟩:=x n t ob hm;rw[A]at r;refine⟨q+1,d,hq,?_⟩
    rw[show b+40*(q+1)=b+40+40*q by omega,show p+(q+1)=p+1+q by omega];exact r.mono (λe k=>bS _ k)
  ·rw[xD]at f;rcases bc.1 f with f|f
   ·obtain⟨t,ob,h⟩:=a2 n f;exact⟨t,ob,bY _ h⟩
   ·obtain⟨t,ob,h⟩:=y n f;exact⟨t,ob,bS _ h⟩
theorem Qj:∀{l:aE aN} {ws:aE (aN×eW)},(Qi l).val σ=ai ws->∃Fz:aE (aN×Obj),ws=jV Fz/\(∀n x,(n,x)∈Fz->n∈l/\∃el ex xs,σ (c6 n)=.o (.row el ex xs)/\x=.fL el xs)/\∀n∈l,∃x,(n,x)∈Fz:=by
 intro l;induction l with
 |nil=>intro ws h;obtain rfl:=aJ h;exact⟨[],rfl,λn x h=>(by cases h),λn h=>(by cases h)⟩
 |cons m l ih=>
  intro ws h;obtain⟨ob,hg,h⟩:=Rd.bind_some h;have hg:=dh hg;cases ob with
  |row el ex xs=>
   obtain⟨w1,d,h⟩:=Rd.bind_some h;obtain rfl:=aJ h;obtain⟨Fz,rfl,a1,a2⟩:=ih d;refine⟨(m,.fL el xs)::Fz,rfl,λn x hm=> ?_,λn f=> ?_⟩
   ·rcases cm.1 hm with hm|hm
    ·cases hm;exact⟨cD ..,el,ex,xs,hg,rfl⟩
    ·obtain⟨d,i⟩:=a1 n x hm;exact⟨cu _ d,i⟩
   ·rcases cm.1 f with rfl|f
    ·exact⟨_,cD ..⟩
    ·obtain⟨x,h⟩:=a2 n f;exact⟨x,cu _ h⟩
  |_=>simp at h
end
end Go.FG
namespace Go.FG
section
variable {P:de} {E:fW} {σ:St} {a:Act} {w:cB} {c:gn} {o:gK} {nm:aN} {e:sj}
theorem agP(h:zr T σ w c ou pa v):∃xs,J9 pa.arg xs/\xs=pa.cs.map (·.a)/\∀(j:aN) (k:Pk),pa.cs[j]? =ai k->∃u,uW T σ w c ou k u:=by
 have d:J9 pa.arg (pa.cs.map (·.a)):=by
  cases f:pa.box with
  |none=>obtain⟨g,d,_⟩:=h.val f;exact .inl ⟨g,d⟩
  |some i=>obtain⟨n,xs⟩:=i;exact .inr (h.box n xs f).1
 exact⟨_,d,rfl,(RB h d).2⟩
theorem Ur{l:aE AA}{i:aN}{f:Row}(h:l.getD i .nl=.kp f):l[i]? =ai (.kp f):=by
 rw[dK]at h;cases d:l[i]? with
 |none=>rw[d]at h;cases h
 |some x=>rw[d]at h;rw[<-h];rfl
theorem DL{f:aN}{fn:Func}{vs d:eF bP}{cl:Call}{j:eQ}(t:o.op=.call cl)(k:cl.callee=.value j)(r:P.funcs[f]? =ai fn)(u:fn.body.isSome=ao)(s:(fn.name== "runtime.NumGoroutine")=aq)(m:a.eval j=.func (.func f) #[] d):
  (execOp a.eval o).run P w=.ok (.enter f (cl.args.map a.eval++d)) w:=by
 have i:fn.body.isNone=false:=by cases h:fn.body<;>simp_all
 unfold execOp;rw[t];simp only[resolve,k,m,Deferred.ofValue,cg,cU,bH,invoke,callFunc,program,mI,r,s,i,db,if_false,Array.empty_append]
def nameOf(nm:aN)(ps:aE Pa)(P J:aN):aA aN:=
 if 500<=P then ai (if J=900 then nm+1+40*(P-500)+30 else nm+1+40*(P-500)+J)
 else if J<100\/J=900 then loc ps (dF P J)else ai (nm+400+40*P+(J-100))
theorem oi:∀{l r:aE aN},qT l r=ao->∀n∈l,n∉r
 |[],_,_,n,h=>by cases h
 |m::l,r,h,n,d=>by
  simp only[qT,aM,dt]at h;rcases cm.1 d with rfl|d
  ·exact pU h.1
  ·exact oi h.2 n d
theorem Hp(hE:dY P E)(hF:∀g,kT P E g (E.call g))(x4:Ok E σ w c)(xg:e6 E σ a w c)(hd:∀d,o.dst=ai d->d<a.tmps.size){cl:Call}{fx:eQ}(ho:o.op=.call cl)(hb:cl.callee=.value fx){f:aN}{z:aE (aE CV)}(ef:ed E w c (.fn f z) (a.eval fx)){y0:aA (aE aN)}(h:(E8 E nm o f cl.args.toList y0 z).val σ=ai e)(hc:e.cond=ao):gw P E σ a w c o e.ws:=by
  obtain⟨x6,he,xe,x1⟩:=ef;unfold E8 at h;obtain⟨ps,h2,h⟩:=Rd.bind_some h;obtain⟨h3,h⟩:=cG h;simp only[aM]at h3;obtain⟨C,xv⟩:=PV x4 xg h2;split at h
  ·rename_i xm r hz;obtain⟨h4,h⟩:=cG h;simp only[aM]at h4;obtain⟨w0,h5,h⟩:=Rd.bind_some h;obtain⟨w1,h6,h⟩:=Rd.bind_some h;obtain⟨⟨ss,w2⟩,h7,h⟩:=Rd.bind_some h;obtain⟨h8,h⟩:=cG h;obtain rfl:=aJ h;have hc:xm=true:=hc;subst hc;have y4:=cM h4.1.1;have xh:∀{q:aN} {pa:Pa},ps[q]? =ai pa->∀n∈pa.ou,n∈ps.flatMap (·.ou):=λhq n y=>bM.2 ⟨_,aU hq,y⟩;have hh:Handed E σ w c ps z (cl.args.map a.eval++x6):=by
    refine⟨by simp[xe,C],λq pa hq=> ?_,λq cs hq=> ?_,ql h3.1,oi h3.2⟩
    ·obtain⟨x,s,hp⟩:=xv q pa hq;rw[cR]at s;have xf:=(dr.1 s).1;exact⟨a.eval x,by rw[CW (by simpa using xf),Mm,s];rfl,hp.mono (xh hq)⟩
    ·obtain⟨b,xp,X⟩:=x1 q cs hq;refine⟨b,?_,X⟩
     rw[Array.getElem?_append_right (by simp[C]),<-xp];congr 1;simp[C]
   have S:∀(q:aN) (pa:Pa),ps[q]? =ai pa->∃v,zr E σ w c (ps.flatMap (·.ou)) pa v:=λq pa hq=>by obtain⟨v,_,h⟩:=hh.at_ q pa hq;exact⟨v,h⟩
   obtain⟨xb,xi,_⟩:=enter x4 hh;have xy:(cl.args.map a.eval++x6).size=(js ps z).length:=by simp[js,xe,C]
   have h9:E.call f (js ps z)=ai (ao,r):=hz;obtain⟨⟨fn,g1,g2,g3⟩,hr⟩:=hF f _ r h9 w (qd σ c ps) _ xb xy xi;obtain⟨Fz,rfl,z1,z2⟩:=Qj h5;obtain⟨Lo,rfl,l1,l2⟩:=Nj (p:=0) S h6;obtain⟨Lr,rfl,m1,m2⟩:=GM (P:=500) h7;generalize hy:(E.tk nm||(ps.flatMap (·.ou)).isEmpty)=ok at l1 m1 m2;have I:Small (js ps z) r:=by
    refine⟨λp x xs hp s=> ?_,λq x xs hq s=> ?_,λp=> ?_⟩
    ·rcases u_ hp with ⟨pa,hq,_⟩|⟨_,cs,_,rfl⟩
     ·have:=(aW.1 hq).1;omega
     ·rcases s with ⟨g,s⟩|s<;>cases s
    ·have:=bz.1 h4.1.2 x (aU hq);have:=cM this;rcases s with ⟨g,rfl⟩|rfl<;>(simp only[mM]at this;omega)
    ·rw[dK];cases s:r.outs[p]? with
     |none=>simp
     |some l=>have:=bz.1 h4.2 l (aU s);exact cM this
   have A:∀{q:aN} {pa:Pa},ps[q]? =ai pa->(js ps z)[q]? =ai pa.arg:=λ{q} {pa} hq=>by have:=(aW.1 hq).1;unfold js;rw[dj (by simpa using this),bI,hq];rfl
   have U:∀{q:aN} {pa:Pa} {n:aN},ps[q]? =ai pa->n∈pa.tG->n∈ps.flatMap (·.tG):=λhp y=>bM.2 ⟨_,aU hp,y⟩;have hw:∀{q i n e:aN} {ex:aY} {pa:Pa} {k:Pk},ps[q]? =ai pa->pa.cs[i]? =ai k->k.src=.own n e ex->n∈ps.flatMap (·.tG):=λhq hk hs=>U hq (bS _ (bM.2 ⟨_,aU hk,by simp[Pk.tG,hs]⟩));have x7:∀{q i:aN} {pa:Pa} {k:Pk},ps[q]? =ai pa->pa.cs[i]? =ai k->i<100:=λhq hk=>by obtain⟨v,hv⟩:=S _ _ hq;have:=(aW.1 hk).1;have:=hv.len;omega
   unfold gw;intro K Q hK;unfold Mq;rw[DL (vs:=cl.args.map a.eval++x6) ho hb g1 g2 g3 he,S3];refine Calls.mono hr (λen xl hR=> ?_);cases en with
   |panicked=>exact hR.elim
   |outgrown=>exact hR.elim
   |returned v=>
    obtain⟨c3,xc,xr,xo,xx⟩:=hR;have x8:∀m,inj (js ps z) (c6 m)≠ .jw->c3.P m=(qd σ c ps).P m/\c3.G m=(qd σ c ps).G m:=xo;have hL:∀n t ob,(n,t,ob)∈Lo++Lr->WT σ (nu (js ps z) r) c c3 ok (ps.flatMap (·.tG)) (Lo++Lr) n t ob/\∀x,t=ai x->∃PP J,x=dF PP J/\J<1000/\nameOf nm ps PP J=ai n:=by
     intro n t ob hm;rcases bc.1 hm with hm|hm
     ·obtain⟨q,pa,hq,xa⟩:=l1 n t ob hm;obtain⟨v0,xj⟩:=S q pa hq;obtain⟨xs,x5,xk,ht⟩:=agP xj;have xf:=(aW.1 hq).1;rw[bV]at xa;rcases xa with ⟨i,k,hk,xq⟩|⟨Y,y3,N,rfl,rfl,x2⟩
      ·have hi:=x7 hq hk;rcases xq with ⟨V,ex,hs,rfl,rfl⟩|⟨V,ex,Y,hs,ha,rfl,rfl,O⟩|⟨V,ex,Y,N,ha,rfl,rfl,rfl,O,X,R⟩
       ·refine⟨⟨λ_=>hw hq hk hs,λy=> ?_,λ_=>rfl,λx s=>(by cases s)⟩,λx s=>(by cases s)⟩
        obtain⟨u,hu⟩:=ht i k hk;unfold uW at hu;rw[hs]at hu;obtain⟨zs,hg,_⟩:=hu;rw[hg]at y;cases y
       ·obtain⟨u,hu⟩:=ht i k hk;unfold uW at hu;rw[hs]at hu;obtain⟨zs,hg,x9,_⟩:=hu;refine⟨⟨λ_=>hw hq hk hs,λy=>(by rw[hg]at y;cases y),λs=>(by cases s),λx s=> ?_⟩,λx s=> ?_⟩
        ·cases s;refine⟨λ_=> ?_,.inl ⟨V,ex,Y,rfl,?_,O⟩⟩
         ·obtain⟨q1,q2⟩:=x8 (dF q i) ((qj (A hq)).2 xs i V ex zs x5 (by rw[xk,bI,hk];simp[x9]));obtain⟨q3,q4⟩:=tC (σ:=σ) (c:=c) (Fu hq hk hs (by omega));exact⟨q1.trans q3,q2.trans q4⟩
         ·exact wa I (.kp q pa.arg xs i V ex zs Y (A hq) x5 (by rw[xk,bI,hk];simp[x9]) (Ur ha))
        ·cases s;refine⟨q,i,rfl,by omega,?_⟩
         unfold nameOf;rw[bh (by omega),bm (.inl hi)];exact Fu hq hk hs (by omega)
       ·have xt:=Fm.1 ha;refine⟨⟨λy=>cJ X y,λ_=>R,λs=>(by cases s),λx s=> ?_⟩,λx s=> ?_⟩
        ·cases s;exact⟨λy=>cJ X y,.inl ⟨V,ex,Y,rfl,wa I (.nw q pa.arg xs i V ex Y (A hq) x5 xt),O⟩⟩
        ·cases s;refine⟨q,100+i,rfl,by omega,?_⟩
         unfold nameOf;rw[bh (by omega),bh (by omega)];congr 1;omega
      ·obtain⟨p1,p2,p3,_⟩:=xj.box n Y N;refine⟨⟨λ_=>U hq (by simp[Pa.tG,N]),λy=>(by rw[p3]at y;cases y),λs=>(by cases s),λx s=> ?_⟩,λx s=> ?_⟩
       ·cases s;refine⟨λ_=> ?_,.inr ⟨y3,_,rfl,wa I (.ob q _ (by rw[A hq,p1])),x2.mono (λe he=>bY _ he)⟩⟩
        obtain⟨q1,q2⟩:=x8 (dF q 900) ((qj (A hq)).1 _ p1);obtain⟨q3,q4⟩:=tC (σ:=σ) (c:=c) (Aj hq N);exact⟨q1.trans q3,q2.trans q4⟩
       ·cases s;refine⟨q,900,rfl,by omega,?_⟩
        unfold nameOf;rw[bh (by omega),bm (.inr rfl)];exact Aj hq N
     ·obtain⟨q,x0,hq,xw⟩:=m1 n t ob hm;rcases xw with ⟨xs,j,V,ex,Y,s,hj,rfl,rfl,rfl,O,X,R⟩|⟨xs,rfl,rfl,rfl,rfl,X,R,x2⟩
      ·have y5:=(aW.1 hj).1;have:=I.rl q x0 xs hq s;refine⟨⟨λy=>cJ X y,λ_=>R,λs=>(by cases s),λx B=> ?_⟩,λx B=> ?_⟩
       ·cases B;exact⟨λy=>cJ X y,.inl ⟨V,ex,Y,rfl,wa I (.rr q x0 xs j V ex Y hq s hj),O⟩⟩
       ·cases B;refine⟨500+q,j,rfl,by omega,?_⟩
        unfold nameOf;rw[bm (by omega),bh (by omega),show 500+q-500=q by omega]
      ·refine⟨⟨λy=>cJ X y,λ_=>R,λs=>(by cases s),λx B=> ?_⟩,λx B=> ?_⟩
       ·cases B;exact⟨λy=>cJ X y,.inr ⟨_,_,rfl,wa I (.rb q xs hq),x2.mono (λe he=>bS _ he)⟩⟩
       ·cases B;refine⟨500+q,900,rfl,by omega,?_⟩
        unfold nameOf;rw[bm (by omega),bm rfl,show 500+q-500=q by omega]
    have xu:((Lo++Lr).map (·.1)).Nodup:=by
     have:=ql h8;rw[<-il]at this;unfold lQ jV at this;rw[jk,jk]at this;have e1:(Lo++Lr).map (((λx:aN×eW=>x.1)∘λd:aN×Obj=>(c6 d.1,eW.o d.2))∘λt:J4=>(t.1,t.2.2))=((Lo++Lr).map (·.1)).map c6:=by rw[jk];rfl
     rw[e1]at this;exact q_ this
    have xd:ok=ao->∀n∈ps.flatMap (·.ou),∃x,(n,x)∈Fz:=by
     intro hk n y;rw[<-hy]at hk;cases M:E.tk nm with
     |true=>rw[M]at z2;exact z2 n y
     |false=>
      rw[M]at hk;have:ps.flatMap (·.ou)=[]:=by simpa using hk
      rw[this]at y;cases y
    have xn:∀n x,(n,x)∈Fz->ok=ao/\n∈ps.flatMap (·.ou)/\∃el ex xs,σ (c6 n)=.o (.row el ex xs)/\x=.fL el xs:=by
     intro n x y;obtain⟨y1,y2⟩:=z1 n x y;cases M:E.tk nm with
     |true=>rw[M]at y1;exact⟨by rw[<-hy,M];rfl,y1,y2⟩
     |false=>rw[M]at y1;cases y1
    have xz:jV Fz++(lQ Lo++lQ Lr)++dw o (rO ss)=jV (Fz++(Lo++Lr).map λt=>(t.1,t.2.2))++dw o (rO ss):=by rw[<-il];simp only[lQ,jV,cO]
    obtain⟨c',k1,k2,k3,k4⟩:=leave x4 xg hd hh xc xr xx (L:=Lo++Lr) (Fz:=Fz) (λn t ob hm=>(hL n t ob hm).1) xu
     (λn n' x ob ob' h1 h2=>by obtain⟨P1,J1,e1,e2,e3⟩:=(hL n _ ob h1).2 x rfl;obtain⟨P2,J2,f1,f2,f3⟩:=(hL n' _ ob' h2).2 x rfl;obtain⟨rfl,rfl⟩:=tI e2 f2 (e1.symm.trans f1);rw[e3]at f3;exact aJ f3)
     (λn y=>by obtain⟨t,ob,h⟩:=l2 n y;exact⟨t,ob,bY _ h⟩) xn xd
     (show DU ok (Lo++Lr) ss (kP 500 r.rs)from⟨m2.1,λj x x3 s ht=>(m2.2 j x x3 s ht).mono (λe he=>bS _ he)⟩)
    show K (a.put o.dst v) xl;rw[<-xz]at k1 k2 k3;exact hK v xl c' k1 k2 k3 k4.w
  ·simp at h
theorem FK(j:Ok E σ w c)(R:e6 E σ a w c)(hd:∀d,o.dst=ai d->d<a.tmps.size)
  (V:σ (c6 nm)=.o ob) (N:ph E w' c nm ob') (t:∀b,fu c nm ob' b->fu c nm ob b)
  (C:∀xs,ob'=.box xs->∀a∈xs,iU σ a)
  (S:iM E w' c s v) (I:mf σ s)
  (Y:∀b,b<w.heap.size->¬fu c nm ob b->w'.heap[b]? =w.heap[b]?) (z:w.heap.size<=w'.heap.size) (O:w'.os=w.os) (U:w'.tape=w.tape) (Q:w'.output=w.output):
  Ok E (wr σ ([(c6 nm,.o ob')]++dw o s)) w' c/\e6 E (wr σ ([(c6 nm,.o ob')]++dw o s)) (a.put o.dst v) w' c/\Grow σ c w (wr σ ([(c6 nm,.o ob')]++dw o s)) c w':=by
 let σ1:=ox σ (c6 nm) (.o ob');obtain⟨s1,X,s3⟩:=pC σ1 o s;have key:∀m,wr σ1 (dw o s) (c6 m)=if m=nm then .o ob' else σ (c6 m):=λm=>by rw[s3];exact oc _ _ _ _
 have k:∀m,σ (c6 m)≠ .jw->wr σ1 (dw o s) (c6 m)≠ .jw:=λm hm=>by rw[key];split<;>simp_all
 have u:∀b,fu c nm ob b->jM (λm=>m=nm) σ c b:=λb r=>⟨nm,ob,rfl,V,r⟩
 have B:=j.change (σ':=wr σ1 (dw o s)) (w':=w') (c':=c) (λm=>m=nm) (λm hm=>by rw[key,bh hm]) k (ji.refl _ _)
  (λb r M=>Y b r (λA=>M (u b A))) z (λ_ h=>h) (λ_ h=>.inl h) (λb r=>iB (j.lt b r) z)
  (λm x hm f=>by subst hm;rw[key,bm rfl]at f;cases f;exact N)
  (λm x b hm f A=>by subst hm;rw[key,bm rfl]at f;cases f;exact⟨.inl (u b (t b A)),j.kk _ _ b V (t b A)⟩)
  (λm x m' x' b hm K _ _ _ _=>by rw[hm,K])
  (λm xs hm f y hy n i=>by subst hm;rw[key,bm rfl]at f;cases f;exact k n (C xs rfl y hy n i)) O U Q
 refine⟨B.1,?_,B.2⟩
 refine R.change j B.2 (ji.refl _ _) k o v (λn i=>by rw[s1 n i];exact iu _ _ _ _) (λd f=>⟨hd d f,?_,?_⟩)
 ·rw[X d f];exact S
 ·rw[X d f];intro n i;rw[key];split
  ·simp
  ·exact I n i
theorem Jo(hE:dY P E)(hF:∀g,kT P E g (E.call g))(B:Ok E σ w c)(xe:e6 E σ a w c)(hd:∀d,o.dst=ai d->d<a.tmps.size)(ho:o.op=.call cl)(hb:cl.callee=.value fx)(Y:cl.args.toList=[x,y])
  (ef:ed E w c (.fn f []) (a.eval fx)) (hx:ed E w c (.lR n i j) (a.eval x)) (h:(Bq E o f n i j y).val σ=ai e) (hc:e.cond=ao):gw P E σ a w c o e.ws:=by
 unfold Bq at h;obtain⟨⟨k,m⟩,S,h⟩:=Rd.bind_some h;have ey:=pA xe S;obtain⟨ob,U,h⟩:=Rd.bind_some h;have hg:=dh U;split at h
 ·rename_i el xs;obtain⟨te,h3,h⟩:=Rd.bind_some h;have h6:=dE h3;split at h
  ·rename_i V hy;split at h
   ·rename_i xg r A;split at h
    ·rename_i k2 m2 t xd xc;obtain rfl:=aJ h;have hc:xg=true:=hc;subst hc;obtain⟨⟨hi,xf⟩,_⟩:=hx;obtain⟨zs,yy,t2,r1,r2,r3,r4,r5,r6,r7,r8⟩:=wk B hg h6 hy hi;rw[eI r1 r2]at A;simp only[iH]at A;obtain⟨⟨t1,q1,xr,jG⟩,hj,h7⟩:=B.obj n _ hg;obtain rfl:te=t1:=aJ (h6.symm.trans q1);have xk:i<xs.length:=(aW.1 r1).1;obtain⟨M,pv,xw⟩:=hj.pos hi;have I:fT xs i j:=⟨yy,_,r1,r2,rfl⟩
     generalize hq:c.G n i j=p at r5 r7 r8 xf;let c1:gn:=⟨λ_=>p,λ_ _ _=>⟨ao,0,0,0,0,0⟩,c.K⟩
     let args:aE gg:=[.v aq [.ow V ao zs],.v aq [.i k m]]
     have hO:∀q o',inj args (c6 q)=.o o'->q=dF 0 0/\o'=.row V ao zs:=by
      intro q o' xp;have hm:=nz xp (by simp);simp only[args,I8,rL,uF,sQ,Dv,cm,cZ,eJ,nD,ld,or_false,iS]at hm;rcases hm with ⟨hm,_⟩|⟨hm,h⟩|⟨hm,_⟩
      ·exact cJ hm (lM _ _)
      ·exact⟨jI hm,eW.o.inj h⟩
      ·exact cJ hm (lM _ _)
     have hX:inj args (c6 (dF 0 0))=.o (.row V ao zs):=rfl;have C:∀i j,¬fT zs i j:=by rintro i j ⟨y,x,S,U,h3⟩;rw[gF r4 (r6 y (aU S)) U]at h3;cases h3
     have h4:∀b,fu c1 (dF 0 0) (.row V ao zs) b->p.nil=aq/\b=p.blk:=by
      rintro b (⟨S,U⟩|⟨_,i,j,h,_⟩)
      ·exact⟨S,U⟩
      ·exact cJ h (C i j)
     have x9:p.nil=aq->fu c n (.row el ao xs) p.blk:=λz=>.inr ⟨rfl,i,j,I,by rw[hq];exact z,by rw[hq]⟩;have x7:Ok E (inj args) w c1:=by
      refine⟨?_,?_,?_,?_,?_,B.gp⟩
      ·intro q o' h;obtain⟨rfl,rfl⟩:=hO q o' h;exact⟨⟨t2,r3,r5,r6⟩,r7.frame (λ_=>rfl) (λi j y x u S U hr=>by rw[bm rfl];exact tN (gF r4 (r6 y (aU S)) U) hr),λ_=>⟨λi j h=>cJ h (C i j),λi j i' j' h=>cJ h (C i j)⟩⟩
      ·intro q o' q' xt b h h' _ _;rw[(hO q o' h).1,(hO q' xt h').1]
      ·intro q o' b h hf hk;obtain⟨rfl,rfl⟩:=hO q o' h;obtain⟨z,rfl⟩:=h4 b hf;exact B.kk _ _ _ hg (x9 z) hk
      ·exact B.lt
      ·intro q bs h;obtain⟨_,h⟩:=hO q _ h;cases h
     have xx:(cl.args.map a.eval).size=args.length:=by
      have:cl.args.size=2:=by rw[<-dn,Y];rfl
      simp[args,this]
     have xj:cl.args.map a.eval= #[a.eval x,a.eval y]:=by apply sb;rw[zm,Y];rfl
     obtain⟨xu,he,xo,_⟩:=ef;have xb:xu= #[]:=zl (by simpa using xo);subst xb;obtain⟨⟨fn,g1,R,g3⟩,h8⟩:=hF f args r A w c1 #[a.eval x,a.eval y] x7 rfl (by
      intro q arg x2;match q with
      |0=>cases x2;exact⟨_,rfl,xf⟩
      |1=>cases x2;exact⟨_,rfl,ey⟩
      |q+2=>cases x2)
     unfold gw;intro K Q hK;unfold Mq;rw[DL (vs:= #[a.eval x,a.eval y]) ho hb g1 R g3 he,xj,Array.append_empty,S3];refine Calls.mono h8 (λen w' hR=> ?_);cases en with
     |panicked=>exact hR.elim
     |outgrown=>exact hR.elim
     |returned v=>
      obtain⟨c3,x8,h5,xi,xq⟩:=hR;obtain⟨rs,outs⟩:=r;simp only at xd xc;subst xd;subst xc;have hv:v=.int k2 m2:=xq;have xn:c3.P (dF 0 0)=p:=(xi (dF 0 0) (by rw[hX];simp)).1;have xh:nu args ⟨[.v aq [.i k2 m2]],[[.kp t]]⟩ (c6 (dF 0 0))=.o (.row V ao t):=rfl;obtain⟨⟨t3,u1,u2,u3⟩,u4,_⟩:=x8.obj _ _ xh;obtain rfl:t2=t3:=aJ (r3.symm.trans u1);rw[xn]at u2 u4;have x4:iO w' p t (λ_ _ u x=>Sc u x):=u4.frame (λ_=>rfl) (λi j y x u S U hr=>by rw[bm rfl]at hr;exact tU hr (gF r4 (u3 y (aU S)) U));have N:∀b,b<w.heap.size->¬(p.nil=aq/\b=p.blk)->w'.heap[b]? =w.heap[b]? :=λb hb xl=>h5.same b hb (by rintro ⟨q,o',S,U⟩;obtain⟨rfl,rfl⟩:=hO q o' S;exact xl (h4 b U));have xv:j<te.ks.length:=(aW.1 hy).1;have x6:[CV.l V t].map CV.kd=(te.ks.drop j).take [CV.l V t].length:=by rw[bu,List.take_one,Xm,hy];rfl
      have ha:=tP (i:=i) (j:=j) (cs:=[CV.l V t]) jG x6 (by simp;omega) xk;have x5:=kH jG;have hw:=kH ha;have same:∀i' j',fT (dV xs i j [CV.l V t]) i' j'->fT xs i' j':=λi' j' hx=>(x5 i' j').2 (by have:=(hw i' j').1 hx;rwa[jA]at this);have x0:∀b,fu c n (.row el ao xs) b->b<w.heap.size:=λb hb=>Own.lt B ⟨n,_,hg,hb⟩;have xa:p.nil=aq->(c.P n).blk≠p.blk:=λz e=>(h7 rfl).out i j I (by rw[hq];exact z) M (by rw[hq];exact e.symm);have x3:iO w' (c.P n) (dV xs i j [CV.l V t]) (λX O u1 x1=>if ao=ao then XC E w' (c.G n) X O u1 x1 else Holds E w' c.K u1 x1):=by
       obtain⟨vs,k1,k2,k3,k4,k5⟩:=hj.mem M;refine⟨by rw[jA];exact hj.n,λz=>(by rw[M]at z;cases z),λ_=>⟨vs,k1.frame (N _ (x0 _ (.inl ⟨M,rfl⟩)) (λh=>xa h.1 h.2)),k2,k3,k4,λX y1 O x1 g1 R=> ?_⟩⟩
       rw[wL r1]at g1;simp only[if_true]at k5⊢;by_cases ht:X=i
       ·subst ht;rw[bm rfl]at g1;cases g1;have xy:yy.length=te.ks.length:=by rw[<-jG yy (aU r1)];simp
        rw[oZ (by simp;omega)]at R;by_cases h9:j<=O/\O<j+[CV.l V t].length
        ·rw[bm h9]at R;have:O=j:=by simp at h9;omega
         subst this;simp at R;subst R;obtain⟨u,hu,hr⟩:=k5 _ _ _ _ r1 r2;refine⟨u,hu,hr.1,t2,r3,r4,by rw[hq];exact r5,u3,by rw[hq];exact x4⟩
        ·rw[bh h9]at R;obtain⟨u,hu,hr⟩:=k5 _ _ _ _ r1 R;refine⟨u,hu,hr.frame (λhl z=>N _ (x0 _ (.inr ⟨rfl,_,_,⟨yy,x1,r1,R,hl⟩,z,rfl⟩)) (λe=> ?_))⟩
         have:=((h7 rfl).one _ _ _ _ ⟨yy,x1,r1,R,hl⟩ I z (by rw[hq];exact e.1) (by rw[hq];exact e.2)).2;simp at h9;omega
       ·rw[bh ht]at g1;obtain⟨u,hu,hr⟩:=k5 _ _ _ _ g1 R;exact⟨u,hu,hr.frame (λhl z=>N _ (x0 _ (.inr ⟨rfl,_,_,⟨y1,x1,g1,R,hl⟩,z,rfl⟩)) (λe=>ht ((h7 rfl).one _ _ _ _ ⟨y1,x1,g1,R,hl⟩ I z (by rw[hq];exact e.1) (by rw[hq];exact e.2)).1))⟩
      obtain⟨z1,z2,z3⟩:=FK B xe hd hg (ob':=.row el ao (dV xs i j [CV.l V t])) (w':=w') (s:=.v aq [.i k2 m2]) (v:=v)
       ⟨⟨te,q1,xr,ha⟩,x3,λhx=>⟨λX O hh=>(h7 hx).out X O (same X O hh),λX O i2 j2 S U=>(h7 hx).one X O i2 j2 (same X O S) (same i2 j2 U)⟩⟩
       (by
        rintro b (hb|⟨hx,X,O,hh,z⟩)
        ·exact .inl hb
        ·exact .inr ⟨hx,X,O,same X O hh,z⟩)
       (λzs hz=>by cases hz) hv (λn z=>by simp[cF,bL]at z)
       (λb hb xm=>N b hb (λe=>xm (by rw[e.2];exact x9 e.1))) h5.size h5.os h5.tape h5.output
      exact hK v w' c z1 z2 z3 (ji.refl _ _).w
    ·simp at h
   ·simp at h
  ·simp at h
 ·simp at h
theorem Gd{α:Type}{x y:Rd α}{σ:St}{e:α}(h:(x.or y).val σ=ai e):x.val σ=ai e\/y.val σ=ai e:=by
 induction x with
 |ret a=>exact .inl h
 |fail=>exact .inr h
 |get k f ih=>
  have d:((f (σ k)).or y).val σ=ai e:=by rw[<-h];unfold Rd.val;simp only[Rd.or,Rd.run];rw[kM,kM]
  rcases ih (σ k) d with h|h
  ·refine .inl ?_;rw[<-h];unfold Rd.val;simp only[Rd.run];rw[kM,kM]
  ·exact .inr h
theorem BD(hE:dY P E)(r:∀g,kT P E g (E.call g))(j:Ok E σ w c)(k:e6 E σ a w c)(hd:∀d,o.dst=ai d->d<a.tmps.size)(u:o.op=.call cl)(s:cl.callee=.value x)(m:ed E w c (.fn f i) (a.eval x))(h:(KR E nm o f cl.args.toList y i).val σ=ai e)(t:e.cond=ao):gw P E σ a w c o e.ws:=by
 rcases Gd h with h|h
 ·exact Hp hE r j k hd u s m h t
 ·exact Hp hE r j k hd u s m h t
theorem We(hE:dY P E)(z:∀g,kT P E g (E.call g))(m:Ok E σ w c)(k:e6 E σ a w c)(hd:∀d,o.dst=ai d->d<a.tmps.size)(t:o.op=.call cl)(s:cl.callee=.value K)(h:(lE E nm o).val σ=ai e)(A:e.cond=ao):gw P E σ a w c o e.ws:=by
 simp only[lE,t,s]at h;obtain⟨fv,C,h⟩:=Rd.bind_some h;have u:=(iJ k C).1;cases fv with
 |fn f B=>
  simp only at h;split at h
  ·rename_i x y r;obtain⟨M,I,h⟩:=Rd.bind_some h;split at h
   ·rename_i n i j;cases hm:E.mode f 0 with
    |true=>rw[hm,aw]at h;exact Jo hE z m k hd t s r u (lN k I).1 h A
    |false=>rw[hm,ax]at h;exact BD hE z m k hd t s u h A
   ·exact BD hE z m k hd t s u h A
  ·exact BD hE z m k hd t s u h A
 |_=>simp at h
end
end Go.FG
namespace Go.FG
section
variable {P:de} {E:fW} {σ:St} {a:Act} {w:cB} {c:gn} {o:gK} {nm:aN} {e:sj}
theorem agL(hE:dY P E)(C:∀g,kT P E g (E.call g))(j:Ok E σ w c)(k:e6 E σ a w c)(hd:∀d,o.dst=ai d->d<a.tmps.size)(h:(lE E nm o).val σ=ai e)(u:e.cond=ao):gw P E σ a w c o e.ws:=by
 cases r:o.op with
 |move x=>exact LF j k hd (.inl r) h
 |assign x=>exact LF j k hd (.inr r) h
 |nilCheck x=>exact Hr j k hd r h
 |pick x y z=>exact Wg j k hd r h u
 |alloc t=>exact Rn hE j k hd r h
 |box t x=>exact acb j k hd r h
 |build t ps=>exact Rp hE j k hd r h
 |buildSlice t n ps=>exact CO hE j k hd r h u
 |load t p=>exact Wf hE j k hd r h
 |store t p x=>exact Ru hE j k hd r h
 |fieldAddr t p f=>exact FC hE j k hd r h
 |field t x f=>exact Rr hE j k hd r h
 |indexAddr t x i=>exact FD hE j k hd r h u
 |index t x i=>exact Rs hE j k hd r h u
 |binOp op t x y ty=>exact Ro hE j k hd r h u
 |unOp op t x=>exact Wh j k hd r h
 |convert s d x=>exact Jp hE j k hd r h u
 |makeSlice t l m=>exact FE hE j k hd r h u
 |slice t x lo hi mx=>exact Rt hE j k hd r h u
 |extract x i=>exact Jq j k hd r h
 |makeFunc f first B=>exact Hq j k hd r h
 |call cl=>
  cases A:cl.callee with
  |value f=>exact We hE C j k hd r A h u
  |builtin b=>
   cases b with
   |len=>exact ace hE j k hd r A h
   |cap=>exact acd hE j k hd r A h
   |min=>exact DF aq j k hd r A h
   |max=>exact DF ao j k hd r A h
   |clear=>exact Rq hE j k hd r A h
   |append=>exact Nf hE j k hd r A h u
   |_=>simp[lE,r,A]at h
  |_=>simp[lE,r,A]at h
 |_=>simp[lE,r]at h
end
end Go.FG
namespace Go.FG
theorem B'(h:σ k=c):ox σ k c=σ:=by
 funext n;by_cases d:n=k
 ·subst d;rw[th,h]
 ·rw[yQ σ c d]
def S0(c c':gn):Prop:=∀m,900000000<=m->c'.P m=c.P m/\c'.G m=c.G m
theorem S0.refl(c:gn):S0 c c:=λ_ _=>⟨rfl,rfl⟩
theorem S0.trans(h:S0 c d)(k:S0 d c2):S0 c c2:=λm hm=>⟨(k m hm).1.trans (h m hm).1,(k m hm).2.trans (h m hm).2⟩
theorem Uy(h:900000000<=m):vr m=false:=by
 unfold vr;cases d:pK m 900000000 with
 |true=>have:m<900000000:=by simpa [sd]using d
        omega
 |false=>simp
theorem pE.aga(h:pE σ c c'):S0 c c':=λm hm=>⟨(h m (.inr hm)).1,(h m (.inr hm)).2 (Uy hm)⟩
def lO(h:eF gK)(o:gK)(σ:St):aA aY:=
 match o.guard with
 |none=>ai ao
 |some (g,f)=>match (h.getD g default).dst with
  |none=>aj
  |some d=>match σ (pW d)with|.v (.v aq [.b x])=>ai (x==f)|.v (.jS [])=>ai aq|_=>aj
def pq(f:eF gK)(o:gK):aE aN:=
 match o.guard with
 |none=>[]
 |some (g,_)=>match (f.getD g default).dst with|none=>[]|some d=>[pW d]
def uB(E:fW)(d:eF gK)(nm:aN)(o:gK)(σ:St)(ws:aE (aN×eW))(f:Lg):Prop:=
 (lO d o σ=ai ao/\∃e l,(lE E nm o).run σ []=ai (e,l)/\e.cond=ao/\ws=e.ws/\f=⟨pq d o++l,e.ws.map (·.1)⟩)\/
 (lO d o σ=ai aq/\ws=dw o (.jS [])/\f=⟨pq d o,(dw o (.jS [])).map (·.1)⟩)
def Jj(d i:aN):aN:=(d+1)*1000000+i*1000
abbrev Tr:=aE (aE (aN×eW)×Lg)
def vy(E:fW)(d:eF gK)(f:aN):aN->aE gK->St->Tr->St->Prop
 |_,[],σ,j,σ'=>j=[]/\σ'=σ
 |i,o::os,σ,j,σ'=>∃ws k h,j=(ws,k)::h/\uB E d (Jj f i) o σ ws k/\vy E d f (i+1) os (wr σ ws) h σ'
theorem Nh(E:fW)(f:eF gK)(j:aN):∀(os:aE gK) (i:aN) (σ:St) (s:aE Lg) (K:St->aE Lg->aA R) (r:R),ops E f j i os σ s K=ai r->
  ∃k σ',vy E f j i os σ k σ'/\K σ' ((k.map (·.2)).reverse++s)=ai r:=by
 intro os;induction os with
 |nil=>intro i σ s K r h;exact⟨[],σ,⟨rfl,rfl⟩,by simpa [ops]using h⟩
 |cons o os ih=>
  intro i σ s K r h;have next:∀ws l,uB E f (Jj j i) o σ ws l->ops E f j (i+1) os (wr σ ws) (l::s) K=ai r->∃k σ',vy E f j i (o::os) σ k σ'/\K σ' ((k.map (·.2)).reverse++s)=ai r:=by intro ws l hs h;obtain⟨k,σ',Q,S⟩:=ih _ _ _ _ _ h;exact⟨(ws,l)::k,σ',⟨ws,l,k,rfl,hs,Q⟩,by simpa using S⟩
  have y:∀rs,rs=pq f o->lO f o σ=ai ao->(match (lE E (Jj j i) o).run σ []with
    |some (e,l)=>bif e.cond then ops E f j (i+1) os (wr σ e.ws) (⟨rs++l,e.ws.map (·.1)⟩::s) K else aj
    |none=>aj)=ai r->∃k σ',vy E f j i (o::os) σ k σ'/\K σ' ((k.map (·.2)).reverse++s)=ai r:=by
   intro rs M B h
   cases I:(lE E (Jj j i) o).run σ []with
   |none=>rw[I]at h;cases h
   |some el=>
    obtain⟨e,l⟩:=el;rw[I]at h;cases C:e.cond with
    |false=>simp[C]at h
    |true=>simp only[C,aw]at h;exact next e.ws _ (.inl ⟨B,e,l,I,C,rfl,by rw[M]⟩) h
  unfold ops at h;simp(config:={zeta:=false}) only[Dr]at h;cases hg:o.guard with
  |none=>rw[hg]at h;exact y [] (by simp[pq,hg]) (by simp[lO,hg]) h
  |some O=>
   obtain⟨g,u⟩:=O;rw[hg]at h;dsimp only at h;cases hd:(f.getD g default).dst with
   |none=>rw[hd]at h;cases h
   |some d=>
    rw[hd]at h;dsimp only at h;have z:pq f o=[pW d]:=by unfold pq;rw[hg];dsimp only;rw[hd]
    cases hs:σ (pW d)with
    |v U=>
     rw[hs]at h;cases U with
     |v agg xs=>
      cases agg with
      |true=>cases h
      |false=>
       match xs with
       |[]=>cases h
       |_::_::_=>simp at h
       |[N]=>
        cases N with
        |b x=>
         have m:lO f o σ=ai (x==u):=by unfold lO;rw[hg];dsimp only;rw[hd];dsimp only;rw[hs]
         have A:ox σ (pW d) (.v (.v aq [.b x]))=σ:=B' hs;have skip:lO f o σ=ai aq->ops E f j (i+1) os (wr (ox σ (pW d) (.v (.v aq [.b x]))) (dw o (.jS []))) (⟨[pW d],(dw o (.jS [])).map (·.1)⟩::s) K=ai r->∃k σ',vy E f j i (o::os) σ k σ'/\K σ' ((k.map (·.2)).reverse++s)=ai r:=by intro B h;rw[A]at h;exact next (dw o (.jS [])) _ (.inr ⟨B,rfl,by rw[z]⟩) h
         have t:lO f o σ=ai ao->(match (lE E (Jj j i) o).run (ox σ (pW d) (.v (.v aq [.b x]))) []with
           |some (e,l)=>bif e.cond then ops E f j (i+1) os (wr (ox σ (pW d) (.v (.v aq [.b x]))) e.ws) (⟨pW d::l,e.ws.map (·.1)⟩::s) K else aj
           |none=>aj)=ai r->∃k σ',vy E f j i (o::os) σ k σ'/\K σ' ((k.map (·.2)).reverse++s)=ai r:=by
          intro B h
          rw[A]at h
          exact y [pW d] z.symm B h
         cases x with
         |true=>
          cases u with
          |true=>exact t (by rw[m];rfl) h
          |false=>exact skip (by rw[m];rfl) h
         |false=>
          cases u with
          |true=>exact skip (by rw[m];rfl) h
          |false=>exact t (by rw[m];rfl) h
        |_=>simp at h
     |jS l=>cases l with
      |nil=>
       have m:lO f o σ=ai false:=by unfold lO;rw[hg];dsimp only;rw[hd];dsimp only;rw[hs]
       exact next (dw o (.jS [])) _ (.inr ⟨m,rfl,by rw[z]⟩) h
      |cons=>simp at h
     |un=>simp at h
    |o x=>rw[hs]at h;cases h
    |jw=>rw[hs]at h;cases h
section
variable {P:de} {E:fW} {σ:St} {a:Act} {w:cB} {c:gn} {o:gK} {nm:aN} {e:sj}
theorem DS(s:e6 E σ a w c)(h:lO all o σ=ai x):uy o (yielded all a.tmps)=x:=by
 unfold lO at h;unfold uy;cases hg:o.guard with
 |none=>rw[hg]at h;simp at h;simp[<-h]
 |some u=>
  obtain⟨g,i⟩:=u;rw[hg]at h;simp only at h⊢;cases hd:(all.getD g default).dst with
  |none=>rw[hd]at h;cases h
  |some d=>
   rw[hd]at h;have r:(all[g]?).bind (·.dst)=ai d:=by
    rw[eu]at hd;cases hq:all[g]? with
    |none=>rw[hq]at hd;cases hd
    |some C=>rw[hq]at hd;exact hd
   simp only at h;split at h
   ·rename_i y t;have f:=s.ok d;have:slot σ d=.v aq [.b y]:=by unfold slot;rw[t]
    rw[this]at f;have f:a.eval (.tmp d)=.bool y:=f;have k:a.tmps[d]? =ai (.bool y):=by
     have m:a.tmps.getD d undef=.bool y:=f;rw[eu]at m;cases hq:a.tmps[d]? with
     |none=>rw[hq]at m;cases m
     |some v=>rw[hq]at m;rw[show v=_ from m]
    have j:yielded all a.tmps g=ai y:=by unfold yielded;rw[r];simp[k]
    rw[j];simp at h;rw[<-h];cases y<;>cases i<;>rfl
   ·rename_i t;have f:=s.ok d;have:slot σ d=.jS []:=by unfold slot;rw[t]
    rw[this]at f;obtain⟨vs,f,z,_⟩:=f;have A:vs= #[]:=by simpa using z
    subst A;have k:a.tmps.getD d undef=.tuple #[]:=f;have j:yielded all a.tmps g=none:=by
     unfold yielded;rw[r];rw[eu]at k;cases hq:a.tmps[d]? with
     |none=>simp[hq]
     |some v=>rw[hq]at k;simp at k;simp[hq,k]
    rw[j];have B:aq=x:=by simpa using h
    rw[<-B];cases i<;>rfl
   ·cases h
theorem Ce(a:Act)(d:aA Tmp)(v:bP):(a.put d v).tmps.size=a.tmps.size:=by cases d<;>simp[S1]
theorem Au(hE:dY P E)(z:∀g,kT P E g (E.call g))(k:Ok E σ w c)(f:e6 E σ a w c)(hd:∀d,o.dst=ai d->d<a.tmps.size)(hi:all[i]? =ai o)(h:uB E all nm o σ ws I)
  (u:∀v w' c',Ok E (wr σ ws) w' c'->e6 E (wr σ ws) (a.put o.dst v) w' c'->Grow σ c w (wr σ ws) c' w'->pE σ c c'->K (a.put o.dst v) w'):wpOp P all Q i K a w:=by
 unfold wpOp;rw[hi];simp only;rcases h with ⟨s,e,l,C,A,rfl,_⟩|⟨s,rfl,_⟩
 ·rw[bm (DS f s)];exact .inl (agL hE z k f hd (Rd.JS C) A K Q u)
 ·rw[bh (by rw[DS f s];simp)];obtain⟨s1,x,s3⟩:=pC σ o (.jS []);obtain⟨y,t⟩:=k.slot s3;refine u undef w c y ?_ t (ji.refl _ _).w;refine f.change k t (ji.refl _ _) (λnm m=>by rw[s3];exact m) o undef s1 (λd r=>⟨hd d r,?_,?_⟩)
  ·rw[x d r];exact⟨#[],rfl,rfl,λj agg xs B=>by simp at B⟩
  ·rw[x d r];intro n m;simp[cF]at m
structure At (P:de) (E:fW) (N:aN) (σ0:St) (c0:gn) (w0:cB) (σ:St) (a:Act) (w:cB) (c:gn):Prop where
 ok:Ok E σ w c
 sl:e6 E σ a w c
 sz:a.tmps.size=N
 gr:Grow σ0 c0 w0 σ c w
 ag:S0 c0 c
theorem At.step(h:At P E N σ0 c0 w0 σ a w c)(f:Ok E σ' w' c')(i:e6 E σ' (a.put d v) w' c')(j:Grow σ c w σ' c' w')(k:pE σ c c'):At P E N σ0 c0 w0 σ' (a.put d v) w' c':=
 ⟨f,i,by rw[Ce];exact h.sz,h.gr.trans j,h.ag.trans k.aga⟩
theorem IG(hE:dY P E)(I:∀g,kT P E g (E.call g)):∀(os:aE gK) (i:aN) (σ:St) (y:Tr) (σ':St),vy E r M i os σ y σ'->(∀j o,os[j]? =ai o->r[i+j]? =ai o)->(∀o∈os,∀d,o.dst=ai d->d<N)->
  (∀a w c,At P E N σ0 c0 w0 σ' a w c->Q .normal a w)->∀a w c,At P E N σ0 c0 w0 σ a w c->wpOps P r Q (iA i os.length) a w:=by
 intro os;induction os with
 |nil=>intro i σ y σ' h _ _ s a w c f;obtain⟨_,rfl⟩:=h;exact s a w c f
 |cons o os ih=>intro i σ y σ' h k m s a w c f;obtain⟨ws,R,O,rfl,hs,t⟩:=h;have hi:r[i]? =ai o:=k 0 o rfl;rw[bR,List.range'_succ,wpOps_cons];refine Au hE I f.ok f.sl (λd hd=>by rw[f.sz];exact m o (cD ..) d hd) hi hs (λv w' c' z A B C=> ?_);exact ih (i+1) _ _ _ t (λj x K=>by have:=k (j+1) x K;rwa[show i+(j+1)=i+1+j by omega]at this) (λx u=>m x (cu _ u)) s _ _ _ (f.step z A B C)
end
end Go.FG
namespace Go.FG
theorem Rd.Wp(m:Rd α):∀{σ:St} {l d:aE aN} {a:α},m.run σ l=ai (a,d)->∀k∈l,k∈d:=by
 induction m with
 |ret a=>intro σ l d b h k hk;cases h;exact hk
 |fail=>intro σ l d b h;cases h
 |get k f ih=>intro σ l d b h k' i;exact ih _ h k' (cu _ i)
theorem Rd.NB(m:Rd α):∀{σ σ':St} {l d:aE aN} {a:α},m.run σ l=ai (a,d)->(∀k∈d,σ' k=σ k)->m.run σ' l=ai (a,d):=by
 induction m with
 |ret a=>intro σ σ' l d b h _;exact h
 |fail=>intro σ σ' l d b h;cases h
 |get k f ih=>intro σ σ' l d b h hk;have h:(f (σ k)).run σ (k::l)=ai (b,d):=h;have i:σ' k=σ k:=hk k (Rd.Wp _ h k (cD ..));show(f (σ' k)).run σ' (k::l)=ai (b,d);rw[i];exact ih _ h hk
theorem wS(h:∀k∈pq f o,σ' k=σ k):lO f o σ'=lO f o σ:=by
 unfold lO pq at*
 cases hg:o.guard with
 |none=>rfl
 |some j=>
  obtain⟨g,i⟩:=j;rw[hg]at h;dsimp only at h⊢;cases hd:(f.getD g default).dst with
  |none=>rfl
  |some d=>rw[hd]at h;dsimp only at h⊢;rw[h (pW d) (a_.2 rfl)]
theorem uB.congr(h:uB E all nm o σ ws i)(hk:∀k∈i.rs,σ' k=σ k):uB E all nm o σ' ws i:=by
 rcases h with ⟨f,e,l,j,m,rfl,rfl⟩|⟨f,rfl,rfl⟩
 ·refine .inl ⟨by rw[wS (λk d=>hk k (bY _ d))];exact f,e,l,Rd.NB _ j (λk d=>hk k (bS _ d)),m,rfl,rfl⟩
 ·exact .inr ⟨by rw[wS (λk d=>hk k d)];exact f,rfl,rfl⟩
theorem uB.keys(h:uB E all nm o σ ws f):f.ws=ws.map (·.1):=by rcases h with ⟨d,e,l,i,j,rfl,rfl⟩|⟨d,rfl,rfl⟩<;>rfl
theorem o4:∀{ws:aE (aN×eW)} {σ:St} {k:aN},k∉ws.map (·.1)->wr σ ws k=σ k:=by
 intro ws;induction ws with
 |nil=>intro σ k _;rfl
 |cons d ws ih=>obtain⟨k',c⟩:=d;intro σ k h;rw[e9,cm,not_or]at h;show wr (ox σ k' c) ws k=σ k;rw[ih h.2,yQ σ c h.1]
theorem SW:∀{ws:aE (aN×eW)} {σ σ':St} {k:aN},k∈ws.map (·.1)->wr σ ws k=wr σ' ws k:=by
 intro ws;induction ws with
 |nil=>intro σ σ' k h;cases h
 |cons d ws ih=>
  obtain⟨k',c⟩:=d;intro σ σ' k h;show wr (ox σ k' c) ws k=wr (ox σ' k' c) ws k;by_cases hk:k∈ws.map (·.1)
  ·exact ih hk
  ·have:k=k':=by
    rcases cm.1 h with h|h
    ·exact h
    ·exact cJ h hk
   subst this;rw[o4 hk,o4 hk,th,th]
theorem SU(h:σ k=σ' k):wr σ ws k=wr σ' ws k:=by
 by_cases hk:k∈ws.map (·.1)
 ·exact SW hk
 ·rw[o4 hk,o4 hk];exact h
def Cr:Tr->aN->(aN->aY)->St->St
 |[],_,_,σ=>σ
 |(ws,_)::d,i,S,σ=>Cr d (i+1) S (bif S i then wr σ ws else σ)
theorem tQ:∀{m:Tr} {i:aN} {S f:aN->aY} {σ σ':St} {k:aN},σ k=σ' k->(∀j ws t,m[j]? =ai (ws,t)->S (i+j)≠f (i+j)->k∉ws.map (·.1))->Cr m i S σ k=Cr m i f σ' k:=by
 intro m;induction m with
 |nil=>intro i S f σ σ' k h _;exact h
 |cons d m ih=>
  obtain⟨ws,t⟩:=d;intro i S f σ σ' k h hd;refine ih ?_ (λj x u y z=>hd (j+1) x u y (by rwa[show i+(j+1)=i+1+j by omega]));by_cases s:S i=f i
  ·rw[s];cases f i
   ·exact h
   ·exact SU h
  ·have hk:=hd 0 ws t rfl s;cases hs:S i<;>cases r:f i
   ·exact cJ (hs.trans r.symm) s
   ·show σ k=wr σ' ws k;rw[o4 hk];exact h
   ·show wr σ ws k=σ' k;rw[o4 hk];exact h
   ·exact cJ (hs.trans r.symm) s
theorem B8:∀{f:Tr} {i:aN} {S:aN->aY} {σ:St},(∀j,i<=j->S j=aq)->Cr f i S σ=σ:=by
 intro f;induction f with
 |nil=>intro i S σ _;rfl
 |cons d f ih=>obtain⟨ws,m⟩:=d;intro i S σ h;show Cr f (i+1) S (bif S i then wr σ ws else σ)=σ;rw[h i (bT _)];exact ih (λj k=>h j (by omega))
theorem SC:∀{f:Tr} {i j:aN} {S:aN->aY} {σ:St} {ws:aE (aN×eW)} {m:Lg},f[j]? =ai (ws,m)->S (i+j)=ao->(∀q,i+j<q->S q=aq)->∃τ,Cr f i S σ=wr τ ws:=by
 intro f;induction f with
 |nil=>intro i j S σ ws m h;simp at h
 |cons d f ih=>
  obtain⟨k,t⟩:=d;intro i j S σ ws m h s r;cases j with
  |zero=>
   cases h;refine⟨σ,?_⟩
   show Cr f (i+1) S (bif S i then wr σ k else σ)=wr σ k;rw[show S i=ao from s];exact B8 (λq hq=>r q (by omega))
  |succ j=>exact ih (i:=i+1) h (by rwa[show i+1+j=i+(j+1)by omega]) (λq hq=>r q (by omega))
theorem P6:∀{os:aE gK} {i:aN} {σ σ':St} {f:Tr},vy E all s i os σ f σ'->f.length=os.length/\Cr f i (λ_=>ao) σ=σ'/\
  ∀(j:aN) (o:gK),os[j]? =ai o->∃ws k,f[j]? =ai (ws,k)/\uB E all (Jj s (i+j)) o (Cr f i (λq=>ah (q<i+j)) σ) ws k:=by
 intro os;induction os with
 |nil=>intro i σ σ' f h;obtain⟨rfl,rfl⟩:=h;exact⟨rfl,rfl,λj o h=>by simp at h⟩
 |cons o os ih=>
  intro i σ σ' f h;obtain⟨ws,k,d,rfl,hs,m⟩:=h;obtain⟨y,z,A⟩:=ih m;refine⟨by simp[y],z,λj B u=> ?_⟩
  cases j with
  |zero=>
   cases u;refine⟨ws,k,rfl,?_⟩
   rw[show Cr ((ws,k)::d) i (λq=>ah (q<i+0)) σ=σ from B8 (λq hq=>by simp;omega)];exact hs
  |succ j=>
   obtain⟨t,r,C,I⟩:=A j B u;refine⟨t,r,C,?_⟩
   have x:Cr ((ws,k)::d) i (λq=>ah (q<i+(j+1))) σ=Cr d (i+1) (λq=>ah (q<i+1+j)) (wr σ ws):=by show Cr d (i+1) (λq=>ah (q<i+(j+1))) (bif ah (i<i+(j+1))then wr σ ws else σ)=_;rw[aC (by omega:i<i+(j+1))];rw[show i+(j+1)=i+1+j by omega];rfl
   rw[x,show i+(j+1)=i+1+j by omega];exact I
theorem sI(h:Ba a b=aq):(∀k∈a.ws,k∉b.ws)/\(∀k∈a.ws,k∉b.rs)/\∀k∈b.ws,k∉a.rs:=by simp only[Ba,p6,aM]at h;exact⟨oi h.1.1,oi h.1.2,oi h.2⟩
theorem yB(h:ma n l=ao):n∈l:=by
 induction l with
 |nil=>cases h
 |cons m r ih=>
  simp only[ma,dC]at h;rcases h with h|h
  ·rw[aX h];exact cD ..
  ·exact cu _ (ih h)
theorem IB:∀{l:aE Lg} {i:aN},z8 an j a i l=ao->∀(q:aN) (b:Lg),l[q]? =ai b->i+q∈an\/Ba a b=false:=by
 intro l;induction l with
 |nil=>intro i _ q b h;simp at h
 |cons d l ih=>
  intro i h q b hq;simp only[z8,aM,dC,dt]at h;cases q with
  |zero=>cases hq;exact h.1.imp yB id
  |succ q=>have:=ih h.2 q b hq;rwa[show i+1+q=i+(q+1)by omega]at this
theorem KT:∀{rest:aE Lg} {j:aN} {done:aE Lg},done.length=j->calm j an done rest=ao->∀(i J:aN) (a b:Lg),i<J->j<=J->(done++rest)[i]? =ai b->(done++rest)[J]? =ai a->i∈an.getD J []\/Ba a b=false:=by
 intro rest;induction rest with
 |nil=>intro j done hd _ i J a b _ r _ f;rw[cZ,kD (by omega)]at f;cases f
 |cons d rest ih=>
  intro j done hd h i J a b m r hi f;simp only[calm,aM]at h;by_cases k:J=j
  ·subst k;rw[cY (by omega),hd,pf]at f;cases f;rw[dj (by omega)]at hi;have:=IB h.1 i b hi;rwa[bV]at this
  ·refine ih (done:=done++[d]) (by simp[hd]) h.2 i J a b m (by omega) ?_ ?_
   ·rw[ca];exact hi
   ·rw[ca];exact f
theorem T3:∀{os:aE gK} {acc:aE (aE aN)},∃rest,EU acc os=acc++rest/\rest.length=os.length/\
  ∀(t:aN) (o:gK),os[t]? =ai o->rest[t]? =ai (ddA [] (o.after.toList.flatMap λe=>bif me .any e then e.on::((acc++rest).take (acc.length+t)).getD e.on []else [])):=by
 intro os;induction os with
 |nil=>intro acc;exact⟨[],by simp[EU],rfl,λt o h=>by simp at h⟩
 |cons o os ih=>
  intro acc;let x:=ddA [] (o.after.toList.flatMap λe=>bif me .any e then e.on::acc.getD e.on []else []);obtain⟨rest,f,i,j⟩:=ih (acc:=acc++[x]);refine⟨x::rest,?_,by simp[i],λt k d=> ?_⟩
  ·show mm x (λx=>EU (acc++[x]) os)=_;rw[oq,f,ca];rfl
  ·cases t with
   |zero=>cases d;rw[rQ,zQ,oG (bT _),cE]
   |succ t=>rw[dD,j t k d];simp only[bW,bu,ca,uc,show acc.length+1+t=acc.length+(t+1)by omega]
theorem LG:∀{os:aE gK} {i:aN},Ht i os=ao->∀(t:aN) (o:gK),os[t]? =ai o->∀e∈o.after,me .any e=ao->e.on<i+t:=by
 intro os;induction os with
 |nil=>intro i _ t o h;simp at h
 |cons o os ih=>
  intro i h t k j e f d;simp only[Ht,aM]at h;cases t with
  |zero=>
   cases j;have:=bz.1 h.1 e (by simpa using f);rw[d]at this;have:pK e.on i=true:=by simpa using this
   simpa [sd]using this
  |succ t=>have:=ih h.2 t k j e f d;omega
theorem AY{os:aE gK}{S:aN->aY}(y:∀(j:aN) (o:gK),S j=ao->os[j]? =ai o->∀e∈o.after,me .any e=ao->S e.on=ao)(k:Ht 0 os=ao):
  ∀j,S j=ao->∀i∈(EU [] os).getD j [],S i=true:=by
 obtain⟨rest,t,u,x⟩:=T3 (os:=os) (acc:=[]);rw[eJ]at t;intro j;induction j using Nat.strongRecOn with
 |_ j ih=>
  intro z i hi;rw[t,dK]at hi;cases s:os[j]? with
  |none=>rw[kD (by rw[u];exact List.getElem?_eq_none_iff.1 s)]at hi;cases hi
  |some o=>
   rw[x j o s]at hi;simp only[xE,jz,bV,eJ]at hi;have hi:=(E9 _ _ _ hi).elim (λh=>by cases h) id;obtain⟨e,r,hi⟩:=bM.1 hi;have r:e∈o.after:=by simpa using r
   cases m:me .any e with
   |false=>rw[m]at hi;cases hi
   |true=>
    rw[m]at hi;have d:=LG k j o s e r m;rw[bV]at d;have f:=y j o z s e r m;rcases cm.1 hi with rfl|hi
    ·exact f
    ·refine ih e.on d f i ?_;rw[t,dK];rw[dK,dP,bm d]at hi;exact hi
end Go.FG
namespace Go.FG
theorem GW(hp:p i=ao)(k:p' i=aq)(d:∀j,j≠i->p' j=p j):∀{l:aE aN},l.Nodup->i∈l->l.countP p'+1=l.countP p:=by
 have same:∀{l:aE aN},i∉l->l.countP p'=l.countP p:=by
  intro l;induction l with
  |nil=>intro _;rfl
  |cons m l ih=>intro h;rw[cm,not_or]at h;rw[kU,kU,ih h.2,d m (λe=>h.1 e.symm)]
 intro l;induction l with
 |nil=>intro _ h;cases h
 |cons m l ih=>
  intro f h;rw[j_]at f;rcases cm.1 h with rfl|h
  ·rw[kU,kU,same f.1,hp,k];simp
  ·have hm:m≠i:=λe=>f.1 (e▸h);rw[kU,kU,d m hm,<-ih f.2 h];omega
theorem pS{f:eF aY}{i:aN}(h:i<f.size)(d:aY):(f.setIfInBounds i ao).getD i d=true:=by simp[h]
section
variable {P:de} {E:fW}
theorem ME(hE:dY P E)(hF:∀g,kT P E g (E.call g)){N:aN}{σ0:St}{c0:gn}{w0:cB}{m:eF gK}{x0:aN}{Q:Exit->Act->cB->Prop}{σ σ':St}{K:Tr}(x1:vy E m x0 0 m.toList σ K σ')(R:calm 0 (EU [] m.toList) [] (K.map (·.2))=ao)(V:Ht 0 m.toList=ao)
  (ht:∀o∈m.toList,∀d,o.dst=ai d->d<N) (hQ:∀a w c,At P E N σ0 c0 w0 σ' a w c->Q .normal a w):
  ∀(A:aN) (f:eF aY) (a:Act) (w:cB) (c:gn),f.size=m.size->(∀(j:aN) (o:gK),f.getD j aq=ao->m.toList[j]? =ai o->∀e∈o.after,me .any e=ao->f.getD e.on aq=ao)->
   (cT m.size).countP (λj=> !f.getD j aq)<=A->At P E N σ0 c0 w0 (Cr K 0 (λj=>f.getD j aq) σ) a w c->wpAny P .any m Q A f a w:=by
 obtain⟨t1,t2,t3⟩:=P6 x1;have hw:m.toList.length=m.size:=dn;have done:∀(f:eF aY) (a:Act) (w:cB) (c:gn),(∀j,j<m.size->f.getD j aq=ao)->At P E N σ0 c0 w0 (Cr K 0 (λj=>f.getD j aq) σ) a w c->Q .normal a w:=by
  intro f a w c I z;refine hQ a w c ?_;have:Cr K 0 (λj=>f.getD j aq) σ=σ':=by
   rw[<-t2];funext k;refine tQ rfl (λj ws lg u s=> ?_);have h7:j<m.size:=by rw[<-hw,<-t1];exact(aW.1 u).1
   rw[bV]at s;exact cJ (I j h7) s
  rw[<-this];exact z
 have O:∀(f:eF aY) (j:aN),f.size=m.size->j<m.size->f.getD j ao=f.getD j false:=by
  intro f j hs u;rw[eu,eu];have:j<f.size:=by omega
  simp[this]
 have hf:∀f:eF aY,f.size=m.size->vE .any m f=[]->∀j,j<m.size->f.getD j aq=true:=by
  intro f hs hr j;induction j using Nat.strongRecOn with
  |_ j ih=>
   intro u;cases h:f.getD j aq with
   |true=>rfl
   |false=>
    have ho:m[j]? =ai m[j]:=by simp[u]
    have:j∈vE .any m f:=by
     rw[mem_ready];refine⟨by rw[O f j hs u];exact h,m[j],ho,λe he hb=> ?_⟩
     have:=LG V j m[j] (by rw[cR];exact ho) e he hb;rw[bV]at this;exact ih e.on this (by omega)
    rw[hr]at this;cases this
 intro A;induction A with
 |zero=>
  intro f a w c hs _ h6 z;have I:∀j,j<m.size->f.getD j aq=true:=by intro j u;have h0:=List.countP_eq_zero.1 (Nat.le_zero.1 h6) j (by simpa using u);simpa using h0
  refine⟨?_,done f a w c I z⟩
  cases hr:vE .any m f with
  |nil=>rfl
  |cons i r=>
   have:i∈vE .any m f:=by rw[hr];exact cD ..
   obtain⟨h0,o,ho,_⟩:=mem_ready.1 this;have hi:i<m.size:=(dr.1 ho).1;rw[O f i hs hi,I i hi]at h0;cases h0
 |succ A ih=>
  intro f a w c hs hh h6 z;refine⟨λhr=>done f a w c (hf f hs hr) z,λi hi=> ?_⟩
  obtain⟨h0,o,ho,hy⟩:=mem_ready.1 hi;have hu:i<m.size:=(dr.1 ho).1;rw[O f i hs hu]at h0;have ha:m.toList[i]? =ai o:=by rw[cR];exact ho
  obtain⟨ws,lg,q1,q2⟩:=t3 i o ha;rw[bV]at q2;have C:∀{j:aN} {x:aE (aN×eW)} {t:Lg},K[j]? =ai (x,t)->(K.map (·.2))[j]? =ai t/\t.ws=x.map (·.1):=by
   intro j x t u;have h7:j<m.toList.length:=by rw[<-t1];exact(aW.1 u).1
   obtain⟨x5,x4,r1,r2⟩:=t3 j m.toList[j] (by simp[h7]);rw[u]at r1;cases r1;exact⟨by rw[bI,u];rfl,r2.keys⟩
  obtain⟨hz,x3⟩:=C q1;have h5:∀(j:aN) (o':gK),(f.setIfInBounds i ao).getD j aq=ao->m.toList[j]? =ai o'->∀e∈o'.after,me .any e=ao->(f.setIfInBounds i ao).getD e.on aq=true:=by
   intro j o' u h9 e he hb;by_cases y:i=j
   ·subst y;rw[ha]at h9;cases h9;exact getD_set_true (hy e he hb)
   ·rw[getD_set_ne aq y]at u;exact getD_set_true (hh j o' u h9 e he hb)
  have X:∀j,j<i->f.getD j aq=aq->∀{x:aE (aN×eW)} {t:Lg},K[j]? =ai (x,t)->Ba lg t=false:=by
   intro j u U x t h8;rcases KT (done:=[]) rfl R j i lg t u (bA _) (C h8).1 hz with h|h
   ·have:=AY h5 V i (pS (by omega) aq) j h;rw[getD_set_ne aq (by omega:i≠j)]at this;rw[U]at this;cases this
   ·exact h
  have M:∀j,i<j->f.getD j aq=ao->∀{x:aE (aN×eW)} {t:Lg},K[j]? =ai (x,t)->Ba t lg=false:=by
   intro j u U x t h8;rcases KT (done:=[]) rfl R i j t lg u (bA _) hz (C h8).1 with h|h
   ·have:=AY hh V j U i h;rw[h0]at this;cases this
   ·exact h
  have hc:uB E m (Jj x0 i) o (Cr K 0 (λj=>f.getD j aq) σ) ws lg:=by
   refine q2.congr (λk hk=>tQ rfl (λj x t u s B=> ?_));rw[bV]at s;rw[<-(C u).2]at B;by_cases y:j<i
   ·rw[aC y]at s;have U:f.getD j aq=false:=by simpa using s
    exact(sI (X j y U u)).2.2 k B hk
   ·rw[aF y]at s;have U:f.getD j aq=true:=by simpa using s
    have hv:i<j:=by
     rcases qy i j with h|h
     ·exact h
     ·have:j=i:=by omega
      subst this;rw[h0]at U;cases U
    exact(sI (M j hv U u)).2.1 k B hk
  have hx:wr (Cr K 0 (λj=>f.getD j aq) σ) ws=Cr K 0 (λj=>(f.setIfInBounds i ao).getD j aq) σ:=by
   funext k;by_cases hk:k∈ws.map (·.1)
   ·have e1:Cr K 0 (λj=>(f.setIfInBounds i ao).getD j aq) σ k=Cr K 0 (λj=>(f.setIfInBounds i ao).getD j aq&&ah (j<=i)) σ k:=by
     refine tQ rfl (λj x t u s B=> ?_);rw[bV]at s;rw[<-(C u).2]at B;have y:i<j:=by
      rcases qy i j with h|h
      ·exact h
      ·rw[aC h,gh]at s;exact cJ rfl s
     rw[aF (by omega:¬j<=i),vv,getD_set_ne aq (by omega:i≠j)]at s;have U:f.getD j aq=true:=by simpa using s
     rw[<-x3]at hk;exact(sI (M j y U u)).1 k B hk
    obtain⟨τ,hτ⟩:=SC (i:=0) (S:=λj=>(f.setIfInBounds i ao).getD j aq&&ah (j<=i)) (σ:=σ) q1 (by rw[bV,pS (by omega) aq];simp) (λq hq=>by rw[aF (by omega:¬q<=i),vv]);rw[e1,hτ];exact SW hk
   ·rw[o4 hk];refine tQ rfl (λj x t u s B=> ?_);rw[bV]at s;by_cases y:i=j
    ·subst y;rw[q1]at u;cases u;exact hk B
    ·rw[getD_set_ne aq y]at s;exact cJ rfl s
  refine Au hE hF z.ok z.sl (λd x2=>by rw[z.sz];exact ht o (aU ha) d x2) ho hc (λv w' c' h1 h2 h3 h4=> ?_);have Y:=z.step h1 h2 h3 h4;rw[hx]at Y;refine ih (f.setIfInBounds i ao) _ _ c' (by simp[hs]) h5 ?_ Y;have:=GW (p:=λj=> !f.getD j aq) (p':=λj=> !(f.setIfInBounds i ao).getD j aq) (i:=i) (by rw[h0];rfl) (by rw[pS (by omega) aq];rfl) (λj u=>by rw[getD_set_ne aq (λe=>u e.symm)]) (l:=cT m.size) List.nodup_range (by simpa using hu);omega
theorem At.drawn(h:At P E N σ0 c0 w0 σ a w c)(n:aN):At P E N σ0 c0 w0 σ a {w with drawn:=n} c:=by have d:=h.ok.change (σ':=σ) (w':={w with drawn:=n}) (c':=c) (λ_=>False) (λ_ _=>rfl) (λ_ h=>h) (ji.refl _ _) (λ_ _ _=>rfl) (bT _) (λ_ h=>h) (λ_ h=>.inl h) h.ok.lt (λ_ _ h=>h.elim) (λ_ _ _ h=>h.elim) (λ_ _ _ _ _ h=>h.elim) (λ_ _ h=>h.elim) rfl rfl rfl;refine⟨d.1,⟨λf=>(h.sl.ok f).frame (λ_ _=>rfl) (λ_ h=>h) (λ_ _=>⟨rfl,rfl⟩),h.sl.kn,h.sl.df⟩,h.sz,h.gr.trans d.2,h.ag⟩
theorem Nt(hE:dY P E)(y:∀g,kT P E g (E.call g))(hm:P.follows .mixedOrders=ao){R:Type}{N:aN}{σ0:St}{c0:gn}{w0:cB}{os:eF gK}{k:aN}{f:aY}{Q:Exit->Act->cB->Prop}{σ:St}{K:Ex->St->aA R}{r:R}
  (h:ops E os k 0 os.toList σ [] (λσ A=>bif !f||(Ht 0 os.toList&&KS (EU [] os.toList) A.reverse)then K .normal σ else aj)=ai r) (i:∀o∈os.toList,∀d,o.dst=ai d->d<N)
  (z:∀σ' a w c,K .normal σ'=ai r->At P E N σ0 c0 w0 σ' a w c->Q .normal a w) {a:Act} {w:cB} {c:gn} (m:At P E N σ0 c0 w0 σ a w c):(Code.region k os f).wp P Q a w:=by
 obtain⟨x,σ',t,hk⟩:=Nh E os k _ _ _ _ _ _ h;simp only[cZ,List.reverse_reverse,P0]at hk;cases f with
 |false=>simp only[bG,Mn,aw]at hk;refine wp_region ?_;rw[TT,<-dn];exact IG hE y os.toList 0 σ x σ' t (λj o u=>by rw[bV,<-cR];exact u) i (λa w c h=>z σ' a w c hk h) a w c m
 |true=>
  cases s:(Ht 0 os.toList&&calm 0 (EU [] os.toList) [] (x.map (·.2)))with
  |false=>simp[s]at hk
  |true=>
   simp only[s,Ic,aw]at hk;simp only[aM]at s;refine wp_region_any hm ?_;refine ME hE y t s.2 s.1 i (λa w c h=>z σ' a w c hk h) os.size _ a _ c (by simp) (λj o u=> ?_) ?_ ?_
   ·exfalso;rw[eu,CX]at u;split at u<;>cases u
   ·exact cf (List.countP_le_length) (by simp)
   ·have:Cr x 0 (λj=>(zJ os.size aq).getD j aq) σ=σ:=B8 (λj _=>by rw[eu,CX];split<;>rfl);rw[this];exact m.drawn _
end
end Go.FG
namespace Go.FG
theorem Qq:∀{l:aE aN} {n i:aN},n∈l->∃k,idx n i l=ai k/\i<=k/\k<i+l.length/\l[k-i]? =ai n:=by
 intro l;induction l with
 |nil=>intro n i h;cases h
 |cons m l ih=>
  intro n i h;unfold idx;cases d:bK n m with
  |true=>have:=aX d;subst this;exact⟨i,rfl,bT _,by simp,by simp⟩
  |false=>
   rcases cm.1 h with rfl|h
   ·simp at d
   ·obtain⟨k,f,r,s,j⟩:=ih (i:=i+1) h;refine⟨k,f,by omega,by simp;omega,?_⟩
    rw[show k-i=(k-(i+1))+1 by omega,dD];exact j
theorem Uw:∀{l:aE aN} {n i k:aN},idx n i l=ai k->i<=k/\k<i+l.length/\l[k-i]? =ai n:=by
 intro l;induction l with
 |nil=>intro n i k h;cases h
 |cons m l ih=>
  intro n i k h;unfold idx at h;cases d:bK n m with
  |true=>rw[d]at h;have:=aX d;subst this;cases h;exact⟨bT _,by simp,by simp⟩
  |false=>
   rw[d]at h;obtain⟨j,r,f⟩:=ih h;refine⟨by omega,by simp;omega,?_⟩
   rw[show k-i=(k-(i+1))+1 by omega,dD];exact f
theorem IQ(h:k<900):enc f k<900000000:=by unfold enc;cases f<;>simp<;>omega
theorem Uz(h:k<900):vr (enc f k)=f:=by
 cases f with
 |false=>
  show(bK (k%1000) 999&&pK k 900000000)=aq;have:bK (k%1000) 999=false:=by
   cases d:bK (k%1000) 999 with
   |false=>rfl
   |true=>have:=aX d;omega
  rw[this];rfl
 |true=>show(bK ((k*1000+999)%1000) 999&&pK (k*1000+999) 900000000)=ao;rw[show(k*1000+999)%1000=999 by omega,show pK (k*1000+999) 900000000=ao from uV (by omega)];rfl
theorem Uf(h:k<900)(i:k'<900)(d:enc f k=enc f' k'):k=k':=by unfold enc at d;cases f<;>cases f'<;>simp at d<;>omega
theorem RH(h:n∈l):∃k,uI l n=ai k:=by
 unfold uI;cases eS 900000000 n with
 |true=>exact⟨n,by simp[Hi h]⟩
 |false=>obtain⟨k,hk,_⟩:=Qq (i:=0) h;exact⟨enc (vr n) k,by simp[hk]⟩
theorem wD(h:uI l n=ai k):n∈l/\((900000000<=n/\k=n)\/(n<900000000/\∃f,k=enc (vr n) f/\f<l.length/\l[f]? =ai n)):=by
 unfold uI at h;cases d:eS 900000000 n with
 |true=>
  rw[d]at h;cases hm:ma n l with
  |true=>simp only[hm,aw]at h;cases h;exact⟨yB hm,.inl ⟨cM d,rfl⟩⟩
  |false=>simp[hm]at h
 |false=>
  rw[d,ax]at h;cases hi:idx n 0 l with
  |none=>rw[hi]at h;cases h
  |some f=>
   rw[hi]at h;cases h;obtain⟨_,j,i⟩:=Uw hi;rw[og]at i;refine⟨aU i,.inr ⟨?_,f,rfl,by simpa using j,i⟩⟩
   rcases qy n 900000000 with h|h
   ·exact h
   ·rw[uV h]at d;cases d
theorem FM(hl:l.length<=900)(h:uI l n=ai k):vr k=vr n:=by
 obtain⟨_,⟨_,rfl⟩|⟨_,f,rfl,d,_⟩⟩:=wD h
 ·rfl
 ·exact Uz (by omega)
theorem Wk(hl:l.length<=900)(h:uI l n=ai k)(u:uI l j=ai k):n=j:=by
 obtain⟨_,x⟩:=wD h;obtain⟨_,y⟩:=wD u;rcases x with ⟨a,b⟩|⟨a,s,b,d,e⟩<;>rcases y with ⟨t,m⟩|⟨t,i,m,z,r⟩
 ·omega
 ·have:=IQ (f:=vr j) (k:=i) (by omega);omega
 ·have:=IQ (f:=vr n) (k:=s) (by omega);omega
 ·have:=Uf (f:=vr n) (f':=vr j) (k:=s) (k':=i) (by omega) (by omega) (b.symm.trans m);subst this;rw[e]at r;cases r;rfl
def inv(l:aE aN)(m:aN):aA aN:=l.find? λn=>ah (uI l n=ai m)
theorem abm(hl:l.length<=900)(h:uI l n=ai k):inv l k=ai n:=by
 unfold inv;cases d:l.find? (λn=>ah (uI l n=ai k))with
 |none=>have:=TP.1 d n (wD h).1;simp[h]at this
 |some f=>have:=D' d;rw[Wk hl h (cL this)]
theorem Qt(h:inv l m=ai n):uI l n=ai m:=cL (D' (p:=λn=>ah (uI l n=ai m)) h)
theorem Dx(h:yz l ns=ao):∀n∈ns,n∈l:=λn d=>yB (bz.1 h n d)
theorem q9:∀{r:aE aN} {k:aN} {x:eW},(k,x)∈vg σ l r↔∃n∈r,∃m,uI l n=ai m/\k=c6 m/\x=Nu l (σ (c6 n)):=by
 intro r;induction r with
 |nil=>intro k x;simp[vg]
 |cons n r ih=>
  intro k x;unfold vg;cases j:uI l n with
  |none=>
   simp only;rw[ih];constructor
   ·rintro ⟨i,d,f⟩;exact⟨i,cu _ d,f⟩
   ·rintro ⟨i,d,m,f,s⟩;rcases cm.1 d with rfl|d
    ·rw[j]at f;cases f
    ·exact⟨i,d,m,f,s⟩
  |some m=>
   simp only[cm,ih];constructor
   ·rintro (h|⟨i,d,f⟩)
    ·cases h;exact⟨n,.inl rfl,m,j,rfl,rfl⟩
    ·exact⟨i,.inr d,f⟩
   ·rintro ⟨i,d|d,t,f,rfl,rfl⟩
    ·subst d;rw[j]at f;cases f;exact .inl rfl
    ·exact .inr ⟨i,d,t,f,rfl,rfl⟩
section
variable {P:de} {E:fW} {σ:St} {a:Act} {w:cB} {c:gn} {o:gK} {nm:aN} {e:sj}
def wB(c:gn)(l:aE aN):gn:=
 ⟨λm=>match inv l m with|some n=>c.P n|none=>c.P m,λm=>match inv l m with|some n=>c.G n|none=>c.G m,c.K⟩
theorem wC(hl:l.length<=900)(h:uI l n=ai m):(wB c l).P m=c.P n/\(wB c l).G m=c.G n:=by have:=abm hl h;unfold wB;simp only[this];exact⟨trivial,trivial⟩
theorem s8(hl:l.length<=900)(f:ed T w c x u)(hk:∀n∈bL x,n∈l):ed T w (wB c l) (oX l x) u/\∀m∈bL (oX l x),∃n∈l,uI l n=ai m:=by
 have d:∀n,n∈bL x->∃k,uI l n=ai k/\(wB c l).P k=c.P n/\(wB c l).G k=c.G n:=λn y=>by obtain⟨k,h⟩:=RH (hk n y);exact⟨k,h,wC hl h⟩
 have nn:∀m,m∈([]:aE aN)->∃n∈l,uI l n=ai m:=λm h=>by cases h
 cases x with
 |i=>exact⟨f,nn⟩
 |b=>exact⟨f,nn⟩
 |s=>exact⟨f,nn⟩
 |nl=>exact⟨f,nn⟩
 |sh=>exact⟨f,nn⟩
 |sp=>exact⟨f,nn⟩
 |fn=>exact⟨f,nn⟩
 |fp=>exact⟨f,nn⟩
 |own n=>obtain⟨k,h,r,t⟩:=d n (by simp[bL]);simp only[oX,h];exact⟨by simp only[ed,r]at f⊢;exact f,λm hm=>⟨n,hk n (by simp[bL]),by rw[show m=k by simpa [bL]using hm];exact h⟩⟩
 |vw n lo hi=>obtain⟨k,h,r,t⟩:=d n (by simp[bL]);simp only[oX,h];exact⟨by simp only[ed,r]at f⊢;exact f,λm hm=>⟨n,hk n (by simp[bL]),by rw[show m=k by simpa [bL]using hm];exact h⟩⟩
 |bp n j=>obtain⟨k,h,r,t⟩:=d n (by simp[bL]);simp only[oX,h];exact⟨by simp only[ed,r]at f⊢;exact f,λm hm=>⟨n,hk n (by simp[bL]),by rw[show m=k by simpa [bL]using hm];exact h⟩⟩
 |rp n i j=>obtain⟨k,h,r,t⟩:=d n (by simp[bL]);simp only[oX,h];exact⟨by simp only[ed,r]at f⊢;exact f,λm hm=>⟨n,hk n (by simp[bL]),by rw[show m=k by simpa [bL]using hm];exact h⟩⟩
 |lR n i j=>obtain⟨k,h,r,t⟩:=d n (by simp[bL]);simp only[oX,h];exact⟨by simp only[ed,r,t,FM hl h]at f⊢;exact f,λm hm=>⟨n,hk n (by simp[bL]),by rw[show m=k by simpa [bL]using hm];exact h⟩⟩
 |ip n i j z A=>obtain⟨k,h,r,t⟩:=d n (by simp[bL]);simp only[oX,h];exact⟨by simp only[ed,r,t,FM hl h]at f⊢;exact f,λm hm=>⟨n,hk n (by simp[bL]),by rw[show m=k by simpa [bL]using hm];exact h⟩⟩
 |iv n i j lo hi=>obtain⟨k,h,r,t⟩:=d n (by simp[bL]);simp only[oX,h];exact⟨by simp only[ed,r,t,FM hl h]at f⊢;exact f,λm hm=>⟨n,hk n (by simp[bL]),by rw[show m=k by simpa [bL]using hm];exact h⟩⟩
theorem Jv(hl:l.length<=900)(h:pO T w c g xs u)(hk:∀n∈xs.flatMap bL,n∈l):pO T w (wB c l) g (xs.map (oX l)) u/\∀m∈(xs.map (oX l)).flatMap bL,∃n∈l,uI l n=ai m:=by
 have s:∀x∈xs,∀n∈bL x,n∈l:=λx h n C=>hk n (bM.2 ⟨x,h,C⟩);unfold pO at h;split at h
 ·rename_i y;obtain⟨A,B⟩:=s8 hl h (s y (by simp));exact⟨A,λm hm=>B m (by simpa using hm)⟩
 ·obtain⟨k,rfl,hs,z⟩:=h;refine⟨⟨k,rfl,by simp[hs],λj y f=> ?_⟩,λm hm=> ?_⟩
  ·rw[bI]at f;cases d:xs[j]? with
   |none=>rw[d]at f;cases f
   |some x=>rw[d]at f;cases f;obtain⟨u,t,r⟩:=z j x d;exact⟨u,t,(s8 hl r (s x (aU d))).1⟩
  ·obtain⟨y,I,hm⟩:=bM.1 hm;obtain⟨x,i,rfl⟩:=cN.1 I;obtain⟨j,f⟩:=bX i;obtain⟨u,t,r⟩:=z j x f;exact(s8 hl r (s x i)).2 m hm
 ·exact h.elim
theorem HA(hl:l.length<=900)(i:iM T w c s u):iM T w (wB c l) (DI l s) u/\∀m∈cF (DI l s),∃n∈l,uI l n=ai m:=by
 unfold DI;cases hk:yz l (cF s)with
 |false=>exact⟨trivial,λm hm=>by simp[cF]at hm⟩
 |true=>
  have hk:=Dx hk;simp only[aw];cases s with
  |un=>exact⟨trivial,λm hm=>by simp[cF]at hm⟩
  |v g xs=>exact Jv hl i hk
  |jS r=>
   obtain⟨vs,rfl,hs,z⟩:=i;have A:∀x∈r,∀n∈x.2.flatMap bL,n∈l:=λx i n B=>hk n (bM.2 ⟨x,i,B⟩);refine⟨⟨vs,rfl,by simp[hs],λj g xs f=> ?_⟩,λm hm=> ?_⟩
   ·rw[bI]at f;cases d:r[j]? with
    |none=>rw[d]at f;cases f
    |some x=>rw[d]at f;cases f;obtain⟨u,t,k⟩:=z j x.1 x.2 d;exact⟨u,t,(Jv hl k (A x (aU d))).1⟩
   ·obtain⟨y,C,hm⟩:=bM.1 hm;obtain⟨x,h,rfl⟩:=cN.1 C;obtain⟨j,f⟩:=bX h;obtain⟨u,t,k⟩:=z j x.1 x.2 f;exact(Jv hl k (A x h)).2 m hm
theorem RG:Nu l x≠ .jw:=by
 unfold Nu;split
 ·intro h;revert h;cases yz l _<;>simp
 ·simp
 ·simp
theorem MD(h:At P E N σ0 c0 w0 σ a w c):∃c',At P E N σ0 c0 w0 (eP (mm (ID keep σ) λl=>IC keep σ l)) a w c':=by
 rw[oq];generalize ID keep σ=l;unfold IC;cases h9:eS l.length 900 with
 |false=>
  simp only[ax];have A:∀k,eP [] k=.jw:=λk=>rfl;have no:∀{k:aN} {x:Obj},eP [] k≠ .o x:=λh=>by rw[A]at h;cases h
  refine⟨c,⟨λnm o i=>cJ i no,λnm o hw o' b i=>cJ i no,λnm o b i=>cJ i no,h.ok.lt,λnm xs i=>cJ i no,h.ok.gp⟩,⟨λn=>trivial,λn m hm=>(by simp[slot,eP,cF]at hm),h.sl.df⟩,h.sz,h.gr.trans ⟨rfl,rfl,rfl,bT _,λ_ h=>h,λ_ _ _=>rfl,λb hb=> ?_,λ_ h=>.inl h⟩,h.ag⟩
  obtain⟨nm,o,i,_⟩:=hb;exact cJ i no
 |true=>
  have hl:=cM h9;simp only[aw];generalize hT:keep.map (λn=>(pW n,eW.v (DI l (slot σ n))))++vg σ l l=T;have h5:∀d∈T,d.2≠ .jw:=by
   rintro ⟨k,x⟩ hd;rw[<-hT]at hd;rcases bc.1 hd with hd|hd
   ·obtain⟨n,_,hd⟩:=cN.1 hd;cases hd;simp
   ·obtain⟨n,_,m,_,_,rfl⟩:=q9.1 hd;exact RG
  have h6:∀{m:aN} {ob:Obj},eP T (c6 m)=.o ob->∃n∈l,uI l n=ai m/\Nu l (σ (c6 n))=.o ob:=by
   intro m ob i;have:=nz i (by simp);rw[<-hT]at this;rcases bc.1 this with hd|hd
   ·obtain⟨n,_,hd⟩:=cN.1 hd;injection hd with s O;exact cJ s (rB n m)
   ·obtain⟨n,A,m',t,s,O⟩:=q9.1 hd;have:=jI s;subst this;exact⟨n,A,t,O.symm⟩
  have z:∀{m n:aN},n∈l->uI l n=ai m->eP T (c6 m)≠ .jw:=λA t=>rC (l:=T) (by rw[<-hT];exact bS _ (q9.2 ⟨_,A,_,t,rfl,rfl⟩)) h5;have I:∀n,slot (eP T) n=DI l (slot σ n)\/slot (eP T) n=.un:=by
   intro n;unfold slot;cases hs:eP T (pW n)with
   |v x=>
    have:=nz hs (by simp);rw[<-hT]at this;rcases bc.1 this with hd|hd
    ·obtain⟨n',_,hd⟩:=cN.1 hd;injection hd with s O;have:=FU s;subst this;cases O;exact .inl rfl
    ·obtain⟨n',A,m',t,s,O⟩:=q9.1 hd;exact cJ s (rB _ _)
   |o=>exact .inr rfl
   |jw=>exact .inr rfl
  have h3:∀{m:aN} {ob:Obj},eP T (c6 m)=.o ob->ob=.dead\/∃n∈l,uI l n=ai m/\((σ (c6 n)=.o ob/\∀xs,ob≠ .box xs)\/∃xs,σ (c6 n)=.o (.box xs)/\ob=.box (xs.map (oX l))/\∀k∈xs.flatMap bL,k∈l):=by
   intro m ob i;obtain⟨n,A,t,M⟩:=h6 i;unfold Nu at M;split at M
   ·rename_i xs Q;cases hk:yz l (xs.flatMap bL)with
    |true=>rw[hk]at M;cases M;exact .inr ⟨n,A,t,.inr ⟨xs,Q,rfl,Dx hk⟩⟩
    |false=>rw[hk]at M;cases M;exact .inl rfl
   ·rename_i x hc Q;cases M;exact .inr ⟨n,A,t,.inl ⟨Q,λxs e=>hc xs e⟩⟩
   ·cases M;exact .inl rfl
  have r:∀{m:aN} {ob:Obj} {b:aN},eP T (c6 m)=.o ob->fu (wB c l) m ob b->∃n o,uI l n=ai m/\σ (c6 n)=.o o/\fu c n o b:=by
   intro m ob b i C;rcases h3 i with rfl|⟨n,A,t,⟨s,_⟩|⟨xs,s,rfl,_⟩⟩
   ·exact C.elim
   ·obtain⟨B,e2⟩:=wC (c:=c) hl t;refine⟨n,ob,t,s,?_⟩
    cases ob<;>simp only[fu,B,e2]at C⊢ <;>exact C
   ·obtain⟨B,e2⟩:=wC (c:=c) hl t;refine⟨n,_,t,s,?_⟩
    simp only[fu,B]at C⊢;exact C
  refine⟨wB c l,⟨?_,?_,?_,h.ok.lt,?_,h.ok.gp⟩,⟨?_,?_,h.sl.df⟩,h.sz,h.gr.trans ⟨rfl,rfl,rfl,bT _,λ_ h=>h,λ_ _ _=>rfl,?_,λ_ h=>.inl h⟩,h.ag.trans ?_⟩
  ·intro m ob i;rcases h3 i with rfl|⟨n,A,t,⟨s,O⟩|⟨xs,s,rfl,hk⟩⟩
   ·trivial
   ·obtain⟨B,e2⟩:=wC (c:=c) hl t;have X:=h.ok.obj n ob s;cases ob with
    |box xs=>exact cJ rfl (O xs)
    |dead=>trivial
    |nI cs=>show FB E w c.K ((wB c l).P m).blk cs;rw[B];exact X
    |fL e' xs=>show Holds E w c.K (j5 ((wB c l).P m)) _/\((wB c l).P m).n=_/\_;rw[B];exact X
    |row e' ex xs=>obtain⟨q1,q2,q3⟩:=X;exact⟨by rw[B];exact q1,by rw[B,e2];exact q2,by rw[B,e2];exact q3⟩
   ·obtain⟨B,e2⟩:=wC (c:=c) hl t;obtain⟨R,hb,hs,hv⟩:=h.ok.obj n _ s;refine⟨R,by rw[B];exact hb,by simp[hs],λj y S=> ?_⟩
    rw[bI]at S;cases Q:xs[j]? with
    |none=>rw[Q]at S;cases S
    |some x=>rw[Q]at S;cases S;obtain⟨u,hu,ha⟩:=hv j x Q;exact⟨u,hu,(s8 hl ha (λk U=>hk k (bM.2 ⟨x,aU Q,U⟩))).1⟩
  ·intro m ob m' ob' b i hh C h7;obtain⟨n,o1,r1,s1,f1⟩:=r i C;obtain⟨n',o2,r2,s2,f2⟩:=r hh h7;have:=h.ok.sep n o1 n' o2 b s1 s2 f1 f2;subst this;rw[r1]at r2;cases r2;rfl
  ·intro m ob b i C;obtain⟨n,o1,r1,s1,f1⟩:=r i C;exact h.ok.kk n o1 b s1 f1
  ·intro m xs i y hy k hk;rcases h3 i with h'|⟨n,A,t,⟨s,O⟩|⟨zs,s,M,h8⟩⟩
   ·cases h'
   ·exact cJ rfl (O xs)
   ·cases M;obtain⟨x,h4,rfl⟩:=cN.1 hy;obtain⟨R,hb,hs,hv⟩:=h.ok.obj n _ s;obtain⟨j,S⟩:=bX h4;obtain⟨u,hu,ha⟩:=hv j x S;obtain⟨n',V,Y⟩:=(s8 hl ha (λk U=>h8 k (bM.2 ⟨x,h4,U⟩))).2 k hk;exact z V Y
  ·intro n;rcases I n with hs|hs
   ·rw[hs];exact(HA hl (h.sl.ok n)).1
   ·rw[hs];trivial
  ·intro n m hm;rcases I n with hs|hs
   ·rw[hs]at hm;obtain⟨n',V,Y⟩:=(HA hl (h.sl.ok n)).2 m hm;exact z V Y
   ·rw[hs]at hm;simp[cF]at hm
  ·rintro b ⟨m,ob,i,C⟩;obtain⟨n,o1,r1,s1,f1⟩:=r i C;exact .inl ⟨n,o1,s1,f1⟩
  ·intro m hm;unfold wB;cases hi:inv l m with
   |none=>simp only[hi];exact⟨trivial,trivial⟩
   |some n=>
    have:=(wD (Qt hi)).2;have:n=m:=by
     rcases this with ⟨_,h⟩|⟨_,k0,h,ht,_⟩
     ·exact h.symm
     ·have:=IQ (f:=vr n) (k:=k0) (by omega);omega
    subst this;simp only[hi];exact⟨trivial,trivial⟩
theorem afi{N:aN}{σ0:St}{c0:gn}{w0:cB}{nm F j e:aN}{xs:aE AV}{ti:TI}(hx:E.ty e=ai ti)(h7:F<900000000)(s:σ (c6 nm)=.o (.box xs))(hF:σ (c6 F)=.jw)(hc:xs[j]? =ai .nl)(h:At P E N σ0 c0 w0 σ a w c):
  ∃c',At P E N σ0 c0 w0 (ox (ox σ (c6 nm) (.o (.box (xs.set j (.own F))))) (c6 F) (.o (.row e ao []))) a w c':=by
 let c':gn:=⟨λn=>if n=F then⟨ao,0,0,0,0,ti.ks.length⟩else c.P n,λn=>if n=F then(λ_ _=>⟨ao,0,0,0,0,0⟩)else c.G n,c.K⟩
 have U:c'.P F=⟨ao,0,0,0,0,ti.ks.length⟩:=bm rfl;have hA:ji σ c c':=λm hm=>by
  have:m≠F:=by rintro rfl;rcases hm with h|h;exact h hF;omega
  exact⟨bh this,bh this⟩
 have h5:nm≠F:=by rintro rfl;rw[s]at hF;cases hF
 have V:c'.P nm=c.P nm:=bh h5;let σ':=ox (ox σ (c6 nm) (.o (.box (xs.set j (.own F))))) (c6 F) (.o (.row e ao []));have key:∀m,σ' (c6 m)=if m=F then .o (.row e ao [])else if m=nm then .o (.box (xs.set j (.own F)))else σ (c6 m):=λm=>by show ox _ _ _ _=_;rw[oc,oc]
 have Q:∀m,σ (c6 m)≠ .jw->σ' (c6 m)≠ .jw:=λm hm=>by
  rw[key];by_cases I:m=F
  ·rw[bm I];simp
  ·rw[bh I];by_cases h2:m=nm
   ·rw[bm h2];simp
   ·rw[bh h2];exact hm
 have S:∀i j,¬fT [] i j:=λi j ⟨y,x,A,_⟩=>by simp at A
 have C:∀b,¬fu c' F (.row e ao []) b:=by
  rintro b (⟨I,_⟩|⟨_,i,j,I,_⟩)
  ·rw[U]at I;cases I
  ·exact S i j I
 obtain⟨Y,hb,h6,hv⟩:=h.ok.obj nm _ s
 have hh:=h.ok.change (σ':=σ') (w':=w) (c':=c') (λm=>m=F\/m=nm)
  (λm hm=>by rw[key,bh (λe=>hm (.inl e)),bh (λe=>hm (.inr e))]) Q hA (λ_ _ _=>rfl) (bT _) (λ_ h=>h) (λ_ h=>.inl h) h.ok.lt
  (λm o hm r=>by
   rw[key]at r;by_cases f:m=F
   ·rw[bm f]at r;cases r;subst f;refine⟨⟨ti,hx,by rw[U],λy A=>by cases A⟩,⟨by rw[U];rfl,λ_=>⟨rfl,by rw[U]⟩,λO=>by rw[U]at O;cases O⟩,λ_=>⟨λi j hi=>cJ hi (S i j),λi j _ _ hi=>cJ hi (S i j)⟩⟩
   ·have z:=hm.resolve_left f;subst z;rw[bh f,bm rfl]at r;cases r;refine⟨Y,by rw[V];exact hb,by rw[b9];exact h6,λk y hk=> ?_⟩
    by_cases X:j=k
    ·subst X;have hl:j<xs.length:=(aW.1 hc).1;rw[List.getElem?_set_self hl]at hk;cases hk;obtain⟨u,hu,M⟩:=hv j _ hc;exact⟨u,hu,by show u=j5 (c'.P F);rw[U];exact M⟩
    ·rw[List.getElem?_set_ne X]at hk;obtain⟨u,hu,M⟩:=hv k y hk;exact⟨u,hu,M.frame (λ_ _=>rfl) (λ_ h=>h) (λn O=>hA n (.inl (h.ok.kn m xs s y (aU hk) n O)))⟩)
  (λm o b hm r B=>by
   rw[key]at r;by_cases f:m=F
   ·rw[bm f]at r;cases r;subst f;exact cJ B (C b)
   ·have z:=hm.resolve_left f;subst z;rw[bh f,bm rfl]at r;cases r;have B:b=(c'.P m).blk:=B;rw[V]at B;exact⟨.inl ⟨m,_,.inr rfl,s,B⟩,λhk=>h.ok.kk m _ b s B hk⟩)
  (λm o m' o' b hm h4 r R B h3=>by
   rw[key]at r R;by_cases f:m=F
   ·rw[bm f]at r;cases r;subst f;exact cJ B (C b)
   ·by_cases t:m'=F
    ·rw[bm t]at R;cases R;subst t;exact cJ h3 (C b)
    ·rw[hm.resolve_left f,h4.resolve_left t])
  (λm ys hm r y A n O=>by
   rw[key]at r;by_cases f:m=F
   ·rw[bm f]at r;cases r
   ·have z:=hm.resolve_left f;subst z;rw[bh f,bm rfl]at r;cases r;rcases jl A with A|A
    ·exact Q n (h.ok.kn m xs s y A n O)
    ·subst A;rw[show n=F from by simpa [bL]using O,key,bm rfl];simp) rfl rfl rfl
 have sl:=h.sl.change h.ok hh.2 hA Q ({(default:gK)with dst:=none}) undef (λn _=>by show slot (ox _ _ _) n=_;rw[iu,iu]) (λd hd=>by cases hd);exact⟨c',hh.1,sl,h.sz,h.gr.trans hh.2,h.ag.trans hA.w.aga⟩
theorem Q0(j:∃ti,E.ty (kTy x)=ai ti)(h:At P E N σ0 c0 w0 σ a w c):∃σ' c',At P E N σ0 c0 w0 σ' a w c'/\∀f:St->α,zf x σ f=f σ':=by
 obtain⟨ti,j⟩:=j;have i:kNm x<900000000:=by unfold kNm;have:=Ea (x/1000) (show 1000000>0 by omega);omega
 have no:(∀f:St->α,zf x σ f=f σ)->∃σ' c',At P E N σ0 c0 w0 σ' a w c'/\∀f:St->α,zf x σ f=f σ':=λe=>⟨σ,c,h,e⟩
 cases hs:slot σ (Yr x)with
 |v g l=>
  by_cases hm:∃nm xs,g=aq/\l=[.bp nm 0]/\σ (c6 nm)=.o (.box xs)/\σ (c6 (kNm x))=.jw/\xs[QK x]? =ai .nl
  ·obtain⟨nm,xs,rfl,rfl,d,k,m⟩:=hm;obtain⟨c',r⟩:=afi j i d k m h;exact⟨_,c',r,λf=>by unfold zf;rw[hs];simp only[d,k,m,nv]⟩
  ·refine no λf=> ?_;unfold zf;rw[hs];split
   ·rename_i nm y;cases y;split
    ·rename_i xs s t;split
     ·rename_i u;exact cJ ⟨nm,xs,rfl,rfl,s,t,u⟩ hm
     ·rfl
    ·rfl
   ·rfl
 |jS l=>exact no λf=>by unfold zf;rw[hs]
 |un=>exact no λf=>by unfold zf;rw[hs]
theorem Bx:∀(keep:aE aN) (σ:St) (c:gn) (hk:∀x∈keep,UC x=ao->∃ti,E.ty (kTy x)=ai ti) (h:At P E N σ0 c0 w0 σ a w c),∃σ' c',At P E N σ0 c0 w0 σ' a w c'/\∀f:St->α,Ls keep σ f=f σ'
 |[],σ,c,_,h=>⟨σ,c,h,λ_=>rfl⟩
 |x::r,σ,c,hk,h=>by
  cases i:UC x with
  |false=>obtain⟨σ',c',d,e⟩:=Bx r σ c (λy j=>hk y (cu _ j)) h;exact⟨σ',c',d,λf=>by show(bif UC x then _ else _)=_;rw[i];exact e f⟩
  |true=>obtain⟨σ1,k,s,m⟩:=Q0 (α:=α) (hk x (cD ..) i) h;obtain⟨σ',c',d,e⟩:=Bx r σ1 k (λy j=>hk y (cu _ j)) s;exact⟨σ',c',d,λf=>by show(bif UC x then _ else _)=_;rw[i,aw,m,e]⟩
theorem GP(hk:∀x∈keep,UC x=ao->∃ti,E.ty (kTy x)=ai ti)(h:At P E N σ0 c0 w0 σ a w c):∃c',At P E N σ0 c0 w0 (canon keep σ) a w c':=by obtain⟨σ',f,d,e⟩:=Bx (α:=aE (aN×eW)) keep σ c hk h;unfold canon IE;rw[e,oq];exact MD d
theorem QN:∀x∈E.zd n,UC x=ao->∃ti,E.ty (kTy x)=ai ti:=by
 intro x d hk;have:=(da.1 d).2;rw[hk,aw]at this;cases h:E.ty (kTy x)with
 |some ti=>exact⟨ti,rfl⟩
 |none=>rw[h]at this;cases this
end
end Go.FG
namespace Go.FG
def aa6:Ex->Exit|.normal=>.normal|.exit id=>.exit id|.ret=>.ret
def sJ(N:aN):Code->aY
 |.region _ os _=>os.toList.all λo=>match o.dst with|some d=>pK d N|none=>ao
 |.seq a b=>sJ N a&&sJ N b
 |.cond _ a b=>sJ N a&&sJ N b
 |.block _ c=>sJ N c
 |.loop c=>sJ N c
 |_=>ao
theorem least{p:aN->Prop}(h:∃n,p n):∃n,p n/\∀k,p k->n<=k:=by
 obtain⟨n,i⟩:=h;induction n using Nat.strongRecOn with
 |_ n ih=>
  by_cases hm:∃m,m<n/\p m
  ·obtain⟨m,d,f⟩:=hm;exact ih m d f
  ·exact⟨n,i,λk hk=>by
    rcases qy k n with h|h
    ·exact cJ ⟨k,h,hk⟩ hm
    ·exact h⟩
section
variable {P:de} {E:fW}
def b6(E:fW){R:Type}(it:It R)(c:Code):Prop:=∀L K r,it (gk c) (sM E it c) (canon (E.zd (gk c))) L K=ai r->∃n,iter (sM E it c) (canon (E.zd (gk c))) n (eP L) K=ai r
theorem aa5(hE:dY P E)(hF:∀g,kT P E g (E.call g))(hm:P.follows .mixedOrders=ao){R:Type}{N:aN}{σ0:St}{c0:gn}{w0:cB}{it:It R}{r:R}:∀(z:Code),(∀c∈jH z,b6 E it c)->∀(σ:St) (K:Ex->St->aA R) (Q:Exit->Act->cB->Prop),sM E it z σ K=ai r->sJ N z=ao->
  (∀e σ' a w c,K e σ'=ai r->At P E N σ0 c0 w0 σ' a w c->Q (aa6 e) a w)->∀a w c,At P E N σ0 c0 w0 σ a w c->z.wp P Q a w:=by
 intro z;induction z with
 |skip=>intro _ σ K Q h _ u a w c i;exact wp_skip (u .normal σ a w c h i)
 |region id os h6=>intro s σ K Q h B u a w c i;refine Nt hE hF hm h (λo ho d hd=> ?_) (λσ' a w c hk i=>u .normal σ' a w c hk i) i;have:=bz.1 B o ho;rw[hd]at this;have this:pK d N=true:=this;simpa [sd]using this
 |seq x y M O=>
  intro s σ K Q h B u a w c i;simp only[sJ,aM]at B;refine wp_seq (M (λc I=>s c (bY _ I)) σ _ _ h B.1 (λe σ' a w c hk i=> ?_) a w c i);cases e with
  |normal=>exact O (λc I=>s c (bS _ I)) σ' K Q hk B.2 u a w c i
  |exit id=>exact u (.exit id) σ' a w c hk i
  |ret=>exact u .ret σ' a w c hk i
 |cond h3 x y M O=>
  intro s σ K Q h B u a w c i;simp only[sJ,aM]at B;cases h3 with
  |tmp t=>
   unfold sM at h;dsimp only at h;split at h
   ·rename_i b hs;have A:=i.sl.ok t;have:slot σ t=.v aq [.b b]:=by unfold slot;rw[hs]
    rw[this]at A;have A:a.eval (.tmp t)=.bool b:=A;cases b with
    |true=>have h:sM E it x (ox σ (pW t) (.v (.v aq [.b ao]))) K=ai r:=h;rw[B' hs]at h;exact wp_cond_true A (M (λc I=>s c (bY _ I)) σ K Q h B.1 u a w c i)
    |false=>have h:sM E it y (ox σ (pW t) (.v (.v aq [.b aq]))) K=ai r:=h;rw[B' hs]at h;exact wp_cond_false A (O (λc I=>s c (bS _ I)) σ K Q h B.2 u a w c i)
   ·cases h
  |_=>simp[sM]at h
 |block id x ih=>
  intro s σ K Q h B u a w c i;refine wp_block (ih s σ _ _ h B (λe σ' a w c hk i=> ?_) a w c i);cases e with
  |normal=>exact u .normal σ' a w c hk i
  |ret=>exact u .ret σ' a w c hk i
  |exit j=>
   have hk:(bif bK j id then K .normal σ' else K (.exit j) σ')=ai r:=hk;show Gu id Q (.exit j) a w;cases hj:bK j id with
   |true=>rw[hj]at hk;have h4:=aX hj;have A:Q .normal a w:=u .normal σ' a w c hk i;simp only[Gu,h4,if_true];exact A
   |false=>
    rw[hj]at hk;have h5:j≠id:=λe=>by subst e;simp at hj
    have A:Q (.exit j) a w:=u (.exit j) σ' a w c hk i;simp only[Gu,h5,if_false];exact A
 |loop x ih=>
  intro s σ K Q h B u a w c i;obtain⟨n,h⟩:∃n,iter (sM E it x) (canon (E.zd (gk x))) n (canon (E.zd (gk x)) σ) K=ai r:=s x (cD ..) _ K r h;let f:=sM (R:=R) E it x;let cn:=canon (E.zd (gk x));let p:Act->cB->aN->Prop:=λa w m=>∃σ c,iter f cn m σ K=ai r/\At P E N σ0 c0 w0 σ a w c;let S:Act->cB->aN:=λa w=>open Classical in if h:∃m,p a w m then(least h).choose else 0
  have h2:∀a w,(∃m,p a w m)->p a w (S a w)/\∀k,p a w k->S a w<=k:=by
   intro a w h;have:S a w=(least h).choose:=by simp only[S];rw[dif_pos h]
   rw[this];exact(least h).choose_spec
  obtain⟨c1,V⟩:=GP (keep:=E.zd (gk x)) QN i;refine wp_loop (λa w=>∃m,p a w m) S ⟨n,_,c1,h,V⟩ (λa w hI=> ?_);obtain⟨⟨σ1,c2,A,X⟩,h7⟩:=h2 a w hI;cases Y:S a w with
  |zero=>rw[Y]at A;cases A
  |succ m=>
   rw[Y]at A;refine ih (λc I=>s c (cu _ I)) σ1 _ _ A B (λe σ' a' w' c' hk U=> ?_) a w c2 X;obtain⟨c3,C⟩:=GP (keep:=E.zd (gk x)) QN U;cases e with
   |normal=>
    have hp:p a' w' m:=⟨_,c3,hk,C⟩
    refine⟨⟨m,hp⟩,?_⟩
    have:=(h2 a' w' ⟨m,hp⟩).2 m hp;omega
   |exit id=>exact u (.exit id) _ a' w' c3 hk C
   |ret=>exact u .ret _ a' w' c3 hk C
 |exit id=>intro _ σ K Q h _ u a w c i;exact wp_exit (u (.exit id) σ a w c h i)
 |ret=>intro _ σ K Q h _ u a w c i;exact wp_ret (u .ret σ a w c h i)
 |_=>intro _ σ K Q h;simp[sM]at h
end
end Go.FG
namespace Go.FG
structure j7 where
 aa:AA
 tk:aE aN
 fz:aE aN
 p:Pl
 g:aN->aN->Pl
 u:bP
section
variable {P:de} {E:fW} {σ:St} {a:Act} {w:cB} {c:gn}
def jC(T:Tab)(σ:St)(w:cB)(c:gn)(r:j7):Prop:=
 (∃e ex d te,r.aa=.ow e ex d/\r.fz=[]/\T.ty e=ai te/\r.u=j5 r.p/\r.p.sz=te.ks.length/\(∀y∈d,y.map CV.kd=te.ks)/\iO w r.p d (λi j u x=>if ex=ao then XC T w r.g i j u x else Holds T w c.K u x)/\(ex=ao->D_ r.p r.g d)/\
  (r.p.nil=aq->∃n ob,n∈r.tk/\σ (c6 n)=.o ob/\fu c n ob r.p.blk)/\(ex=ao->∀i j,fT d i j->(r.g i j).nil=aq->∃n ob,n∈r.tk/\σ (c6 n)=.o ob/\fu c n ob (r.g i j).blk))\/
 (r.tk=[]/\(∀n∈r.fz,∃el ex xs,σ (c6 n)=.o (.row el ex xs))/\(∀e ex xs,r.aa≠ .ow e ex xs)/\(∀xs,r.aa≠ .kp xs)/\∀f:gn,(∀b,K1r σ c r.fz b->f.K b)->∀nm,ed T w f (kO nm r.aa) r.u)
theorem G8(A:Ok E σ w c)(h:zb E om σ k x=ai (aa,tk,fz))(C:ed E w c x u):∃p g,jC E σ w c ⟨aa,tk,fz,p,g,u⟩:=by
 let nl:Pl:=⟨ao,0,0,0,0,0⟩
 have M:∀e ex R tk,(vV e x).val σ=ai (ex,R,tk)->(∃te,E.ty e=ai te)->∃p g,jC E σ w c ⟨.ow e ex R,tk,[],p,g,u⟩:=by rintro e ex R tk d ⟨te,t⟩;obtain⟨p,g,I⟩:=A5 A t C d;exact⟨p,g,.inl ⟨e,ex,R,te,rfl,rfl,t,I.v,I.sz,I.sh,I.at_,I.lR,I.own,I.owni⟩⟩
 have B:∀aa fz,(∀n∈fz,∃el ex xs,σ (c6 n)=.o (.row el ex xs))->(∀e ex xs,aa≠ .ow e ex xs)->(∀xs,aa≠ .kp xs)->(∀j:gn,(∀b,K1r σ c fz b->j.K b)->∀nm,ed E w j (kO nm aa) u)->∃p g,jC E σ w c ⟨aa,[],fz,p,g,u⟩:=
  λaa fz Y h2 z h4=>⟨nl,λ_ _=>nl,.inr ⟨rfl,Y,h2,z,h4⟩⟩
 have f:∀n∈([]:aE aN),∃el ex xs,σ (c6 n)=.o (.row el ex xs):=λn hn=>by cases hn
 have U:∀e,zc E e=ao->∃te,E.ty e=ai te:=λe S=>by
  unfold zc at S;cases t:E.ty e with
  |none=>rw[t]at S;cases S
  |some te=>exact⟨te,rfl⟩
 have N:∀{n el:aN} {ex:aY} {xs:Row},σ (c6 n)=.o (.row el ex xs)->∀j:gn,(∀b,K1r σ c [n] b->j.K b)->(∀b,c.K b->j.K b)/\∀b,fu c n (.row el ex xs) b->j.K b:=λhg j h=>⟨λb d=>h b (.inl d),λb d=>h b (.inr ⟨_,a_.2 rfl,_,hg,d⟩)⟩
 have O:∀{n el:aN} {ex:aY} {xs:Row},σ (c6 n)=.o (.row el ex xs)->∀m∈[n],∃el ex xs,σ (c6 m)=.o (.row el ex xs):=λhg m hm=>by rw[a_]at hm;subst hm;exact⟨_,_,_,hg⟩
 cases x with
 |i k n=>cases h;exact B _ _ f (λ_ _ _ h=>by cases h) (λ_ h=>by cases h) (λj _ _=>C)
 |b y=>cases h;exact B _ _ f (λ_ _ _ h=>by cases h) (λ_ h=>by cases h) (λj _ _=>C)
 |s y=>cases h;exact B _ _ f (λ_ _ _ h=>by cases h) (λ_ h=>by cases h) (λj _ _=>C)
 |sh e xs=>
  cases om with
  |own=>cases h
  |nat=>cases h;exact B _ _ f (λ_ _ _ h=>by cases h) (λ_ h=>by cases h) (λj z _=>Holds.frame C (λ_ _=>rfl) (λb d=>z b (.inl d)))
  |sh=>cases h;exact B _ _ f (λ_ _ _ h=>by cases h) (λ_ h=>by cases h) (λj z _=>Holds.frame C (λ_ _=>rfl) (λb d=>z b (.inl d)))
 |nl=>
  have C:u=.slice aj 0 0:=C;cases om with
  |own e=>
   have h:(bif zc E e then ai (AA.ow e ao [],([]:aE aN),([]:aE aN))else aj)=ai (aa,tk,fz):=h;cases t:zc E e with
   |false=>rw[t]at h;cases h
   |true=>rw[t]at h;cases h;exact M e ao [] [] rfl (U e t)
  |sh e=>cases h;exact B _ _ f (λ_ _ _ h=>by cases h) (λ_ h=>by cases h) (λj _ _=>by rw[C];exact Holds.nl _ _ _)
  |nat=>
   cases k with
   |l e=>
    have h:(bif zc E e then ai (AA.ow e ao [],([]:aE aN),([]:aE aN))else aj)=ai (aa,tk,fz):=h;cases t:zc E e with
    |false=>rw[t]at h;cases h
    |true=>rw[t]at h;cases h;exact M e ao [] [] rfl (U e t)
   |_=>cases h;exact B _ _ f (λ_ _ _ h=>by cases h) (λ_ h=>by cases h) (λj _ _=>C)
 |own n=>
  unfold zb at h;dsimp only at h;cases r:σ (c6 n)with
  |v=>rw[r]at h;cases h
  |jw=>rw[r]at h;cases h
  |o ob=>
   rw[r]at h;have V:u=j5 (c.P n):=C;cases ob with
   |row e ex xs=>
    obtain⟨_,_,ti,t,_⟩:=kK A r;have d:(vV e (.own n)).val σ=ai (ex,xs,[n]):=by simp[vV,i6,r]
    cases om with
    |sh X=>cases h;refine B _ _ (O r) (λ_ _ _ h=>by cases h) (λ_ h=>by cases h) (λj z _=> ?_);obtain⟨r1,r2⟩:=N r j z;rw[V];exact rA A r r1 r2
    |nat=>cases h;exact M e ex xs [n] d ⟨ti,t⟩
    |own=>cases h;exact M e ex xs [n] d ⟨ti,t⟩
   |fL e xs=>
    have Q:Holds E w c.K u (.l e xs):=by rw[V];exact(A.obj n _ r).1
    cases om with
    |own=>cases h
    |nat=>cases h;exact B _ _ f (λ_ _ _ h=>by cases h) (λ_ h=>by cases h) (λj z _=>Holds.frame Q (λ_ _=>rfl) (λb d=>z b (.inl d)))
    |sh=>cases h;exact B _ _ f (λ_ _ _ h=>by cases h) (λ_ h=>by cases h) (λj z _=>Holds.frame Q (λ_ _=>rfl) (λb d=>z b (.inl d)))
   |_=>cases h
 |vw n lo hi=>
  unfold zb at h;dsimp only at h;cases r:σ (c6 n)with
  |v=>rw[r]at h;cases h
  |jw=>rw[r]at h;cases h
  |o ob=>
   rw[r]at h;cases ob with
   |row e ex xs=>
    obtain⟨_,_,ti,t,_⟩:=kK A r;have d:(vV e (.vw n lo hi)).val σ=ai (ex,dR xs lo hi,[n]):=by simp[vV,i6,r]
    cases om with
    |sh X=>cases h;refine B _ _ (O r) (λ_ _ _ h=>by cases h) (λ_ h=>by cases h) (λj z _=> ?_);obtain⟨r1,r2⟩:=N r j z;exact DR A r r1 r2 C
    |nat=>cases h;exact M e ex _ [n] d ⟨ti,t⟩
    |own=>cases h;exact M e ex _ [n] d ⟨ti,t⟩
   |fL e xs=>
    have Q:Holds E w c.K u (.l e (dR xs lo hi)):=oU A r C;cases om with
    |own=>cases h
    |nat=>cases h;exact B _ _ f (λ_ _ _ h=>by cases h) (λ_ h=>by cases h) (λj z _=>Holds.frame Q (λ_ _=>rfl) (λb d=>z b (.inl d)))
    |sh=>cases h;exact B _ _ f (λ_ _ _ h=>by cases h) (λ_ h=>by cases h) (λj z _=>Holds.frame Q (λ_ _=>rfl) (λb d=>z b (.inl d)))
   |_=>cases h
 |_=>simp[zb]at h
theorem Dm(m:Ok E σ w c):∀{xs:aE AV} {z:aN} {ks:aE Ck} {l:aE AA} {tk fz:aE aN} {d:eF bP},sN E q σ z ks xs=ai (l,tk,fz)->fI E w c d xs->
  ∃cs:aE j7,l=cs.map (·.aa)/\tk=cs.flatMap (·.tk)/\fz=cs.flatMap (·.fz)/\cs.length=xs.length/\∀(j:aN) (r:j7),cs[j]? =ai r->d[j]? =ai r.u/\jC E σ w c r:=by
 intro xs;induction xs with
 |nil=>intro z ks l tk fz d h _;cases h;exact⟨[],rfl,rfl,rfl,rfl,λj r h=>by simp at h⟩
 |cons x xs ih=>
  intro z ks l tk fz d h s;unfold sN at h;split at h
  ·rename_i aa t f as ts fs A B;cases h;obtain⟨u,k,C⟩:=s.2 0 x rfl;obtain⟨p,g,K⟩:=G8 m A C;have y:fI E w c (d.extract 1 d.size) xs:=by
    refine⟨by simp;have:=s.1;simp at this;omega,λj b i=> ?_⟩
    obtain⟨u,k,I⟩:=s.2 (j+1) b i;refine⟨u,?_,I⟩
    have:=(dr.1 k).1;rw[dS,bm (by omega),iL];exact k
   obtain⟨cs,rfl,rfl,rfl,M,N⟩:=ih B y;refine⟨⟨aa,t,f,p,g,u⟩::cs,rfl,rfl,rfl,by simp[M],λj r i=> ?_⟩
   cases j with
   |zero=>cases i;exact⟨k,K⟩
   |succ j=>
    obtain⟨r1,r2⟩:=N j r i;refine⟨?_,r2⟩
    rw[dS]at r1;split at r1
    ·rw[iL];exact r1
    ·cases r1
  ·cases h
end
end Go.FG
namespace Go.FG
structure mg where
 box:aA aN
 agg:aY
 cs:aE j7
 v:bP
def mg.arg(R:mg):gg:=match R.box with|some _=>.pt (R.cs.map (·.aa))|none=>.v R.agg (R.cs.map (·.aa))
def mg.tk(R:mg):aE aN:=R.box.toList++R.cs.flatMap (·.tk)
def mg.fz(R:mg):aE aN:=R.cs.flatMap (·.fz)
def yF(rv:ResultVar)(d:eF bP):Sem bP:=match rv with|.tmp t=>pure (d.getD t undef)|.cell a t=>do loadVar t (<-asAddr (d.getD a undef))
section
variable {P:de} {E:fW} {σ:St} {a:Act} {w:cB} {c:gn}
def AR(T:Tab)(σ:St)(w:cB)(c:gn)(R:mg):Prop:=
 (∃nm xs d,R.box=ai nm/\σ (c6 nm)=.o (.box xs)/\R.v=.pointer (ai (ad (c.P nm).blk 0))/\nb w (c.P nm).blk d/\d.size=R.cs.length/\∀(j:aN) (r:j7),R.cs[j]? =ai r->d[j]? =ai r.u/\jC T σ w c r)\/
 (R.box=aj/\((R.agg=aq/\∃r,R.cs=[r]/\r.u=R.v/\jC T σ w c r)\/(R.agg=ao/\∃d:eF bP,R.v=.agg d/\d.size=R.cs.length/\∀(j:aN) (r:j7),R.cs[j]? =ai r->d[j]? =ai r.u/\jC T σ w c r)))
theorem G9(j:Ok E σ w c)(h:Lb E q σ ks s=ai (x,tk,fz))(hs:iM E w c s v):∃R:mg,R.arg=x/\R.tk=tk/\R.fz=fz/\R.v=v/\AR E σ w c R:=by
 have A:∀g xs,s=.v g xs->(match sN E q σ 0 ks xs with|some (l,ns,ms)=>ai (gg.v g l,ns,ms)|none=>aj)=ai (x,tk,fz)->∃R:mg,R.arg=x/\R.tk=tk/\R.fz=fz/\R.v=v/\AR E σ w c R:=by
  rintro g xs rfl h;cases i:sN E q σ 0 ks xs with
  |none=>rw[i]at h;cases h
  |some t=>
   obtain⟨l,ns,ms⟩:=t;rw[i]at h;cases h;obtain⟨cs,rfl,rfl,rfl,u,z⟩:=Dm j i (pO.cells hs);refine⟨⟨aj,g,cs,v⟩,rfl,by simp[mg.tk],rfl,rfl,.inr ⟨rfl,?_⟩⟩
   replace hs:pO E w c g xs v:=hs;have m:∀y,pO E w c aq [y] v->v.cells= #[v]:=λy M=>Dg (ed.one M);unfold pO at hs;split at hs
   ·rename_i y;obtain⟨r,rfl⟩:=gE.1 (u.trans rfl);obtain⟨B,C⟩:=z 0 r rfl;rw[m y hs]at B;exact .inl ⟨rfl,r,rfl,by simpa using B.symm,C⟩
   ·obtain⟨d,rfl,f,_⟩:=hs;exact .inr ⟨rfl,d,rfl,by rw[f];exact u.symm,z⟩
   ·exact hs.elim
 unfold Lb at h;split at h
 ·rename_i nm;cases k:σ (c6 nm)with
  |v=>rw[k]at h;cases h
  |jw=>rw[k]at h;cases h
  |o ob=>
   rw[k]at h;cases ob with
   |box xs=>
    dsimp only at h;cases i:sN E q σ 0 [] xs with
    |none=>rw[i]at h;cases h
    |some t=>obtain⟨l,ns,ms⟩:=t;rw[i]at h;cases h;obtain⟨d,I,f,K⟩:=j.obj nm _ k;obtain⟨cs,rfl,rfl,rfl,u,z⟩:=Dm j i ⟨f,K⟩;exact⟨⟨ai nm,aq,cs,v⟩,rfl,rfl,rfl,rfl,.inl ⟨nm,xs,d,rfl,k,hs,I,by rw[f];exact u.symm,z⟩⟩
   |_=>cases h
 ·exact A _ _ rfl h
 ·cases h
theorem HE(hE:dY P E)(k:E.ty t=ai ti)(f:nb w b d)(hl:d.size=ti.ks.length):(loadVar t (ad b 0)).run P w=.ok (if ti.agg=ao then .agg d else d.toList.headD .nilIface) w:=by
 have h:=B0 (P:=P) w hE k (b:=b) (o:=0) (cs:=d.toList) (by simpa using hl) (λj v i=>by rw[bV,f.cell];simpa using i);have e:(xC t (.pointer (ai (ad b 0)))).run P w=(loadVar t (ad b 0)).run P w:=by simp only[xC,tZ,cg,cU,bH]
 rw[<-e,h]
theorem RJ(hE:dY P E)(r:Ok E σ w c)(I:e6 E σ a w c)(h:RI E q σ rv t=ai (x,tk,fz)):∃R:mg,R.arg=x/\R.tk=tk/\R.fz=fz/\AR E σ w c R/\(yF rv a.tmps).run P w=.ok R.v w:=by
 unfold RI at h;cases ht:E.ty t with
 |none=>rw[ht]at h;cases h
 |some ti=>
  rw[ht]at h;cases rv with
  |tmp s=>obtain⟨R,A,O,Q,S,U⟩:=G9 r h (I.ok s);exact⟨R,A,O,Q,U,by rw[S];rfl⟩
  |cell b t'=>
   dsimp only at h;split at h
   ·rename_i i nm M hs;split at h
    ·rename_i xs ho;cases X:bK xs.length i.ks.length with
     |false=>rw[X]at h;cases h
     |true=>
      rw[X]at h;have m:=aX X;have hv:a.eval (.tmp b)=.pointer (ai (ad (c.P nm).blk 0)):=by have:=I.ok b;rw[hs]at this;exact this
      obtain⟨f,Y,K,B⟩:=r.obj nm _ ho;have C:=HE (P:=P) (w:=w) hE M Y (by rw[K];exact m);have N:iM E w c (.v i.agg xs) (if i.agg=ao then .agg f else f.toList.headD .nilIface):=by
       show pO E w c i.agg xs _;cases V:i.agg with
       |true=>rw[bm rfl];exact⟨f,rfl,K,B⟩
       |false=>
        obtain⟨d,_,_,hn⟩:=hE.desc t' i M;have A:i.ks.length=1:=by rcases hn V with ⟨k,h,_⟩|⟨h,_⟩|⟨h,_⟩|⟨e',h,_⟩|⟨h,_⟩<;>simp[h]
        obtain⟨y,rfl⟩:=gE.1 (m.trans A);obtain⟨u,hu,ha⟩:=B 0 y rfl;have j:f.toList[0]? =ai u:=by simpa using hu
        have:f.toList.headD .nilIface=u:=by
         cases hl:f.toList with
         |nil=>rw[hl]at j;cases j
         |cons z l=>rw[hl]at j;cases j;rfl
        rw[bh (by simp),this];exact ha
      obtain⟨R,A,O,Q,S,U⟩:=G9 r h N;refine⟨R,A,O,Q,U,?_⟩
      rw[S,<-C];have:a.tmps.getD b undef=.pointer (ai (ad (c.P nm).blk 0)):=hv;simp only[yF,this,asAddr,cg,cU,bH]
    ·cases h
   ·cases h
theorem Nv(hE:dY P E)(f:Ok E σ w c)(i:e6 E σ a w c):∀{rs:aE ResultVar} {q:aN} {ts:aE aN} {as:aE gg} {tk fz:aE aN},BR E σ q rs ts=ai (as,tk,fz)->∃RL:aE mg,as=RL.map (·.arg)/\tk=RL.flatMap (·.tk)/\fz=RL.flatMap (·.fz)/\(∀R∈RL,AR E σ w c R)/\RL.length=rs.length/\(rs.mapM (λrv=>yF rv a.tmps)).run P w=.ok (RL.map (·.v)) w:=by
 intro rs;induction rs with
 |nil=>intro q ts as tk fz h;cases h;exact⟨[],rfl,rfl,rfl,λR h=>(by cases h),rfl,by simp⟩
 |cons rv rs ih=>
  intro q ts as tk fz h;unfold BR at h;split at h
  ·rename_i x l m j ls ms k r;cases h;obtain⟨R,rfl,rfl,rfl,r4,r5⟩:=RJ hE f i k;obtain⟨RL,rfl,rfl,rfl,s,t,u⟩:=ih r;refine⟨R::RL,rfl,rfl,rfl,λR' d=> ?_,by simp[t],?_⟩
   ·rcases cm.1 d with rfl|d
    ·exact r4
    ·exact s R' d
   ·simp only[TR,cg,r5,u,bH,cU,e9]
  ·cases h
def BS(vs:aE bP):bP:=match vs with|[v]=>v|l=>.tuple l.toArray
theorem HF(h:(fn.results.toList.mapM (λrv=>yF rv a.tmps)).run P w=.ok vs w):(results fn a.tmps).run P w=.ok (BS vs) w:=by
 have e:(fn.results.mapM (λrv=>yF rv a.tmps)).run P w=.ok vs.toArray w:=by rw[Array.mapM_eq_mapM_toList];simp[h]
 have:results fn a.tmps=(do let vs<-fn.results.mapM (λrv=>yF rv a.tmps);pure (if h:vs.size=1 then vs[0]else .tuple vs)):=rfl;rw[this];simp only[cg,e,bH,cU];match vs with
 |[]=>rfl
 |[v]=>rfl
 |_::_::_=>rfl
end
end Go.FG
namespace Go.FG
structure nh where
 box:aY
 cs:aE j7
def nh.l(O:nh):aE AA:=O.cs.map (·.aa)
def nh.ns(O:nh)(p:aN):aE aN:=(if O.box=ao then [dF p 900]else [])++O.cs.flatMap (·.tk)
def nh.ms(O:nh):aE aN:=O.cs.flatMap (·.fz)
section
variable {P:de} {E:fW} {σ:St} {a:Act} {w:cB} {c:gn}
def Kept(σ:St)(p j:aN)(xs:aE AA)(r:j7):Prop:=∃e ex z d,xs[j]? =ai (.ow e ex z)/\r.aa=.kp d/\r.tk=[dF p j]/\r.fz=[]/\σ (c6 (dF p j))=.o (.row e ex d)
def Gy(T:Tab)(σ:St)(w:cB)(c:gn)(p:aN)(x:gg)(O:nh):Prop:=
 (O.box=aq/\(∀xs,x≠ .pt xs)/\(O.cs=[]\/∃g xs,x=.v g xs/\∀(j:aN) (r:j7),O.cs[j]? =ai r->Kept σ p j xs r\/(r.aa=.nl/\r.tk=[]/\r.fz=[])))\/
 (O.box=ao/\∃xs vs d,x=.pt xs/\σ (c6 (dF p 900))=.o (.box vs)/\nb w (c.P (dF p 900)).blk d/\d.size=O.cs.length/\
  ∀(j:aN) (r:j7),O.cs[j]? =ai r->d[j]? =ai r.u/\((Kept σ p j xs r/\r.u=j5 (c.P (dF p j)))\/jC T σ w c r))
theorem HI{a b:aY}(h:HH a b=ao):a=b:=by cases a<;>cases b<;>first|rfl|cases h
theorem V'(p j i:aN):dF p j+i=dF p (j+i):=by unfold dF;omega
theorem Jc:∀{xs:aE AA} {j:aN},∃cs:aE j7,(pr σ tk (dF p j) xs).1=cs.map (·.aa)/\(pr σ tk (dF p j) xs).2=cs.flatMap (·.tk)/\cs.flatMap (·.fz)=[]/\
  ∀(i:aN) (r:j7),cs[i]? =ai r->((∃e ex z d,xs[i]? =ai (.ow e ex z)/\r.aa=.kp d/\r.tk=[dF p (j+i)]/\r.fz=[]/\σ (c6 (dF p (j+i)))=.o (.row e ex d))\/(r.aa=.nl/\r.tk=[]/\r.fz=[])):=by
 intro xs;induction xs with
 |nil=>intro j;exact⟨[],rfl,rfl,rfl,λi r h=>by simp at h⟩
 |cons x xs ih=>
  intro j;obtain⟨cs,y,A,B,C⟩:=ih (j:=j+1);have s:dF p j+1=dF p (j+1):=V' p j 1;let pl:Pl:=⟨ao,0,0,0,0,0⟩
  have one:∃r:j7,mP σ tk (dF p j) x=(r.aa,r.tk)/\r.fz=[]/\((∃e ex z d,x=.ow e ex z/\r.aa=.kp d/\r.tk=[dF p j]/\r.fz=[]/\σ (c6 (dF p j))=.o (.row e ex d))\/(r.aa=.nl/\r.tk=[]/\r.fz=[])):=by
   have no:mP σ tk (dF p j) x=(.nl,[])->∃r:j7,mP σ tk (dF p j) x=(r.aa,r.tk)/\r.fz=[]/\((∃e ex z d,x=.ow e ex z/\r.aa=.kp d/\r.tk=[dF p j]/\r.fz=[]/\σ (c6 (dF p j))=.o (.row e ex d))\/(r.aa=.nl/\r.tk=[]/\r.fz=[])):=
    λh=>⟨⟨.nl,[],[],pl,λ_ _=>pl,undef⟩,h,rfl,.inr ⟨rfl,rfl,rfl⟩⟩
   cases x with
   |ow e ex z=>
    cases hm:ma (dF p j) tk with
    |true=>exact no (by simp[mP,hm])
    |false=>
     obtain⟨so,f⟩:∃so,σ (c6 (dF p j))=so:=⟨_,rfl⟩
     cases so with
     |v=>exact no (by simp[mP,hm,f])
     |jw=>exact no (by simp[mP,hm,f])
     |o ob=>
      cases ob with
      |row u m d=>
       cases k:(bK e u&&HH ex m)with
       |false=>exact no (by simp only[mP,hm,ax,f,k])
       |true=>simp only[aM]at k;have I:=aX k.1;have K:=HI k.2;subst I;subst K;exact⟨⟨.kp d,[dF p j],[],pl,λ_ _=>pl,undef⟩,by simp[mP,hm,f,k.2],rfl,.inl ⟨e,ex,z,d,rfl,rfl,rfl,rfl,f⟩⟩
      |_=>exact no (by simp[mP,hm,f])
   |_=>exact no rfl
  obtain⟨r,t,M,k3⟩:=one;refine⟨r::cs,?_,?_,by simp[M,B],λi Q hi=> ?_⟩
  ·show(mP σ tk (dF p j) x).1::(pr σ tk (dF p j+1) xs).1=_;rw[t,s,y];rfl
  ·show(mP σ tk (dF p j) x).2++(pr σ tk (dF p j+1) xs).2=_;rw[t,s,A];rfl
  ·cases i with
   |zero=>
    cases hi;rcases k3 with ⟨e,ex,z,d,N,O⟩|q
    ·exact .inl ⟨e,ex,z,d,by rw[N];rfl,O⟩
    ·exact .inr q
   |succ i=>have:=C i Q hi;rw[show j+1+i=j+(i+1)by omega]at this;exact this
theorem MC(Q:Ok E σ w c):∀{xs:aE AV} {j:aN} {s l:aE AA} {tk fz:aE aN} {d:eF bP},EZ E q σ j s xs=ai (l,tk,fz)->fI E w c d xs->
  ∃cs:aE j7,l=cs.map (·.aa)/\tk=cs.flatMap (·.tk)/\fz=cs.flatMap (·.fz)/\cs.length=xs.length/\∀(i:aN) (r:j7),cs[i]? =ai r->d[i]? =ai r.u/\
   (((∃e ex z B,s[i]? =ai (.ow e ex z)/\r.aa=.kp B/\r.tk=[dF q (j+i)]/\r.fz=[]/\σ (c6 (dF q (j+i)))=.o (.row e ex B))/\r.u=j5 (c.P (dF q (j+i))))\/jC E σ w c r):=by
 intro xs;induction xs with
 |nil=>intro j s l tk fz d h _;cases h;exact⟨[],rfl,rfl,rfl,rfl,λi r h=>by simp at h⟩
 |cons x xs ih=>
  intro j s l tk fz d h R;unfold EZ at h;split at h
  ·rename_i aa t f as ts fs m Y;cases h;obtain⟨u,K,U⟩:=R.2 0 x rfl;have S:fI E w c (d.extract 1 d.size) xs:=by
    refine⟨by simp;have:=R.1;simp at this;omega,λi b hj=> ?_⟩
    obtain⟨u,K,I⟩:=R.2 (i+1) b hj;refine⟨u,?_,I⟩
    have:=(dr.1 K).1;rw[dS,bm (by omega),iL];exact K
   obtain⟨cs,rfl,rfl,rfl,i4,i5⟩:=ih Y S;have one:∃p g,((∃e ex z B,s[0]? =ai (.ow e ex z)/\aa=.kp B/\t=[dF q j]/\f=[]/\σ (c6 (dF q j))=.o (.row e ex B))/\u=j5 (c.P (dF q j)))\/jC E σ w c ⟨aa,t,f,p,g,u⟩:=by
    have A:∀{om k},zb E om σ k x=ai (aa,t,f)->∃p g,((∃e ex z B,s[0]? =ai (.ow e ex z)/\aa=.kp B/\t=[dF q j]/\f=[]/\σ (c6 (dF q j))=.o (.row e ex B))/\u=j5 (c.P (dF q j)))\/jC E σ w c ⟨aa,t,f,p,g,u⟩:=λhh=>by obtain⟨p,g,N⟩:=G8 Q hh U;exact⟨p,g,.inr N⟩
    unfold Xt at m;split at m
    ·rename_i e ex z n _ I;cases O:bK n (dF q j)with
     |false=>rw[O]at m;exact A (k:=.o) m
     |true=>
      rw[O]at m;have:=aX O;subst this;obtain⟨so,C⟩:∃so,σ (c6 (dF q j))=so:=⟨_,rfl⟩
      cases so with
      |v=>simp[C]at m
      |jw=>simp[C]at m
      |o ob=>
       cases ob with
       |row V M B=>
        simp only[C,aw]at m;cases y:(bK e V&&HH ex M)with
        |false=>rw[y]at m;cases m
        |true=>
         rw[y]at m;cases m;simp only[aM]at y;have he:=aX y.1;have hx:=HI y.2;subst he;subst hx;refine⟨⟨ao,0,0,0,0,0⟩,λ_ _=>⟨ao,0,0,0,0,0⟩,.inl ⟨⟨e,ex,z,B,?_,rfl,rfl,rfl,C⟩,U⟩⟩
         cases s with
         |nil=>cases I
         |cons b s=>rw[show b=_ from I];rfl
       |_=>simp[C]at m
    ·exact A (k:=.o) m
   obtain⟨p,g,N⟩:=one;refine⟨⟨aa,t,f,p,g,u⟩::cs,rfl,rfl,rfl,by simp[i4],λi r hi=> ?_⟩
   cases i with
   |zero=>cases hi;exact⟨K,N⟩
   |succ i=>
    obtain⟨r1,r2⟩:=i5 i r hi;refine⟨?_,?_⟩
    ·rw[dS]at r1;split at r1
     ·rw[iL];exact r1
     ·cases r1
    ·rw[show j+1+i=j+(i+1)by omega]at r2;have X:s.tail[i]? =s[i+1]? :=by cases s<;>simp
     rw[X]at r2;exact r2
  ·cases h
end
end Go.FG
namespace Go.FG
section
variable {P:de} {E:fW} {σ:St} {a:Act} {w:cB} {c:gn}
theorem Nl(d:Ok E σ w c):∀{args:aE gg} {p:aN} {l:aE (aE AA)} {ns ms:aE aN},BL E σ tk p args=ai (l,ns,ms)->
  ∃OL:aE nh,l=OL.map (·.l)/\OL.length=args.length/\ns=(OL.zipIdx p).flatMap (λt=>t.1.ns t.2)/\ms=OL.flatMap (·.ms)/\∀(i:aN) (O:nh) (x:gg),OL[i]? =ai O->args[i]? =ai x->Gy E σ w c (p+i) x O:=by
 intro args;induction args with
 |nil=>intro p l ns ms h;cases h;exact⟨[],rfl,rfl,rfl,rfl,λi O x h=>by simp at h⟩
 |cons x args ih=>
  intro p l ns ms h;unfold BL at h;split at h
  ·cases h
  ·rename_i l' h6 h4 m;obtain⟨OL,rfl,S,rfl,rfl,U⟩:=ih m;have put:∀O:nh,Gy E σ w c p x O->l=O.l::OL.map (·.l)->ns=O.ns p++(OL.zipIdx (p+1)).flatMap (λt=>t.1.ns t.2)->ms=O.ms++OL.flatMap (·.ms)->∃OL:aE nh,l=OL.map (·.l)/\OL.length=(x::args).length/\ns=(OL.zipIdx p).flatMap (λt=>t.1.ns t.2)/\ms=OL.flatMap (·.ms)/\∀(i:aN) (O:nh) (y:gg),OL[i]? =ai O->(x::args)[i]? =ai y->Gy E σ w c (p+i) y O:=by
    intro O N m K M;refine⟨O::OL,m,by simp[S],by rw[K,List.zipIdx_cons,xD],M,λi I y hi C=> ?_⟩
    cases i with
    |zero=>cases hi;cases C;exact N
    |succ i=>have:=U i I y hi C;rwa[show p+1+i=p+(i+1)by omega]at this
   cases x with
   |v g xs=>
    dsimp only at h;cases A:Qm xs with
    |false=>rw[A]at h;cases h;exact put ⟨aq,[]⟩ (.inl ⟨rfl,(λ_ h=>by cases h),.inl rfl⟩) rfl rfl rfl
    |true=>rw[A]at h;cases h;obtain⟨cs,V,X,k3,z⟩:=Jc (σ:=σ) (tk:=tk) (p:=p) (xs:=xs) (j:=0);refine put ⟨aq,cs⟩ (.inl ⟨rfl,(λ_ h=>by cases h),.inr ⟨g,xs,rfl,λj r u=> ?_⟩⟩) (by rw[V];rfl) (by rw[X];rfl) (by simp[nh.ms,k3]);have:=z j r u;rw[bV]at this;exact this
   |pt xs=>
    dsimp only at h;split at h
    ·rename_i vs B;split at h
     ·rename_i as h7 h5 Q;cases h;obtain⟨k,s,f,R⟩:=d.obj _ _ B;obtain⟨cs,rfl,rfl,rfl,z,Y⟩:=MC d Q ⟨f,R⟩;refine put ⟨ao,cs⟩ (.inr ⟨rfl,xs,vs,k,rfl,B,s,by rw[f];exact z.symm,λj r u=> ?_⟩) rfl (by simp[nh.ns]) rfl;obtain⟨r1,r2⟩:=Y j r u;rw[bV]at r2;exact⟨r1,r2⟩
     ·cases h
    ·cases h
   |fb xs=>cases h;exact put ⟨aq,[]⟩ (.inl ⟨rfl,(λ_ h=>by cases h),.inl rfl⟩) rfl rfl rfl
theorem yZ:∀{l:aE (aE AA)} {p:aN},(tD l).getD p []=l.getD p []:=by
 intro l;induction l with
 |nil=>intro p;rfl
 |cons x l ih=>
  intro p;unfold tD;split
  ·rename_i h;cases p with
   |zero=>rfl
   |succ p=>rw[uS,<-ih,h];rfl
  ·rename_i f d _;cases p with
   |zero=>rfl
   |succ p=>rw[uS,uS,ih]
end
end Go.FG
namespace Go.FG
structure Sp where
 res:aY
 i:aN
 j:aA aN
def oW(RL:aE mg)(OL:aE nh)(s:Sp):aE aN:=
 match s.res,s.j with
 |true,aj=>match RL[s.i]? with|some R=>R.box.toList|none=>[]
 |true,ai j=>match RL[s.i]? with|some R=>(match R.cs[j]? with|some r=>r.tk|none=>[])|none=>[]
 |false,aj=>match OL[s.i]? with|some O=>(if O.box=ao then [dF s.i 900]else [])|none=>[]
 |false,ai j=>match OL[s.i]? with|some O=>(match O.cs[j]? with|some r=>r.tk|none=>[])|none=>[]
theorem mT{α:Type}{l:aE α}{i:aN}{x:α}{p:aN}(h:l[i]? =ai x):(l.zipIdx p)[i]? =ai (x,p+i):=by rw[List.getElem?_zipIdx,h];rfl
theorem WA{RL:aE mg}{OL:aE nh}(hn:(RL.flatMap (·.tk)++(OL.zipIdx 0).flatMap (λt=>t.1.ns t.2)).Nodup){s V:Sp}{n:aN}(h:n∈oW RL OL s)(Q:n∈oW RL OL V):s=V:=by
 obtain⟨n1,n2,n3⟩:=ej.1 hn;obtain⟨a1,a2⟩:=lx n1;obtain⟨b1,b2⟩:=lx n2;have N:∀{i:aN} {j:aA aN},n∈oW RL OL ⟨ao,i,j⟩->∃R,RL[i]? =ai R/\n∈R.tk/\((j=aj/\n∈R.box.toList)\/∃q r,j=ai q/\R.cs[q]? =ai r/\n∈r.tk):=by
  intro i j h;cases j with
  |none=>
   unfold oW at h;dsimp only at h;cases u:RL[i]? with
   |none=>rw[u]at h;cases h
   |some R=>rw[u]at h;exact⟨R,rfl,bY _ h,.inl ⟨rfl,h⟩⟩
  |some q=>
   unfold oW at h;dsimp only at h;cases u:RL[i]? with
   |none=>rw[u]at h;cases h
   |some R=>
    rw[u]at h;dsimp only at h;cases x:R.cs[q]? with
    |none=>rw[x]at h;cases h
    |some r=>rw[x]at h;exact⟨R,rfl,bS _ (bM.2 ⟨r,aU x,h⟩),.inr ⟨q,r,rfl,x,h⟩⟩
 have M:∀{i:aN} {j:aA aN},n∈oW RL OL ⟨aq,i,j⟩->∃O,OL[i]? =ai O/\n∈O.ns i/\((j=aj/\n∈(if O.box=ao then [dF i 900]else []))\/∃q r,j=ai q/\O.cs[q]? =ai r/\n∈r.tk):=by
  intro i j h;cases j with
  |none=>
   unfold oW at h;dsimp only at h;cases u:OL[i]? with
   |none=>rw[u]at h;cases h
   |some R=>rw[u]at h;exact⟨R,rfl,bY _ h,.inl ⟨rfl,h⟩⟩
  |some q=>
   unfold oW at h;dsimp only at h;cases u:OL[i]? with
   |none=>rw[u]at h;cases h
   |some R=>
    rw[u]at h;dsimp only at h;cases x:R.cs[q]? with
    |none=>rw[x]at h;cases h
    |some r=>rw[x]at h;exact⟨R,rfl,bS _ (bM.2 ⟨r,aU x,h⟩),.inr ⟨q,r,rfl,x,h⟩⟩
 have lR:∀{A:aE aN} {cs:aE j7} {j C:aA aN},(A++cs.flatMap (·.tk)).Nodup->((j=aj/\n∈A)\/∃q r,j=ai q/\cs[q]? =ai r/\n∈r.tk)->((C=aj/\n∈A)\/∃q r,C=ai q/\cs[q]? =ai r/\n∈r.tk)->j=C:=by
  intro A cs j C U k k';obtain⟨m1,m2,m3⟩:=ej.1 U;have B:∀{q:aN} {r:j7},cs[q]? =ai r->n∈r.tk->n∈cs.flatMap (·.tk):=λhq x=>bM.2 ⟨_,aU hq,x⟩;rcases k with ⟨rfl,k⟩|⟨q,r,rfl,Y,k2⟩<;>rcases k' with ⟨rfl,k'⟩|⟨q',r',rfl,I,K⟩
  ·rfl
  ·exact cJ rfl (m3 n k n (B I K))
  ·exact cJ rfl (m3 n k' n (B Y k2))
  ·rw[(lx m2).1 q q' r r' n Y I k2 K]
 obtain⟨b,i,j⟩:=s;obtain⟨b',X,C⟩:=V;cases b<;>cases b'
 ·obtain⟨O,m,y,S⟩:=M h;obtain⟨O',d,f,z⟩:=M Q;have:=b1 i X _ _ n (mT (p:=0) m) (mT (p:=0) d) (by rw[bV];exact y) (by rw[bV];exact f);subst this;rw[m]at d;cases d;have:=b2 _ (aU (mT (p:=0) m));rw[bV]at this;rw[lR this S z]
 ·obtain⟨O,m,y,S⟩:=M h;obtain⟨R,d,f,_⟩:=N Q;exact cJ rfl (n3 n (bM.2 ⟨R,aU d,f⟩) n (bM.2 ⟨_,aU (mT (p:=0) m),by rw[bV];exact y⟩))
 ·obtain⟨R,m,y,_⟩:=N h;obtain⟨O,d,f,_⟩:=M Q;exact cJ rfl (n3 n (bM.2 ⟨R,aU m,y⟩) n (bM.2 ⟨_,aU (mT (p:=0) d),by rw[bV];exact f⟩))
 ·obtain⟨R,m,y,S⟩:=N h;obtain⟨R',d,f,z⟩:=N Q;have:=a1 i X _ _ n m d y f;subst this;rw[m]at d;cases d;have:=a2 _ (aU m);rw[lR this S z]
end Go.FG
namespace Go.FG
def KP(c:gn)(RL:aE mg)(OL:aE nh)(m:aN):aA (Pl×(aN->aN->Pl)):=
 if m<900000000 then aj
 else if 500<=(m-900000000)/1000 then(match RL[(m-900000000)/1000-500]? with
  |none=>aj
  |some R=>if(m-900000000)%1000=900 then R.box.map (λn=>(c.P n,c.G n))else(R.cs[(m-900000000)%1000]?).map λr=>(r.p,r.g))
 else if 100<=(m-900000000)%1000/\(m-900000000)%1000≠900 then(match OL[(m-900000000)/1000]? with
  |none=>aj
  |some O=>(O.cs[(m-900000000)%1000-100]?).map λr=>(r.p,r.g))
 else aj
def mN(σ:St)(c:gn)(RL:aE mg)(OL:aE nh):gn:=
 ⟨λm=>match KP c RL OL m with|some pg=>pg.1|none=>c.P m,λm=>match KP c RL OL m with|some pg=>pg.2|none=>c.G m,K1r σ c (RL.flatMap (·.fz)++OL.flatMap (·.ms))⟩
theorem z7(h:KP c RL OL m=ai (p,g)):(mN σ c RL OL).P m=p/\(mN σ c RL OL).G m=g:=by unfold mN;simp only[h];exact⟨trivial,trivial⟩
theorem z6(h:KP c RL OL m=aj):(mN σ c RL OL).P m=c.P m/\(mN σ c RL OL).G m=c.G m:=by unfold mN;simp only[h];exact⟨trivial,trivial⟩
section
variable {c:gn} {RL:aE mg} {OL:aE nh}
theorem PW(h:RL[q]? =ai R)(i:R.box=ai n):KP c RL OL (dF (500+q) 900)=ai (c.P n,c.G n):=by obtain⟨d,f⟩:=tH (p:=500+q) (j:=900) (by omega);have h0:=BA (500+q) 900;unfold KP;rw[bh (by omega),d,f,bm (by omega),show 500+q-500=q by omega,h];simp[i]
theorem EX(h:RL[q]? =ai R)(i:R.cs[j]? =ai r)(hl:j<900):KP c RL OL (dF (500+q) j)=ai (r.p,r.g):=by obtain⟨d,f⟩:=tH (p:=500+q) (j:=j) (by omega);have h0:=BA (500+q) j;unfold KP;rw[bh (by omega),d,f,bm (by omega),show 500+q-500=q by omega,h];dsimp only;rw[bh (by omega),i];rfl
theorem zY(hp:p<500)(hl:j<100\/j=900):KP c RL OL (dF p j)=none:=by obtain⟨d,f⟩:=tH (p:=p) (j:=j) (by omega);have h0:=BA p j;unfold KP;rw[bh (by omega),d,f,bh (by omega),bh (by omega)]
theorem KQ(hp:p<500)(h:OL[p]? =ai O)(i:O.cs[j]? =ai r)(hl:j<=100):KP c RL OL (dF p (100+j))=ai (r.p,r.g):=by obtain⟨d,f⟩:=tH (p:=p) (j:=100+j) (by omega);have h0:=BA p (100+j);unfold KP;rw[bh (by omega),d,f,bh (by omega),bm (by omega),h];dsimp only;rw[show 100+j-100=j by omega,i];rfl
end
end Go.FG
namespace Go.FG
def afh(OL:aE nh)(s:Sp):aN:=
 match s.res,s.j with
 |true,aj=>dF (500+s.i) 900
 |true,ai j=>dF (500+s.i) j
 |false,aj=>dF s.i 900
 |false,ai j=>match OL[s.i]? with|some O=>(match O.cs[j]? with|some r=>(match r.aa with|.kp _=>dF s.i j|_=>dF s.i (100+j))|none=>0)|none=>0
section
variable {P:de} {E:fW} {σ:St} {a:Act} {w:cB} {c:gn} {RL:aE mg} {OL:aE nh}
theorem z_(h:jC E σ w c r)(s:∀n∈r.fz,n∈RL.flatMap (·.fz)++OL.flatMap (·.ms))(z:KP c RL OL x=ai (r.p,r.g)):ed E w (mN σ c RL OL) (kO x r.aa) r.u:=by
 rcases h with ⟨e,ex,A,te,d,i,j,f,_⟩|⟨d,i,j,f,k⟩
 ·rw[d];show r.u=j5 ((mN σ c RL OL).P x);rw[(z7 z).1];exact f
 ·exact k _ (λb m=>m.imp id (λ⟨n,y,t⟩=>⟨n,s n y,t⟩)) x
theorem GQ(h:jC E σ w c r)(C:r.aa=.ow e ex I)(U:KP c RL OL x=ai (r.p,r.g)):
  ph E w (mN σ c RL OL) x (.row e ex I)/\∀b,fu (mN σ c RL OL) x (.row e ex I) b->∃n ob,n∈r.tk/\σ (c6 n)=.o ob/\fu c n ob b:=by
 obtain⟨k,m⟩:=z7 (σ:=σ) U;rcases h with ⟨Y,K,X,te,B,h2,t,h4,M,N,O,Q,R,s⟩|⟨_,_,t,_⟩
 ·rw[C]at B;cases B;refine⟨⟨⟨te,t,by rw[k];exact M,N⟩,?_,λd=>by rw[k,m];exact Q d⟩,λb z=> ?_⟩
  ·rw[k,m];refine O.frame (λ_=>rfl) (λi j y xx u hy V A=> ?_);split at A
   ·rename_i d;rw[bm d];exact A
   ·rename_i d;rw[bh d];exact A.frame (λ_ _=>rfl) (λb z=>.inl z)
  ·rcases z with ⟨f,rfl⟩|⟨d,i,j,S,f,rfl⟩
   ·rw[k]at f⊢;exact R f
   ·rw[m]at f⊢;exact s d i j S f
 ·exact cJ C (t _ _ _)
structure CY (T:Tab) (σ:St) (w:cB) (c:gn) (RL:aE mg) (OL:aE nh) (args:aE gg) (r:iQ):Prop where
 rl:∀R∈RL,AR T σ w c R
 ol:∀(i:aN) (O:nh) (x:gg),OL[i]? =ai O->args[i]? =ai x->Gy T σ w c i x O
 len:OL.length=args.length
 nd:(RL.flatMap (·.tk)++(OL.zipIdx 0).flatMap (λt=>t.1.ns t.2)).Nodup
 ap:∀n∈RL.flatMap (·.tk)++(OL.zipIdx 0).flatMap (λt=>t.1.ns t.2),n∉RL.flatMap (·.fz)++OL.flatMap (·.ms)
 sm:Small args r
 rs:r.rs=RL.map (·.arg)
 outs:∀p,r.outs.getD p []=(OL.map (·.l)).getD p []
theorem PS{R:mg}{xs:aE AA}(h:J9 R.arg xs):xs=R.cs.map (·.aa):=by
 unfold mg.arg at h;split at h
 ·rcases h with ⟨g,h⟩|h<;>cases h;rfl
 ·rcases h with ⟨g,h⟩|h<;>cases h;rfl
theorem v_(hv:Ok E σ w c){args:aE gg}{r:iQ}(hE:CY E σ w c RL OL args r){x:aN}{ob:Obj}(h:AE args r x (.o ob)):
  ph E w (mN σ c RL OL) x ob/\∃s,x=afh OL s/\∀b,fu (mN σ c RL OL) x ob b->∃n o,n∈oW RL OL s/\σ (c6 n)=.o o/\fu c n o b:=by
 have ha:∀{q:aN} {y:gg},r.rs[q]? =ai y->∃R,RL[q]? =ai R/\y=R.arg:=by
  intro q y hq;rw[hE.rs,bI]at hq;cases C:RL[q]? with
  |none=>rw[C]at hq;cases hq
  |some R=>rw[C]at hq;cases hq;exact⟨R,rfl,rfl⟩
 have ho:∀{q:aN} {R:mg} {j:aN} {t:j7},RL[q]? =ai R->R.cs[j]? =ai t->∀n∈t.fz,n∈RL.flatMap (·.fz)++OL.flatMap (·.ms):=λC k n hn=>bY _ (bM.2 ⟨_,aU C,bM.2 ⟨_,aU k,hn⟩⟩);have hf:∀{q:aN} {O:nh} {j:aN} {t:j7},OL[q]? =ai O->O.cs[j]? =ai t->∀n∈t.fz,n∈RL.flatMap (·.fz)++OL.flatMap (·.ms):=λC k n hn=>bS _ (bM.2 ⟨_,aU C,bM.2 ⟨_,aU k,hn⟩⟩);have h8:∀{p:aN} {y:gg},args[p]? =ai y->∃O,OL[p]? =ai O/\Gy E σ w c p y O/\r.outs.getD p []=O.cs.map (·.aa):=by
  intro p y hp;have hw:p<OL.length:=by rw[hE.len];exact(aW.1 hp).1
  have K:OL[p]? =ai OL[p]:=by simp[hw]
  refine⟨OL[p],K,hE.ol p _ y K hp,?_⟩
  rw[hE.outs,dK,bI,K];rfl
 have U:∀{cs:aE j7} {j:aN} {y:AA},(cs.map (·.aa))[j]? =ai y->∃t,cs[j]? =ai t/\t.aa=y:=by
  intro cs j y k;rw[bI]at k;cases d:cs[j]? with
  |none=>rw[d]at k;cases k
  |some t=>rw[d]at k;cases k;exact⟨t,rfl,rfl⟩
 have hu:∀p j,dF p 0+j=dF p j:=λp j=>by unfold dF;omega
 cases h with
 |rb q xs h0=>
  obtain⟨R,C,hy⟩:=ha h0;rcases hE.rl R (aU C)with ⟨nm,zs,A,B,V,h3,h4,h5,h6⟩|⟨B,_⟩
  ·have N:=PS (R:=R) (xs:=xs) (.inr hy.symm);obtain⟨e1,e2⟩:=z7 (σ:=σ) (PW (c:=c) (OL:=OL) C B);refine⟨⟨A,by rw[e1];exact h4,by rw[iw,N,bJ];exact h5,λj y k=> ?_⟩,⟨ao,q,aj⟩,rfl,λb S=>⟨nm,_,?_,V,?_⟩⟩
   ·rw[hN,N]at k;cases m:(R.cs.map (·.aa))[j]? with
    |none=>rw[m]at k;cases k
    |some z=>
     rw[m]at k;cases k;obtain⟨t,d,rfl⟩:=U m;obtain⟨k1,k2⟩:=h6 j t d;have M:j<900:=by have:=hE.sm.rl q _ xs h0 (.inr rfl);have h7:=(aW.1 d).1;rw[N,bJ]at this;omega
     rw[hu];exact⟨t.u,k1,z_ k2 (ho C d) (EX C d M)⟩
   ·show nm∈(match RL[q]? with|some R=>R.box.toList|none=>[]);rw[C];dsimp only;rw[B];exact a_.2 rfl
   ·rw[show b=_ from S,e1];rfl
  ·unfold mg.arg at hy;rw[B]at hy;cases hy
 |rr q y xs j e ex ys h0 m k=>
  obtain⟨R,C,rfl⟩:=ha h0;have N:=PS m;rw[N]at k;obtain⟨t,d,f⟩:=U k;have M:j<900:=by have:=hE.sm.rl q _ xs h0 m;have h7:=(aW.1 d).1;rw[N,bJ]at this;omega
  have hc:jC E σ w c t:=by
   rcases hE.rl R (aU C)with ⟨nm,zs,A,_,_,_,_,_,h6⟩|⟨_,⟨_,t',B,_,V⟩|⟨_,A,_,_,h6⟩⟩
   ·exact(h6 j t d).2
   ·rw[B]at d;cases j with
    |zero=>cases d;exact V
    |succ j=>simp at d
   ·exact(h6 j t d).2
  obtain⟨k1,k2⟩:=GQ (RL:=RL) (OL:=OL) hc f (EX C d M);refine⟨k1,⟨ao,q,ai j⟩,rfl,λb S=> ?_⟩
  obtain⟨n,o,B,V⟩:=k2 b S;refine⟨n,o,?_,V⟩
  show n∈(match RL[q]? with|some R=>(match R.cs[j]? with|some r=>r.tk|none=>[])|none=>[]);rw[C];dsimp only;rw[d];exact B
 |ob p xs h0=>
  obtain⟨O,K,X,hl⟩:=h8 h0;have hp:=hE.sm.a p _ xs h0 (.inr rfl);rcases X with ⟨_,B,_⟩|⟨B,Q,vs,A,I,V,h3,h4,h5⟩
  ·exact cJ rfl (B xs)
  ·cases I;obtain⟨e1,e2⟩:=z6 (σ:=σ) (zY (c:=c) (RL:=RL) (OL:=OL) hp (.inr rfl));have h9:O.cs.length<=100:=by have:=hE.sm.o p;rw[hl,bJ]at this;exact this
   rw[hl];refine⟨⟨A,by rw[e1];exact h3,by rw[uG,bJ];exact h4,λj y k=> ?_⟩,⟨aq,p,aj⟩,rfl,λb S=>⟨dF p 900,_,?_,V,?_⟩⟩
   ·rw[vh,bV]at k;cases m:(O.cs.map (·.aa))[j]? with
    |none=>rw[m]at k;cases k
    |some z=>
     rw[m]at k;cases k;obtain⟨t,d,rfl⟩:=U m;obtain⟨k1,k2⟩:=h5 j t d;have M:=(aW.1 d).1;refine⟨t.u,k1,?_⟩
     rcases k2 with ⟨⟨e,ex,z,ys,_,q2,_⟩,q6⟩|k2
     ·rw[q2];show t.u=j5 ((mN σ c RL OL).P (dF p j));rw[(z6 (zY hp (.inl (by omega)))).1];exact q6
     ·have hk:∀ys,t.aa≠ .kp ys:=by
       rcases k2 with ⟨_,_,_,_,q,_⟩|⟨_,_,_,q,_⟩
       ·intro ys hh;rw[q]at hh;cases hh
       ·exact q
      have:s4 p j t.aa=kO (dF p (100+j)) t.aa:=by cases hq:t.aa<;>first|rfl|exact cJ hq (hk _)
      rw[this];exact z_ k2 (hf K d) (KQ hp K d (by omega))
   ·show dF p 900∈(match OL[p]? with|some O=>(if O.box=ao then [dF p 900]else [])|none=>[]);rw[K];dsimp only;rw[bm B];exact a_.2 rfl
   ·rw[show b=_ from S,e1];rfl
 |kp p y xs j e ex z ys h0 m V h3=>
  obtain⟨O,K,X,hl⟩:=h8 h0;have hp:=hE.sm.a p _ xs h0 m;rw[hl]at h3;obtain⟨t,d,f⟩:=U h3;have h9:O.cs.length<=100:=by have:=hE.sm.o p;rw[hl,bJ]at this;exact this
  have M:=(aW.1 d).1;have he:Kept σ p j xs t:=by
   rcases X with ⟨_,_,B|⟨g,Q,I,B⟩⟩|⟨_,Q,vs,A,I,_,_,_,h5⟩
   ·rw[B]at d;simp at d
   ·have:Q=xs:=by rw[I]at m;rcases m with ⟨g',m⟩|m<;>cases m;rfl
    subst this;rcases B j t d with h|⟨h,_⟩
    ·exact h
    ·rw[f]at h;cases h
   ·have:Q=xs:=by rw[I]at m;rcases m with ⟨g',m⟩|m<;>cases m;rfl
    subst this;rcases(h5 j t d).2 with ⟨h,_⟩|h
    ·exact h
    ·rcases h with ⟨_,_,_,_,q,_⟩|⟨_,_,_,q,_⟩
     ·rw[f]at q;cases q
     ·exact cJ f (q _)
  obtain⟨e',hz,z',x1,q1,q2,q3,q4,q5⟩:=he;rw[V]at q1;cases q1;rw[f]at q2;cases q2;obtain⟨e1,e2⟩:=z6 (σ:=σ) (zY (c:=c) (RL:=RL) (OL:=OL) (p:=p) (j:=j) hp (.inl (by omega)));obtain⟨⟨te,r1,r2,r3⟩,r4,r5⟩:=hv.obj _ _ q5;refine⟨⟨⟨te,r1,by rw[e1];exact r2,r3⟩,?_,λY=>by rw[e1,e2];exact r5 Y⟩,⟨aq,p,ai j⟩,?_,λb S=>⟨dF p j,_,?_,q5,?_⟩⟩
  ·rw[e1,e2];refine r4.frame (λ_=>rfl) (λi j y xx u hy x0 hr=> ?_);split at hr
   ·rename_i Y;rw[bm Y];exact hr
   ·rename_i Y;rw[bh Y];exact hr.frame (λ_ _=>rfl) (λb S=>.inl S)
  ·show dF p j=(match OL[p]? with|some O=>(match O.cs[j]? with|some r=>(match r.aa with|.kp _=>dF p j|_=>dF p (100+j))|none=>0)|none=>0)
   rw[K];dsimp only;rw[d];dsimp only;rw[f]
  ·show dF p j∈(match OL[p]? with|some O=>(match O.cs[j]? with|some r=>r.tk|none=>[])|none=>[]);rw[K];dsimp only;rw[d];dsimp only;rw[q3];exact a_.2 rfl
  ·rw[lK (c:=c) (c':=mN σ c RL OL) ⟨e1,e2⟩]at S;exact S
 |nw p y xs j e ex ys h0 m h3=>
  obtain⟨O,K,X,hl⟩:=h8 h0;have hp:=hE.sm.a p _ xs h0 m;rw[hl]at h3;obtain⟨t,d,f⟩:=U h3;have h9:O.cs.length<=100:=by have:=hE.sm.o p;rw[hl,bJ]at this;exact this
  have M:=(aW.1 d).1;have hc:jC E σ w c t:=by
   rcases X with ⟨_,_,B|⟨g,Q,I,B⟩⟩|⟨_,Q,vs,A,I,_,_,_,h5⟩
   ·rw[B]at d;simp at d
   ·rcases B j t d with ⟨_,_,_,_,_,h,_⟩|⟨h,_⟩<;>(rw[f]at h;cases h)
   ·rcases(h5 j t d).2 with ⟨⟨_,_,_,_,_,h,_⟩,_⟩|h
    ·rw[f]at h;cases h
    ·exact h
  obtain⟨k1,k2⟩:=GQ (RL:=RL) (OL:=OL) hc f (KQ hp K d (by omega));refine⟨k1,⟨aq,p,ai j⟩,?_,λb S=> ?_⟩
  ·show dF p (100+j)=(match OL[p]? with|some O=>(match O.cs[j]? with|some r=>(match r.aa with|.kp _=>dF p j|_=>dF p (100+j))|none=>0)|none=>0)
   rw[K];dsimp only;rw[d];dsimp only;rw[f]
  ·obtain⟨n,o,B,V⟩:=k2 b S;refine⟨n,o,?_,V⟩
   show n∈(match OL[p]? with|some O=>(match O.cs[j]? with|some r=>r.tk|none=>[])|none=>[]);rw[K];dsimp only;rw[d];exact B
end
end Go.FG
namespace Go.FG
theorem va(h:AE args r m (.o o)):nu args r (c6 m)≠ .jw:=by
 refine rC (wb.2 h) ?_;rintro ⟨k,d⟩ hd;rcases bc.1 hd with hd|hd
 ·obtain⟨i,a,_,hd⟩:=Hl.1 hd;rcases gY.1 hd with ⟨_,_,_,h⟩|⟨_,_,_,_,_,_,_,_,h⟩<;>rw[h]<;>simp
 ·obtain⟨i,a,_,hd⟩:=Hk.1 hd;rcases qk.1 hd with ⟨_,_,_,h⟩|⟨_,_,⟨_,_,_,_,_,_,_,_,h⟩|⟨_,_,_,_,_,_,h⟩⟩<;>rw[h]<;>simp
section
variable {P:de} {E:fW} {σ:St} {a:Act} {w:cB} {c c0:gn} {RL:aE mg} {OL:aE nh}
theorem RA(h:n∈oW RL OL s):n∈RL.flatMap (·.tk)++(OL.zipIdx 0).flatMap (λt=>t.1.ns t.2):=by
 obtain⟨b,i,j⟩:=s;have k:∀{O:nh},OL[i]? =ai O->n∈O.ns i->n∈(OL.zipIdx 0).flatMap (λt=>t.1.ns t.2):=λd u=>bM.2 ⟨_,aU (mT (p:=0) d),by rw[bV];exact u⟩;have m:∀{R:mg},RL[i]? =ai R->n∈R.tk->n∈RL.flatMap (·.tk):=λx u=>bM.2 ⟨_,aU x,u⟩;cases b<;>cases j<;>unfold oW at h<;>dsimp only at h
 ·cases d:OL[i]? with
  |none=>rw[d]at h;cases h
  |some O=>rw[d]at h;exact bS _ (k d (bY _ h))
 ·rename_i j;cases d:OL[i]? with
  |none=>rw[d]at h;cases h
  |some O=>
   rw[d]at h;dsimp only at h;cases f:O.cs[j]? with
   |none=>rw[f]at h;cases h
   |some r=>rw[f]at h;exact bS _ (k d (bS _ (bM.2 ⟨r,aU f,h⟩)))
 ·cases d:RL[i]? with
  |none=>rw[d]at h;cases h
  |some O=>rw[d]at h;exact bY _ (m d (bY _ h))
 ·rename_i j;cases d:RL[i]? with
  |none=>rw[d]at h;cases h
  |some O=>
   rw[d]at h;dsimp only at h;cases f:O.cs[j]? with
   |none=>rw[f]at h;cases h
   |some r=>rw[f]at h;exact bY _ (m d (bS _ (bM.2 ⟨r,aU f,h⟩)))
theorem RN(hE:CY E σ w c RL OL args r)(k:RL[q]? =ai R):pO E w (mN σ c RL OL) (EW (500+q) R.arg).1 (EW (500+q) R.arg).2 R.v:=by
 have s:∀{j:aN} {t:j7},R.cs[j]? =ai t->j<900:=by
  intro j t d;have h0:r.rs[q]? =ai R.arg:=by rw[hE.rs,bI,k];rfl
  have K:J9 R.arg (R.cs.map (·.aa)):=by
   unfold mg.arg;split
   ·exact .inr rfl
   ·exact .inl ⟨_,rfl⟩
  have:=hE.sm.rl q _ _ h0 K;have Q:=(aW.1 d).1;rw[bJ]at this;omega
 have C:∀{j:aN} {t:j7},R.cs[j]? =ai t->∀n∈t.fz,n∈RL.flatMap (·.fz)++OL.flatMap (·.ms):=λh n I=>bY _ (bM.2 ⟨_,aU k,bM.2 ⟨_,aU h,I⟩⟩);have B:∀p j,dF p 0+j=dF p j:=λp j=>by unfold dF;omega
 rcases hE.rl R (aU k)with ⟨nm,zs,f,m,x,i,z,A,O⟩|⟨m,⟨x,t,i,z,A⟩|⟨x,f,i,z,A⟩⟩
 ·have:R.arg=.pt (R.cs.map (·.aa)):=by unfold mg.arg;rw[m]
  rw[this];show R.v=.pointer (ai (ad ((mN σ c RL OL).P (dF (500+q) 900)).blk 0));rw[(z7 (PW k m)).1];exact i
 ·have:R.arg=.v aq [t.aa]:=by unfold mg.arg;rw[m,x,i];rfl
  rw[this,<-z];have d:R.cs[0]? =ai t:=by rw[i];rfl
  have:=z_ (OL:=OL) A (C d) (EX k d (by omega));exact this
 ·have:R.arg=.v ao (R.cs.map (·.aa)):=by unfold mg.arg;rw[m,x]
  rw[this];refine⟨f,i,by show f.size=(gf _ _).length;rw[iw,bJ];exact z,λj y h=> ?_⟩
  replace h:(gf (dF (500+q) 0) (R.cs.map (·.aa)))[j]? =ai y:=h;rw[hN,bI]at h;cases d:R.cs[j]? with
  |none=>rw[d]at h;cases h
  |some t=>
   rw[d]at h;cases h;obtain⟨M,N⟩:=A j t d;refine⟨t.u,M,?_⟩
   rw[B];exact z_ N (C d) (EX k d (s d))
theorem Bg(h0:r.rs[q]? =ai y)(k:J9 y xs)(i:v∈gf (dF (500+q) 0) xs):iU (nu args r) v:=by
 intro m hm;obtain⟨j,d⟩:=bX i;rw[hN]at d;cases f:xs[j]? with
 |none=>rw[f]at d;cases d
 |some z=>
  rw[f]at d;cases d;obtain⟨rfl,e,ex,s,rfl⟩:=sU hm;have h:dF (500+q) 0+j=dF (500+q) j:=by unfold dF;omega
  rw[h];exact va (.rr q y xs j e ex s h0 k f)
theorem Uj(d:Ok E σ w c)(hE:CY E σ w c RL OL args r):Ok E (nu args r) w (mN σ c RL OL) where
 obj nm o h:=(v_ d hE (qf h)).1
 gp:=E.gp.fr d.gp (λ_ _=>rfl) (λb A=>.inl A)
 sep nm o h6 o' b h h' O Q:=by
  obtain⟨s,e1,V⟩:=(v_ d hE (qf h)).2;obtain⟨s',M,X⟩:=(v_ d hE (qf h')).2;obtain⟨n,ob,k,y,C⟩:=V b O;obtain⟨Y,ob',N,u,x⟩:=X b Q;have:=d.sep n ob Y ob' b y u C x;subst this;rw[e1,M,WA hE.nd k N]
 kk nm o b h O hk:=by
  obtain⟨s,e1,V⟩:=(v_ d hE (qf h)).2;obtain⟨n,ob,k,y,C⟩:=V b O;rcases hk with hk|⟨Y,R,ob',u,x⟩
  ·exact d.kk n ob b y C hk
  ·have:=d.sep n ob Y ob' b y u C x;subst this;exact hE.ap n (RA k) R
 lt b A:=by
  rcases A with A|⟨n,hn,ob,k,y⟩
  ·exact d.lt b A
  ·exact Own.lt d ⟨n,ob,k,y⟩
 kn nm xs h v hv:=by
  have hx:=qf h;cases hx with
  |rb q xs h0=>exact Bg h0 (.inr rfl) hv
  |ob p xs h0=>
   intro m hm;obtain⟨j,B⟩:=bX hv;rw[vh,bV]at B;cases i:(r.outs.getD p [])[j]? with
   |none=>rw[i]at B;cases B
   |some z=>
    rw[i]at B;cases B;cases z with
    |kp K=>
     have hm:m=dF p j:=by simpa [s4,bL]using hm
     subst hm;have S:p<OL.length:=by rw[hE.len];exact(aW.1 h0).1
     have hO:OL[p]? =ai OL[p]:=by simp[S]
     have hl:r.outs.getD p []=OL[p].cs.map (·.aa):=by rw[hE.outs,dK,bI,hO];rfl
     rw[hl,bI]at i;cases I:OL[p].cs[j]? with
     |none=>rw[I]at i;cases i
     |some t=>
      rw[I]at i;have f:t.aa=.kp K:=by injection i
      rcases hE.ol p _ _ hO h0 with ⟨_,k,_⟩|⟨_,h7,vs,h4,U,_,_,_,h5⟩
      ·exact cJ rfl (k xs)
      ·cases U;rcases(h5 j t I).2 with ⟨⟨e,ex,z,h8,q1,q2,_⟩,_⟩|h
       ·rw[f]at q2;cases q2;exact va (.kp p _ xs j e ex z K h0 (.inr rfl) q1 (by rw[hl,bI,I];exact ic ai f))
       ·rcases h with ⟨_,_,_,_,q,_⟩|⟨_,_,_,q,_⟩
        ·rw[f]at q;cases q
        ·exact cJ f (q _)
    |ow e ex K=>
     have hm:m=dF p (100+j):=by simpa [s4,kO,bL]using hm
     subst hm;exact va (.nw p _ xs j e ex K h0 (.inr rfl) i)
    |_=>simp[s4,kO,bL]at hm
theorem MI(i:Ok E σ w c)(hE:CY E σ w c RL OL args r):Grow σ c w (nu args r) (mN σ c RL OL) w where
 os:=rfl
 tape:=rfl
 output:=rfl
 size:=bT _
 K b d:=.inl d
 same _ _ _:=rfl
 own b d:=by
  obtain⟨nm,o,h,m⟩:=d;obtain⟨s,u,t⟩:=(v_ i hE (qf h)).2;obtain⟨n,ob,j,f,k⟩:=t b m;exact .inl ⟨n,ob,f,k⟩
 kn b d:=by
  rcases d with d|⟨n,x,ob,j,f⟩
  ·exact .inl d
  ·exact .inr (.inl ⟨n,ob,j,f⟩)
theorem MJ(hs:Small args r)(y:∀a∈args,mM a<=100)(u:S0 c0 c):∀m,inj args (c6 m)≠ .jw->(mN σ c RL OL).P m=c0.P m/\(mN σ c RL OL).G m=c0.G m:=by
 intro m hm;have:∃ob,inj args (c6 m)=.o ob:=by
  cases h:inj args (c6 m)with
  |o ob=>exact⟨ob,rfl⟩
  |jw=>exact cJ h hm
  |v x=>
   obtain⟨p,a,h0,h⟩:=lu.1 (nz h (by simp));rcases h with ⟨h,_⟩|h
   ·exact cJ h (lM _ _)
   ·rcases gY.1 h with ⟨_,_,_,h⟩|⟨_,_,_,_,_,_,_,_,h⟩<;>cases h
 obtain⟨ob,h⟩:=this;obtain⟨p,a,h0,z⟩:=Ai h;have go:∀j,j<100\/j=900->p<500->(mN σ c RL OL).P (dF p j)=c0.P (dF p j)/\(mN σ c RL OL).G (dF p j)=c0.G (dF p j):=by intro j d hp;obtain⟨i,k⟩:=z6 (σ:=σ) (zY (c:=c) (RL:=RL) (OL:=OL) hp d);obtain⟨s,t⟩:=u (dF p j) (BA p j);exact⟨i.trans s,k.trans t⟩
 rcases z with ⟨xs,rfl,rfl,_⟩|⟨xs,j,e,ex,I,f,d,rfl,_⟩
 ·exact go 900 (.inr rfl) (hs.a p _ xs h0 (.inr rfl))
 ·refine go j (.inl ?_) (hs.a p _ xs h0 f);have A:=y a (aU h0);have B:mM a=xs.length:=by rcases f with ⟨g,rfl⟩|rfl<;>rfl
  have C:=(aW.1 d).1;omega
theorem P'(hE:CY E σ w c RL OL args r):iM E w (mN σ c RL OL) (RM r.rs) (BS (RL.map (·.v))):=by
 have jS:∀l:aE (aY×aE AV),l=kP 500 r.rs->iM E w (mN σ c RL OL) (.jS l) (.tuple (RL.map (·.v)).toArray):=by
  rintro l rfl;refine⟨_,rfl,by rw[wu,hE.rs];simp,λj g xs k=> ?_⟩
  rw[DJ,hE.rs,bI]at k;cases f:RL[j]? with
  |none=>rw[f]at k;cases k
  |some R=>
   rw[f]at k;have k:EW (500+j) R.arg=(g,xs):=by injection k
   have:=RN hE f;rw[k]at this;exact⟨R.v,by simp[f],this⟩
 have one:∀x R,kP 500 r.rs=[x]->RL=[R]->iM E w (mN σ c RL OL) (rO [x]) R.v:=by
  intro x R A u;have h0:RL[0]? =ai R:=by rw[u];rfl
  have z:=RN hE h0;have s:(kP 500 r.rs)[0]? =ai (EW (500+0) R.arg):=by rw[DJ,hE.rs,bI,h0];rfl
  rw[A]at s;have s:x=EW (500+0) R.arg:=by injection s
  subst s;exact z
 have d:(kP 500 r.rs).length=RL.length:=by rw[wu,hE.rs];simp
 have t:∀L,L=kP 500 r.rs->L.length=RL.length->iM E w (mN σ c RL OL) (rO L) (BS (RL.map (·.v))):=by
  intro L t d;have jS:=jS L t;generalize h:RL.map (·.v)=V at jS⊢;have i:L.length=V.length:=by rw[d,<-h];simp
  cases L with
  |nil=>
   cases V with
   |nil=>exact jS
   |cons v V=>simp at i
  |cons x L=>
   cases V with
   |nil=>simp at i
   |cons v V=>
    cases L with
    |cons y L=>
     cases V with
     |nil=>simp at i
     |cons B V=>exact jS
    |nil=>
     cases V with
     |cons B V=>simp at i
     |nil=>
      cases f:RL with
      |nil=>rw[f]at h;cases h
      |cons R m=>
       cases m with
       |nil=>
        have:=one x R t.symm f;rw[f]at h this;have h:R.v=v:=by injection h
        rw[<-h];exact this
       |cons R' m=>rw[f]at h;simp at h
 exact t _ rfl d
end
end Go.FG
namespace Go.FG
theorem Dc(h:(bif b then ai x else aj)=ai r):b=ao/\x=r:=by
 cases b with
 |true=>exact⟨rfl,by injection h⟩
 |false=>cases h
section
variable {P:de} {E:fW} {σ:St} {a:Act} {w:cB} {c:gn}
theorem aa'(hE:dY P E)(d:Ok E σ w c)(j:e6 E σ a w c)(h:fin E F args e σ=ai r):
  (e=.normal\/e=.ret)/\(∀x∈args,mM x<=100)/\∃RL OL,CY E σ w c RL OL args r/\(results F a.tmps).run P w=.ok (BS (RL.map (·.v))) w:=by
 have t:e=.normal\/e=.ret:=by
  cases e with
  |normal=>exact .inl rfl
  |ret=>exact .inr rfl
  |exit id=>cases h
 have h:(match BR E σ 500 F.results.toList F.resultTypes.toList with
  |some (rs,tk,fz)=>match BL E σ (tk++fz) 0 args with
   |some (outs,ns,ms)=>bif sV (tk++ns)&&qT (tk++ns) (fz++ms)&&eS args.length 500&&(args.all λa=>eS (mM a) 100)&&(rs.all λa=>eS (mM a) 100)&&(outs.all λa=>eS a.length 100)then ai (iQ.mk rs (tD outs))else aj
   |none=>aj
  |none=>aj)=ai r:=by
  rcases t with rfl|rfl<;>exact h
 split at h
 ·rename_i rs tk fz k;split at h
  ·rename_i outs ns ms m;obtain⟨RL,rfl,rfl,rfl,r4,r5,r6⟩:=Nv hE d j k;obtain⟨OL,rfl,I,rfl,rfl,K⟩:=Nl d m;obtain⟨s,rfl⟩:=Dc h;simp only[aM,bz]at s;obtain⟨⟨⟨⟨⟨u,y⟩,z⟩,A⟩,B⟩,C⟩:=s;refine⟨t,λx f=>cM (A x f),RL,OL,⟨r4,λi O x hi f=>by have:=K i O x hi f;rwa[bV]at this,I,ql u,oi y,⟨?_,?_,?_⟩,rfl,λp=>yZ⟩,HF r6⟩
   ·intro p x xs hp _;have:=(aW.1 hp).1;have:=cM z;omega
   ·intro q x xs hq f;have k:=cM (B x (aU hq));have m:mM x=xs.length:=by rcases f with ⟨g,rfl⟩|rfl<;>rfl
    omega
   ·intro p;show((tD (OL.map (·.l))).getD p []).length<=100;rw[yZ,dK];cases hp:(OL.map (·.l))[p]? with
    |none=>simp
    |some l=>exact cM (C l (aU hp))
  ·cases h
 ·cases h
end
inductive Fit:CV->Prop
 |i (k n):Fit (.i k n)
 |b (x):Fit (.b x)
 |s (x) (h:Co x):Fit (.s x)
 |l (e xs) (h:xs.length<=9223372036854775807) (hc:∀y∈xs,∀x∈y,Fit x):Fit (.l e xs)
def AO(xs:Row):Prop:=xs.length<=9223372036854775807/\∀y∈xs,∀x∈y,Fit x
def aeK:AA->Prop
 |.s x=>Co x|.sh _ xs=>AO xs|.ow _ _ xs=>AO xs|_=>True
def Fc:aE AA->Prop
 |[]=>True|a::r=>aeK a/\Fc r
def aeL:CV->Prop
 |.s x=>Co x|.l _ xs=>AO xs|_=>True
def Qf:aE CV->Prop
 |[]=>True|a::r=>aeL a/\Qf r
def Qe:gg->Prop
 |.v _ xs=>Fc xs|.pt xs=>Fc xs|.fb xs=>Qf xs
def wh:aE gg->Prop
 |[]=>True|a::r=>Qe a/\wh r
theorem Fit.afm(hl:tE x=aq)(h:Sc u x):Fit x:=by
 cases x with
 |i k n=>exact .i k n
 |b x=>exact .b x
 |s x=>exact .s x h.2
 |l=>simp[tE]at hl
theorem Holds.fit(h:Holds E w K v x):Fit x:=by
 induction h with
 |i k n=>exact .i k n
 |b x=>exact .b x
 |s x h=>exact .s x h
 |nl e A c=>exact .l e [] (bA _) (λy f=>by cases f)
 |l e xs b o c ti U B m hm z hs d r ih=>refine .l e xs (cf m hm) (λy f x u=> ?_);obtain⟨i,hi⟩:=bX f;obtain⟨j,t⟩:=bX u;exact ih i j y x hi t
theorem Fit.row(h:Fit (.l e xs)):AO xs:=by cases h with|l _ _ h d=>exact⟨h,d⟩
theorem Fit.toC(h:Fit x):aeL x:=by
 cases x with
 |s x=>cases h with|s _ h=>exact h
 |l e xs=>exact h.row
 |_=>trivial
theorem zi(h:iO w p xs R)(hi:xs[i]? =ai y)(m:y[j]? =ai x):∃u:bP,R i j u x:=by
 cases d:p.nil with
 |true=>rw[(h.nil d).1]at hi;simp at hi
 |false=>obtain⟨f,_,_,_,_,k⟩:=h.mem d;obtain⟨u,_,r⟩:=k i y j x hi m;exact⟨u,r⟩
theorem Kn.fit(h:Kn E w c nm e ex xs):AO xs:=by
 refine⟨tM h.at_,λy K x I=> ?_⟩
 obtain⟨i,hi⟩:=bX K;obtain⟨j,C⟩:=bX I;obtain⟨u,r⟩:=zi h.at_ hi C;split at r
 ·cases x with
  |i k n=>exact .i k n
  |b x=>exact .b x
  |s x=>exact .s x (show Sc u (.s x)from r).2
  |l B N=>obtain⟨_,ti,_,hp,_,jG,d⟩:=r;refine .l B N (tM d) (λM m S A=> ?_);obtain⟨O,t⟩:=bX m;obtain⟨Q,f⟩:=bX A;obtain⟨R,z⟩:=zi d t f;exact Fit.afm (gF hp (jG M m) f) z
 ·exact Holds.fit r
theorem Dn(d:∀(j e:aN) (ex:aY) (f:Row),xs[j]? =ai (AA.ow e ex f)->AO f)(h:∀(j:aN) (x:AA),xs[j]? =ai x->∃v,ed T w c (kO (nm+j) x) v):Fc xs:=by
 induction xs generalizing nm with
 |nil=>trivial
 |cons x xs ih=>
  refine⟨?_,ih (nm:=nm+1) (λj e ex f i=>d (j+1) e ex f i) (λj y i=> ?_)⟩
  ·obtain⟨v,k⟩:=h 0 x rfl;cases x with
   |s x=>exact k.2
   |sh e f=>exact(Holds.fit k).row
   |ow e ex f=>exact d 0 e ex f rfl
   |_=>trivial
  ·have:=h (j+1) y i;rw[show nm+1+j=nm+(j+1)by omega];exact this
def yL(args:aE gg):aY:=eS args.length 500&&args.all λa=>eS (mM a) 100
theorem Ux(hs:yL args=ao)(h0:args[p]? =ai x)(m:(∃g,x=.v g xs)\/x=.pt xs)(k:xs[j]? =ai (AA.ow e ex u)):inj args (c6 (dF p j))=.o (.row e ex u):=by
 simp only[yL,aM,bz]at hs;have len:∀(x:gg) (xs:aE AA) (j:aN) (y:AA),x∈args->((∃g,x=.v g xs)\/x=.pt xs)->xs[j]? =ai y->j<100:=by
  intro x xs j y hm m k;have N:=cM (hs.2 x hm);have O:mM x=xs.length:=by rcases m with ⟨g,rfl⟩|rfl<;>rfl
  have Q:=(aW.1 k).1;omega
 have B:=len x xs j _ (aU h0) m k;refine yO (lu.2 ⟨p,x,h0,.inr (gY.2 (.inr ⟨xs,j,e,ex,u,m,k,by rw[bV],rfl⟩))⟩) (λc' s=> ?_);obtain⟨p',z,f,r⟩:=lu.1 s;rw[bV]at r;rcases r with ⟨h,_⟩|r
 ·exact cJ h (lM _ _)
 ·rcases gY.1 r with ⟨zs,_,h,_⟩|⟨zs,C,K,A,I,d,i,h,rfl⟩
  ·have:=tI (by omega) (by omega) (jI h);omega
  ·have t:=len z zs C _ (aU f) d i;obtain⟨rfl,rfl⟩:=tI (by omega) (by omega) (jI h);rw[h0]at f;cases f;have:xs=zs:=by rcases m with ⟨g,rfl⟩|rfl<;>rcases d with ⟨M,d⟩|d<;>cases d<;>rfl
   subst this;rw[k]at i;cases i;rfl
theorem IZ{T:Tab}{w:cB}{c:gn}:∀{cs:aE CV},(∀(q:aN) (x:CV),cs[q]? =ai x->Fit x)->Qf cs:=by
 intro cs;induction cs with
 |nil=>intro _;trivial
 |cons x cs ih=>intro h;exact⟨(h 0 x rfl).toC,ih (λq y hq=>h (q+1) y hq)⟩
theorem Qg(hs:yL args=ao)(k:Ok T (inj args) w c)(h:∀(p:aN) (x:gg),args[p]? =ai x->∃v,iM T w c (rL p x) v):wh args:=by
 have one:∀(p:aN) (x:gg),args[p]? =ai x->Qe x:=by
  intro p x h0;have rows:∀xs,((∃g,x=.v g xs)\/x=.pt xs)->∀(j e:aN) (ex:aY) (I:Row),xs[j]? =ai (AA.ow e ex I)->AO I:=λxs B j e ex I r=>Kn.fit (k.obj _ _ (Ux hs h0 B r));obtain⟨v,f⟩:=h p x h0;cases x with
  |v g xs=>
   refine Dn (T:=T) (w:=w) (c:=c) (nm:=dF p 0) (rows xs (.inl ⟨g,rfl⟩)) (λj y r=> ?_);replace f:pO T w c g (gf (dF p 0) xs) v:=f;have d:(gf (dF p 0) xs)[j]? =ai (kO (dF p 0+j) y):=by rw[hN,r];rfl
   unfold pO at f;split at f
   ·rename_i a U;rw[U]at d;cases j with
    |zero=>cases d;exact⟨v,f⟩
    |succ j=>simp at d
   ·obtain⟨t,_,_,f⟩:=f;obtain⟨u,_,s⟩:=f j _ d;exact⟨u,s⟩
   ·exact f.elim
  |pt xs=>
   have m:inj args (c6 (dF p 900))=.o (.box (gf (dF p 0) xs)):=by
    refine yO (lu.2 ⟨p,_,h0,.inr (gY.2 (.inl ⟨xs,rfl,by rw[bV],by rw[bV]⟩))⟩) (λc' A=> ?_);obtain⟨p',M,i,z⟩:=lu.1 A;rw[bV]at z;rcases z with ⟨h,_⟩|z
    ·exact cJ h (lM _ _)
    ·rcases gY.1 z with ⟨zs,B,h,rfl⟩|⟨zs,j',Y,R,X,C,d,h,rfl⟩
     ·obtain⟨rfl,_⟩:=tI (by omega) (by omega) (jI h);rw[h0]at i;cases i;cases B;rfl
     ·exfalso;simp only[yL,aM,bz]at hs;have N:=cM (hs.2 M (aU i));have O:mM M=zs.length:=by rcases C with ⟨g,rfl⟩|rfl<;>rfl
      have Q:=(aW.1 d).1;have:=tI (by omega) (by omega) (jI h);omega
   obtain⟨t,_,_,S⟩:=k.obj _ _ m;refine Dn (T:=T) (w:=w) (c:=c) (nm:=dF p 0) (rows xs (.inr rfl)) (λj y r=> ?_);obtain⟨u,_,s⟩:=S j (kO (dF p 0+j) y) (by rw[hN,r];rfl);exact⟨u,s⟩
  |fb xs=>
   obtain⟨b,_,_,V⟩:∃b,v=.pointer (ai (ad b 0))/\c.K b/\∀(q:aN) (x:CV),xs[q]? =ai x->∃u:bP,w.cell? (ad b q)=ai u/\Holds T w c.K u x:=by obtain⟨b,N,O,Q⟩:=f;exact⟨b,N,O,Q⟩
   exact IZ (T:=T) (w:=w) (c:=c) (λq x hq=>by obtain⟨u,_,s⟩:=V q x hq;exact s.fit)
 clear h k hs;induction args with
 |nil=>trivial
 |cons x args ih=>exact⟨one 0 x rfl,ih (λp y hp=>one (p+1) y hp)⟩
theorem aba{P:de}{E:fW}(hE:dY P E)(U:∀g,kT P E g (E.call g))(hm:P.follows .mixedOrders=ao){g:aN}{F:Func}{d:Code}(O:P.funcs[g]? =ai F)(M:F.body=ai d)
  (A:((F.name== "runtime.NumGoroutine")|| !sJ F.ntmps d)=aq) {j:aE gg->aA (aY×iQ)} (hs:∀args r,j args=ai (ao,r)->yL args=ao/\(wh args->args.length<=F.ntmps/\∃(R:Type) (it:It R) (K:Ex->St->aA R) (q:R),(∀c∈jH d,b6 E it c)/\sM E it d (inj args) K=ai q/\∀e σ,K e σ=ai q->fin E F args e σ=ai r)):kT P E g j:=by
 intro args r hr w z vs s h1 y;obtain⟨C,hs⟩:=hs args r hr;obtain⟨Q,R,it,K,q,B,k,m⟩:=hs (Qg C s (λp x hp=>(y p x hp).imp λ_ h=>h.2));simp only[h_,p6]at A;refine⟨⟨F,O,by rw[M];rfl,A.1⟩,?_⟩
 refine calls_of_wp O M ?_;refine aa5 (N:=F.ntmps) (σ0:=inj args) (c0:=z) (w0:=w) hE U hm d B (inj args) K _ k A.2 (λe σ' a' w' c' hk f=> ?_) _ w z ⟨s,⟨λn=> ?_,He,rfl⟩,?_,Grow.refl _ _ _,S0.refl _⟩
 ·obtain⟨X,V,RL,OL,i,u⟩:=aa' hE f.ok f.sl (m _ _ hk)
  have t:GA E args r z w (BS (RL.map (·.v))) w':=
   ⟨mN σ' c' RL OL,Uj f.ok i,f.gr.trans (MI f.ok i),MJ i.sm V f.ag,P' i⟩
  rcases X with rfl|rfl<;>exact⟨f.sl.df,_,u,t⟩
 ·rcases Hf (args:=args) (n:=n)with ⟨x,h0,h⟩|h
  ·rw[h];obtain⟨v,S,I⟩:=y n x h0;have:(Act.mk (vs++zJ (F.ntmps-vs.size) undef) []).eval (.tmp n)=v:=by show(vs++zJ (F.ntmps-vs.size) undef).getD n undef=v;have Y:=(dr.1 S).1;rw[eu,Array.getElem?_append,bm Y,S];rfl
   rw[this];exact I
  ·rw[h];trivial
 ·simp;omega
theorem MM(h:∀args,d args=aj):kT P T g d:=λargs r f=>by rw[h]at f;cases f
end Go.FG
namespace Go.FG
structure uC where
 t:aN
 ti:TI
 fs:aE (aN×aN)
def F9:aE uC->aN->aA TI
 |[],_=>aj
 |r::rs,t=>bif bK t r.t then ai r.ti else F9 rs t
def CK:aE uC->aN->aN->aA (aN×aN)
 |[],_,_=>aj
 |r::rs,t,f=>bif bK t r.t then(bif r.ti.agg then r.fs[f]? else aj)else CK rs t f
def SF(rows:aE uC)(eqs:aE aN):Tab:={ty:=F9 rows,fo:=CK rows,eqs:=eqs}
def zB:Ck->bP->aY
 |.i k,.int k' n=>ah (k'=k)&&ah (n=0)
 |.b,.bool x=> !x
 |.s,.string x=>ah (x.size=0)
 |.l _,.slice aj 0 0=>ao
 |.o,.nilIface=>ao
 |_,_=>aq
def zsB:aE Ck->aE bP->aY
 |[],[]=>ao
 |k::ks,v::vs=>zB k v&&zsB ks vs
 |_,_=>aq
def isAgg:bP->aY|.agg _=>ao|_=>aq
def we(P:de)(n:aN):aE Field->aE (aN×aN)->aY
 |[],[]=>ao
 |f::r,(o,m)::l=>bK f.offset o&&(match P.info? f.type with|some i=>bK i.size m|none=>aq)&&pK 0 m&&eS (o+m) n&&we P n r l
 |_,_=>aq
def rh:TypeDesc->aY|.struct _=>aq|.array _ _=>aq|_=>ao
def Wl(P:de)(r:uC):aY:=
 match P.info? r.t,P.underlying r.t with
 |some f,ai d=>bK f.size r.ti.ks.length&&bK f.bytes r.ti.bytes&&pK 0 r.ti.ks.length&&
  (bif Jk r.ti.ks then(match f.zero with|some z=>zsB r.ti.ks z.cells.toList&&(!r.ti.agg||isAgg z)|none=>aq)else ao)&&
  (match d with
  |.struct fs=>r.ti.agg&&we P r.ti.ks.length fs.toList r.fs
  |.int k=> !r.ti.agg&&pR r.ti.ks [.i k]
  |.bool=> !r.ti.agg&&pR r.ti.ks [.b]
  |.string=> !r.ti.agg&&pR r.ti.ks [.s]
  |.slice e=> !r.ti.agg&&pR r.ti.ks [.l e]
  |d=> !r.ti.agg&&pR r.ti.ks [.o]&&rh d)
 |_,_=>aq
theorem ahT(h:zB k v=ao):v=ie k:=by
 cases k<;>cases v<;>simp_all [zB,ie]
 ·rfl
 ·rename_i a n c;cases a<;>cases n<;>cases c<;>simp_all
theorem SZ:∀{ks:aE Ck} {vs:aE bP},zsB ks vs=ao->vs=ks.map ie
 |[],[],_=>rfl
 |k::ks,v::vs,h=>by
  simp only[zsB,aM]at h;rw[ahT h.1,SZ h.2];rfl
 |[],_::_,h=>by cases h
 |_::_,[],h=>by cases h
theorem aa0:∀{x y:Ck},ckB x y=ao->x=y:=by intro x y h;cases x<;>cases y<;>simp_all [ckB]
theorem nt:∀{a b:aE Ck},pR a b=ao->a=b
 |[],[],_=>rfl
 |x::a,y::b,h=>by
  simp only[pR,aM]at h;rw[aa0 h.1,nt h.2]
 |[],_::_,h=>by cases h
 |_::_,[],h=>by cases h
theorem vd:∀{fs:aE Field} {l:aE (aN×aN)},we P n fs l=ao->
  fs.mapM (λf=>(P.info? f.type).map λi=>(f.offset,i.size))=ai l/\∀(f o m:aN),l[f]? =ai (o,m)->∃j,fs[f]? =ai j/\j.offset=o/\(P.info? j.type).map (·.size)=ai m/\m≠0/\o+m<=n
 |[],[],_=>⟨rfl,λf o m h=>by simp at h⟩
 |f::r,(o,m)::l,h=>by
  simp only[we,aM]at h;obtain⟨⟨⟨⟨u,d⟩,x⟩,y⟩,z⟩:=h;obtain⟨A,B⟩:=vd z;have k:=aX u;cases hi:P.info? f.type with
  |none=>rw[hi]at d;cases d
  |some i=>
   rw[hi]at d;have s:i.size=m:=aX d;have K:0<m:=by simpa [sd]using x
   have t:=cM y;refine⟨by simp[TR,hi,A,k,s],λg I C hg=> ?_⟩
   cases g with
   |zero=>cases hg;exact⟨f,rfl,k,by rw[hi];exact ic ai s,by omega,t⟩
   |succ g=>exact B g I C hg
 |[],_::_,h=>by cases h
 |_::_,[],h=>by cases h
theorem HS:∀{rows:aE uC} {t:aN} {ti:TI},F9 rows t=ai ti->∃r∈rows,r.t=t/\r.ti=ti/\∀f,CK rows t f=(bif r.ti.agg then r.fs[f]? else aj)
 |[],_,_,h=>by cases h
 |r::rs,t,ti,h=>by
  unfold F9 at h;cases d:bK t r.t with
  |true=>rw[d]at h;cases h;exact⟨r,cD ..,(aX d).symm,rfl,λf=>by simp[CK,d]⟩
  |false=>rw[d]at h;obtain⟨s,i,j,k,m⟩:=HS (rows:=rs) h;exact⟨s,cu _ i,j,k,λf=>by unfold CK;rw[d];exact m f⟩
theorem Lc:∀{rows:aE uC} {t f:aN} {o n:aN},CK rows t f=ai (o,n)->∃ti,F9 rows t=ai ti/\ti.agg=ao
 |[],_,_,_,_,h=>by cases h
 |r::rs,t,f,o,n,h=>by
  unfold CK at h;unfold F9;cases d:bK t r.t with
  |true=>
   rw[d]at h;refine⟨r.ti,rfl,?_⟩
   cases i:r.ti.agg with
   |true=>rfl
   |false=>rw[i]at h;cases h
  |false=>rw[d]at h;exact Lc (rows:=rs) h
def FJ(P:de):aN->aE Ck->aE Field->aY
 |_,[],[]=>ao
 |j,k::ks,f::fs=>f.name != "_" &&bK f.offset j&&(match P.underlying f.type,k with|some (.int q),.i d=>ah (q=d)|some .bool,.b=>ao|some .string,.s=>ao|_,_=>aq)&&FJ P (j+1) ks fs
 |_,_,_=>aq
def XA(P:de)(rows:aE uC)(t:aN):aY:=
 !P.eqGuardType P.depth t&& !P.stoodInHeld t&&(match F9 rows t,P.underlying t with|some ti,ai (.struct fs)=>FJ P 0 ti.ks fs.toList|_,_=>aq)
theorem wK(hd:P.underlying t=ai d)(hp:rh d=ao)(f:cs[j]? =ai v)(w:cB):(part t cs j).run P w=.ok v w:=by cases d<;>simp_all [part,Go.isAgg,run_underlying hd,rh]
theorem y_(w:cB):∀(fs:aE Field) (ks:aE Ck) (m j xs z:aE AV) (r:aY),FJ P m.length ks fs=ao->j.length=m.length->xs.map Fs=ks->z.map Fs=ks->Ui xs z=ai r->
  (Mp 9999 ((m++xs).map lz).toArray ((j++z).map lz).toArray fs).run P w=.ok r w
 |[],[],m,j,xs,z,r,_,_,A,K,u=>by
  have:xs=[]:=by simpa using A
  subst this;have:z=[]:=by simpa using K
  subst this;cases u;rfl
 |f::fs,k::ks,m,j,x::xs,y::z,r,h,hl,A,K,u=>by
  simp only[FJ,aM]at h;obtain⟨⟨⟨N,M⟩,C⟩,U⟩:=h;have M:=aX M;have N:f.name≠ "_" :=by simpa using N
  simp only[e9,Xl]at A K;have R:((m++x::xs).map lz).toArray[f.offset]? =ai (lz x):=by rw[M];simp
  have S:((j++y::z).map lz).toArray[f.offset]? =ai (lz y):=by rw[M,<-hl];simp
  have ih:=λr' O=>y_ w fs ks (m++[x]) (j++[y]) xs z r' (by simpa using U) (by simp[hl]) A.2 K.2 O;simp only[ca,uc]at ih
  have fin:∀{d:TypeDesc} {a b:bP} {q t:aY},P.underlying f.type=ai d->rh d=ao->lz x=a->lz y=b->(Op.equalIn 9999 f.type a b).run P w=.ok q w->Ui xs z=ai t->r=(q&&t)->
    (Mp 9999 ((m++x::xs).map lz).toArray ((j++y::z).map lz).toArray (f::fs)).run P w=.ok r w:=by
   intro d a b q t hd hp V X hq I Y
   subst V;subst X;subst Y
   simp only[Mp,bm N,cg,wK hd hp R w,wK hd hp S w,bH,hq,mD]
   cases q with
   |false=>rfl
   |true=>simpa using ih t I
  cases B:P.underlying f.type with
  |none=>rw[B]at C;cases C
  |some d=>
   rw[B]at C;cases x<;>cases y<;>simp only[Ui]at u<;>try (cases u;done)
   ·rename_i k1 n1 k2 n2;split at u
    ·rename_i Q;subst Q;split at u
     ·rename_i t I;cases u;have hk:k=.i k1:=A.1.symm;subst hk;cases d<;>simp at C;subst C;exact fin B rfl rfl rfl (run_equalIn_int w 9998 f.type _ _ _ _ B) I rfl
     ·cases u
    ·cases u
   ·split at u
    ·rename_i t I;cases u;have hk:k=.b:=A.1.symm;subst hk;cases d<;>simp at C;exact fin B rfl rfl rfl (run_equalIn_bool' w 9998 f.type _ _ B) I rfl
    ·cases u
   ·split at u
    ·rename_i t I;cases u;have hk:k=.s:=A.1.symm;subst hk;cases d<;>simp at C;exact fin B rfl rfl rfl (run_equalIn_string w 9998 f.type _ _ B) I rfl
    ·cases u
 |[],_::_,_,_,_,_,_,h,_,_,_,_=>by cases h
 |_::_,[],_,_,_,_,_,h,_,_,_,_=>by cases h
 |_::_,_::_,_,_,[],_,_,_,_,A,_,_=>by cases A
 |_::_,_::_,_,_,_::_,[],_,_,_,_,K,_=>by cases K
theorem aa4(h:rows.all (Wl P)=ao)(M:eqs.all (XA P rows)=ao):dY P (SF rows eqs):=by
 have key:∀t ti,F9 rows t=ai ti->∃r,r.t=t/\r.ti=ti/\Wl P r=ao/\∀f,CK rows t f=(bif r.ti.agg then r.fs[f]? else aj):=λt ti N=>by obtain⟨r,Q,M,V,X⟩:=HS N;exact⟨r,M,V,bz.1 h r Q,X⟩
 have m:∀r,Wl P r=ao->∃j d,P.info? r.t=ai j/\P.underlying r.t=ai d/\j.size=r.ti.ks.length/\j.bytes=r.ti.bytes/\0<r.ti.ks.length/\
   (Jk r.ti.ks=ao->∃z,j.zero=ai z/\z.cells.toList=r.ti.ks.map ie/\(r.ti.agg=ao->isAgg z=ao))/\
   ((∃fs,d=.struct fs/\r.ti.agg=ao/\we P r.ti.ks.length fs.toList r.fs=ao)\/(r.ti.agg=aq/\((∃k,r.ti.ks=[.i k]/\d=.int k)\/(r.ti.ks=[.b]/\d=.bool)\/(r.ti.ks=[.s]/\d=.string)\/(∃e,r.ti.ks=[.l e]/\d=.slice e)\/(r.ti.ks=[.o]/\rh d=ao)))):=by
  intro r A
  unfold Wl at A
  split at A
  ·rename_i j d Q M;simp only[aM]at A;obtain⟨⟨⟨⟨k1,k2⟩,k3⟩,U⟩,B⟩:=A;refine⟨j,d,Q,M,aX k1,aX k2,by simpa [sd]using k3,λC=> ?_,?_⟩
   ·rw[C,aw]at U;split at U
    ·rename_i z hz;simp only[aM,dC,dt]at U;exact⟨z,hz,SZ U.1,λI=>by rcases U.2 with h|h;(·rw[I]at h;cases h);exact h⟩
    ·cases U
   ·cases d<;>simp only[aM,dt]at B;case struct fs=>exact .inl ⟨fs,rfl,B⟩
    case int k=>exact .inr ⟨B.1,.inl ⟨k,nt B.2,rfl⟩⟩
    case bool=>exact .inr ⟨B.1,.inr (.inl ⟨nt B.2,rfl⟩)⟩
    case string=>exact .inr ⟨B.1,.inr (.inr (.inl ⟨nt B.2,rfl⟩))⟩
    case slice e=>exact .inr ⟨B.1,.inr (.inr (.inr (.inl ⟨e,nt B.2,rfl⟩)))⟩
    all_goals exact .inr ⟨B.1.1,.inr (.inr (.inr (.inr ⟨nt B.1.2,B.2⟩)))⟩
  ·cases A
 refine⟨λt ti N=> ?_,λt ti N=> ?_,λt f o n K=>Lc K,λt ti N I fs R=> ?_,λt ti he N w x y xs ys r A hx hy=> ?_,λ_ _ h=>by cases h⟩
 ·obtain⟨r,rfl,rfl,A,_⟩:=key t ti N;obtain⟨j,d,Q,M,V,X,h5,h6,Y⟩:=m r A;refine⟨j,Q,V,X,h5,λC=> ?_⟩
  obtain⟨z,z1,z2,z3⟩:=h6 C;have hc:z.cells=(r.ti.ks.map ie).toArray:=by rw[<-z2]
  refine⟨z,z1,hc,λI=> ?_⟩
  have:=z3 I;cases z<;>simp[isAgg]at this;rw[show _=_ from hc.symm];rfl
 ·obtain⟨r,rfl,rfl,A,u⟩:=key t ti N;obtain⟨j,d,Q,M,V,X,h5,h6,Y⟩:=m r A;refine⟨d,M,λI=> ?_,λI=> ?_⟩
  ·rcases Y with ⟨fs,rfl,_,O⟩|⟨C,_⟩
   ·refine⟨fs,rfl,λf o n K=> ?_⟩
    have K:CK rows r.t f=ai (o,n):=K;rw[u,I]at K;obtain⟨fd,k1,k2⟩:=(vd O).2 f o n K;exact⟨fd,by simpa using k1,k2⟩
   ·rw[I]at C;cases C
  ·rcases Y with ⟨fs,_,C,_⟩|⟨_,h|h|h|h|⟨h,O⟩⟩
   ·rw[I]at C;cases C
   ·exact .inl h
   ·exact .inr (.inl h)
   ·exact .inr (.inr (.inl h))
   ·exact .inr (.inr (.inr (.inl h)))
   ·refine .inr (.inr (.inr (.inr ⟨h,?_⟩)));cases d<;>first|rfl|cases O
 ·obtain⟨r,rfl,rfl,A,u⟩:=key t ti N;obtain⟨j,d,Q,M,V,X,h5,h6,Y⟩:=m r A;rw[M]at R;cases R;rcases Y with ⟨h9,he,_,O⟩|⟨C,_⟩
  ·cases he;refine⟨r.fs,(vd O).1,λf o n K=> ?_⟩
   have K:CK rows r.t f=ai (o,n):=K;rw[u,I]at K;exact K
  ·rw[I]at C;cases C
 ·have hm:t∈eqs:=by
   have:∀l:aE aN,ma t l=ao->t∈l:=by
    intro l;induction l with
    |nil=>intro h;cases h
    |cons a l ih=>
     intro h;simp only[ma,dC]at h;rcases h with h|h
     ·rw[aX h];exact cD
     ·exact cu _ (ih h)
   exact this _ he
  have O:=bz.1 M t hm;simp only[XA,aM,dt]at O;obtain⟨⟨b1,b2⟩,S⟩:=O;rw[show F9 rows t=ai ti from N]at S;cases R:P.underlying t with
  |none=>rw[R]at S;cases S
  |some d=>
   rw[R]at S;cases d<;>try (cases S;done)
   rename_i fs;have u:P.fieldsOf t=fs:=by unfold Program.fieldsOf;rw[R]
   have h8:P.underlying t=ai (.struct (P.fieldsOf t)):=by rw[u];exact R
   have key:(Op.equalIn 10000 t (.agg (xs.map lz).toArray) (.agg (ys.map lz).toArray)).run P w=.ok r w:=by rw[run_equalIn_agg w 9999 t _ _ h8 b2,u];exact y_ w fs.toList ti.ks [] [] xs ys r S rfl hx hy A
   refine⟨?_,?_⟩
   ·simp only[cg,run_eqGuard_agg w .eql t x y _ _ b1,bH,run_eql_struct,key]
   ·simp only[cg,run_eqGuard_agg w .neq t x y _ _ b1,bH,run_neq_struct,key]
def ahJ(rows:aE uC)(eqs:aE aN)(Tk:aE (aN×aN)):Tab:={SF rows eqs with Tk:=λt f=>Tk.any λp=>bK t p.1&&bK f p.2}
def flB(P:de)(p:aN×aN):aY:=
 match P.underlying p.1 with
 |some (.struct fs)=>(match fs[p.2]? with|some f=>(match P.underlying f.type with|some d=>rh d|none=>aq)|none=>aq)
 |_=>aq
theorem aaM(h:P.underlying t=ai d)(f:rh d=ao)(w:cB):(Go.isAgg t).run P w=.ok aq w:=by unfold Go.isAgg;rw[cg,run_underlying h,bH];cases d<;>first|rfl|cases f
theorem Ug(h:dY P (SF rows eqs))(m:Tk.all (flB P)=ao):dY P (ahJ rows eqs Tk):=by
 refine⟨h.info,h.desc,h.fo,h.pl,h.eq,λt f hq fs s r hd w=> ?_⟩
 obtain⟨p,hp,j⟩:=List.any_eq_true.1 (show(Tk.any λp=>bK t p.1&&bK f p.2)=ao from hq);rw[aM]at j;have i:=bz.1 m p hp;unfold flB at i;rw[<-aX j.1,<-aX j.2,r]at i;dsimp only at i;rw[hd]at i;dsimp only at i;split at i
 ·rename_i d k;exact aaM k i w
 ·cases i
end Go.FG
namespace Go.FG
open Go.RowKit Go.ChangeShapes
inductive tY (T:Tab):CV->Prop
 |i (k n):(Lit.int k n).wf=ao->tY T (.i k n)
 |b (x):tY T (.b x)
 |s (x:au):x.size<=140737488351232->tY T (.s x)
 |l (e xs ti):T.ty e=ai ti->xs.length*ti.bytes<=140737488351232->(∀y∈xs,y.map CV.kd=ti.ks)->(∀y∈xs,∀x∈y,tY T x)->tY T (.l e xs)
def M6(P:de)(g:aN->aA (aE Ck)):aE Field->aN->aA (aE Ck)
 |[],_=>ai []
 |f::r,off=>match g f.type with
  |some ks=>bif bK f.offset off&&bK (P.cellsOf f.type) ks.length then(match M6 P g r (off+ks.length)with|some l=>ai (ks++l)|none=>aj)else aj
  |none=>aj
def M5(P:de)(T:Tab):aN->aN->aA (aE Ck)
 |0,_=>aj
 |n+1,t=>match P.underlying t with
  |some (.int k)=>ai [.i k]
  |some .bool=>ai [.b]
  |some .string=>ai [.s]
  |some (.slice e)=>match T.ty e,M5 P T n e with
   |some te,ai ks=>bif pR ks te.ks&&bK te.bytes (P.bytesOf e)&&bK (P.cellsOf e) ks.length&&pK 0 ks.length then ai [.l e]else aj
   |_,_=>aj
  |some (.struct fs)=>match M6 P (M5 P T n) fs.toList 0 with
   |some ks=>bif bK (P.cellsOf t) ks.length then ai ks else aj
   |none=>aj
  |_=>aj
def GJ:CV->AA
 |.i k n=>.i k n|.b x=>.b x|.s x=>.s x|.l e xs=>.sh e xs
section
variable {H:Type} {enc:TypeId×bP->H} {P:de} {T:Tab} {w:cB}
def vu(w:cB):aN->Prop:=λb=>b<w.heap.size
structure vx (T:Tab) (w:cB) (cs:aE bP) (off:aN) (ys:aE CV) (ks:aE Ck):Prop where
 kd:ys.map CV.kd=ks
 at_:∀(j:aN) (y:CV),ys[j]? =ai y->∃v,cs[off+j]? =ai v/\Holds T w (vu w) v y
 fine:∀y∈ys,tY T y
theorem addr_add(a:Addr)(m k:aN):(a.add m).add k=a.add (m+k):=by
 unfold Addr.add;by_cases d:m=0<;>by_cases f:k=0
 ·simp[d,f]
 ·simp[d,f]
 ·simp[d,f]
 ·simp[d,f,jL]
theorem aaK(b o n:aN):(ad b o).add n=ad b (o+n):=by unfold Addr.add;by_cases h:n=0<;>simp[h]
theorem yY{α:Type}{p:aN->α->Prop}:∀n:aN,(∀i,i<n->∃y,p i y)->∃xs:aE α,xs.length=n/\∀(i:aN) (y:α),xs[i]? =ai y->p i y
 |0,_=>⟨[],rfl,λi y h=>by simp at h⟩
 |n+1,h=>by
  obtain⟨xs,f,j⟩:=yY n (λi hi=>h i (by omega));obtain⟨y,k⟩:=h n (by omega);refine⟨xs++[y],by simp[f],λi z d=> ?_⟩
  rcases qy i xs.length with hi|hi
  ·rw[dj hi]at d;exact j i z d
  ·rw[cY hi]at d;have:i-xs.length=0:=by
    rcases Ci (i-xs.length)with h|h
    ·exact h
    ·rw[kD (by simp;omega)]at d;cases d
   rw[this]at d;cases d;have:i=n:=by omega
   subst this;exact k
theorem sW(hk:y.kd=k)(i:Holds T w (vu w) v y)(h:tY T y):vx T w [v] 0 [y] [k] where
 kd:=by simp[hk]
 at_ j m d:=by
  cases j with
  |zero=>cases d;exact⟨v,rfl,i⟩
  |succ j=>simp at d
 fine m f:=by rw[a_]at f;subst f;exact h
theorem tq:∀{ds:aE (DataW H)} {i:aN} {d:DataW H},ds[i]? =ai d->∀n∈d.weights P e,n∈yU P e ds
 |[],_,_,h,_,_=>by simp at h
 |d0::ds,0,d,h,n,f=>by cases h;simp only[yU,bc];exact .inl f
 |d0::ds,i+1,d,h,n,f=>by simp only[yU,bc];exact .inr (tq (ds:=ds) (i:=i) h n f)
theorem ML
  (hg:∀t ks,g t=ai ks->∀(d:aN) (cs:aE bP) (x:DataW H×aE MemPlace) sp hd,Cf enc P w 0 sp hd d t cs=ai x->(∀m∈x.1.weights P t,m<=reachBytes)->cs.length=P.cellsOf t->∃V,vx T w cs 0 V ks):
  ∀(fs:aE Field) (off:aN) (ks:aE Ck),M6 P g fs off=ai ks->off+ks.length<=cs.length->∀(xs:aE (DataW H×aE MemPlace)) (d:aN) sp hd,xs.length=fs.length->
   (∀(i:aN) (f:Field),fs[i]? =ai f->Cf enc P w 0 sp hd d f.type ((cs.drop f.offset).take (P.cellsOf f.type))=xs[i]?)->
   (∀(i:aN) (f:Field) x,fs[i]? =ai f->xs[i]? =ai x->∀m∈x.1.weights P f.type,m<=reachBytes)->∃V,vx T w cs off V ks:=by
 intro fs;induction fs with
 |nil=>intro off ks h _ xs d sp hd _ _ _;cases h;exact⟨[],⟨rfl,λj y u=>by simp at u,λy s=>by cases s⟩⟩
 |cons f fs ih=>
  intro off ks h B xs d sp hd M C K;unfold M6 at h;cases k:g f.type with
  |none=>rw[k]at h;cases h
  |some z=>
   rw[k]at h;dsimp only at h;cases A:(bK f.offset off&&bK (P.cellsOf f.type) z.length)with
   |false=>rw[A]at h;cases h
   |true=>
    rw[A,aw]at h;simp only[aM]at A;have Y:=aX A.1;have e2:=aX A.2;cases U:M6 P g fs (off+z.length)with
    |none=>rw[U]at h;cases h
    |some X=>
     rw[U]at h;have h:z++X=ks:=by injection h
     subst h;rw[bW]at B;cases xs with
     |nil=>simp at M
     |cons x xs=>
      have h0:=C 0 f rfl;rw[show(x::xs)[0]? =ai x from rfl]at h0;obtain⟨O,N⟩:=hg _ _ k d _ x sp hd h0 (K 0 f x rfl rfl) (by rw[du,gz];omega);obtain⟨y2,Q⟩:=ih (off+z.length) X U (by omega) xs d sp hd (by simpa using M) (λi f' R=>C (i+1) f' R) (λi f' x' R hx=>K (i+1) f' x' R hx);have h1:O.length=z.length:=by rw[<-N.kd,bJ]
      refine⟨O++y2,⟨by rw[cO,N.kd,Q.kd],λj y u=> ?_,λy s=> ?_⟩⟩
      ·rcases qy j O.length with r|r
       ·rw[dj r]at u;obtain⟨v,I,S⟩:=N.at_ j y u;refine⟨v,?_,S⟩
        rw[bV,dP,bm (by omega),dO,Y]at I;exact I
       ·rw[cY r]at u;obtain⟨v,I,S⟩:=Q.at_ _ y u;refine⟨v,?_,S⟩
        rw[show off+z.length+(j-O.length)=off+j by omega]at I;exact I
      ·rcases bc.1 s with s|s
       ·exact N.fine y s
       ·exact Q.fine y s
theorem BG(hE:dY P T):∀(n t:aN) (ks:aE Ck),M5 P T n t=ai ks->∀(N:aN) (cs:aE bP) (x:DataW H×aE MemPlace) sp hd,Cf enc P w 0 sp hd N t cs=ai x->(∀m∈x.1.weights P t,m<=reachBytes)->cs.length=P.cellsOf t->∃ys,vx T w cs 0 ys ks:=by
 intro n;induction n with
 |zero=>intro t ks h;cases h
 |succ n ih=>
  intro t ks h N cs x sp hd A I h3;unfold M5 at h;split at h
  ·rename_i k u;cases h;obtain⟨m,rfl,rfl,ha⟩:=DataW.trod_int u A;exact⟨[.i k m],sW rfl (.i _ _) (.i _ _ ha)⟩
  ·rename_i u;cases h;obtain⟨m,rfl,rfl⟩:=DataW.trod_bool u A;exact⟨[.b m],sW rfl (.b _) (.b _)⟩
  ·rename_i u;cases h;obtain⟨m,rfl,rfl,x0⟩:=DataW.trod_string u A;have hz:m.size<=140737488351232:=by have:=I m.data.toList.length (by simp[uQ]);rw[dn]at this;exact this
   exact⟨[.s m],sW rfl (.s _ (show m.size<=4611686018427387904 by omega)) (.s _ hz)⟩
  ·rename_i e u;split at h
   ·rename_i te ke X h9;cases hb:(pR ke te.ks&&bK te.bytes (P.bytesOf e)&&bK (P.cellsOf e) ke.length&&pK 0 ke.length)with
    |false=>rw[hb]at h;cases h
    |true=>
     rw[hb]at h;cases h;simp only[aM]at hb;obtain⟨⟨⟨b1,b2⟩,b3⟩,b4⟩:=hb;have e1:=nt b1;have e2:=aX b2;have e3:=aX b3;have e4:0<ke.length:=by simpa [sd]using b4
     subst e1;rcases DataW.trod_slice u A with ⟨rfl,rfl⟩|⟨a,len,cap,r,rest,m,rfl,rfl,rfl,_,hw,h7,h8,h5,_,_⟩
     ·exact⟨[.l e []],sW rfl (.nl _ _ _) (.l e [] te X (by simp) (λy M=>by cases M) (λy M=>by cases M))⟩
     ·have he:len*te.bytes<=140737488351232:=by have:=I ((r.length+rest.length)*P.bytesOf e) (by simp[uQ,u]);rw[<-e2,h8]at this;have h2:len*te.bytes<=(len+rest.length)*te.bytes:=b5 _ (by omega);exact cf h2 this
      have one:∀i,i<len->∃ys:aE CV,(∀(j:aN) (y:CV),ys[j]? =ai y->∃v,w.cell? (a.add (i*te.ks.length+j))=ai v/\Holds T w (vu w) v y)/\ys.map CV.kd=te.ks/\∀y∈ys,tY T y:=by
       intro i hi;have O:=h5 i hi;have h4:i<r.length:=by omega
       rw[e8 h4]at O;cases hc:w.cells? 0 (a.add (i*P.cellsOf e)) (P.cellsOf e)with
       |none=>rw[hc]at O;cases O
       |some cs=>
        rw[hc]at O;have O:Cf enc P w 0 sp hd m e cs=ai r[i]:=O;obtain⟨_,h3,Q⟩:=World.cells?_some hc;obtain⟨ys,c⟩:=ih e te.ks h9 m cs _ sp hd O (λz hz=>I z (by simp only[uQ,u,cm,bc];exact .inr (.inl (tq (i:=i) (d:=r[i].1) (by simp[h4]) z hz)))) h3;refine⟨ys,λj y S=> ?_,c.kd,c.fine⟩
        obtain⟨v,C,hh⟩:=c.at_ j y S;rw[bV]at C;have ht:=(aW.1 C).1;have:=Q j (by omega);rw[C]at this;refine⟨v,?_,hh⟩
        rw[<-e3];rw[<-addr_add];exact this
      obtain⟨xs,K,Y⟩:=yY len one;have R:tY T (.l e xs):=by
       refine .l e xs te X (by rw[K];exact he) (λy M=> ?_) (λy M=> ?_)
       ·obtain⟨i,hi⟩:=bX M;exact(Y i y hi).2.1
       ·obtain⟨i,hi⟩:=bX M;exact(Y i y hi).2.2
      refine⟨[.l e xs],sW rfl ?_ R⟩
      rcases Ci len with h0|h0
      ·have:xs=[]:=eO (by omega);subst this;rw[h0];exact .nl _ _ _
      ·have hn:xs[0]? =ai xs[0]:=by rw[e8 (by omega)]
       obtain⟨c0,k0,_⟩:=Y 0 _ hn;have ho:0<(xs[0]).length:=by rw[<-bJ (f:=CV.kd),k0];exact e4
       obtain⟨v0,B,_⟩:=c0 0 _ (e8 ho);obtain⟨b,o,s⟩:=a;have hs:s=aj/\b<w.heap.size:=by
        unfold Mr at B;have e0:(Addr.mk b o s).add (0*te.ks.length+0)=⟨b,o,s⟩:=by simp[Addr.add]
        rw[e0]at B;split at B
        ·rename_i hh;refine⟨?_,(dr.1 hh).1⟩
         cases s with
         |none=>rfl
         |some s=>simp at B
        ·cases B
       obtain⟨rfl,h6⟩:=hs;let U:aN->aN->bP:=λi j=>(w.cell? (ad b (o+i*te.ks.length+j))).getD undef;have av:∀i j y z,xs[i]? =ai y->y[j]? =ai z->w.cell? (ad b (o+i*te.ks.length+j))=ai (U i j)/\Holds T w (vu w) (U i j) z:=by
        intro i j y z hi S;obtain⟨v,C,hh⟩:=(Y i y hi).1 j z S;have C:w.cell? ((ad b o).add (i*te.ks.length+j))=ai v:=C;rw[aaK,<-jL]at C;have:U i j=v:=by simp only[U,C];rfl
        rw[this];exact⟨C,hh⟩
       rw[<-K];exact .l e xs b o cap te U X (by omega) h7 h6 (λy M=>by obtain⟨i,hi⟩:=bX M;exact(Y i y hi).2.1) (λi j y z hi S=>(av i j y z hi S).1) (λi j y z hi S=>(av i j y z hi S).2)
   ·cases h
  ·rename_i fs u;obtain⟨xs,m,rfl,rfl,hr,K,hf⟩:=DataW.trod_struct u A;cases V:M6 P (M5 P T n) fs.toList 0 with
   |none=>rw[V]at h;cases h
   |some x1=>
    rw[V]at h;obtain⟨hb,rfl⟩:=Dc h;refine ML ih fs.toList 0 _ V ?_ xs m sp hd (by simpa using K) (λi f hi=>hf i f (by simpa using hi)) (λi f x hi Y z hz=>I z ?_)
    ·have:=aX hb;omega
    ·simp only[uQ,u];refine DataW.weights_mem_each (j:=i) (t:=f.type) (d:=x.1) ?_ ?_ z hz
     ·rw[bI,hi];rfl
     ·rw[bI,Y];rfl
  ·cases h
end
end Go.FG
