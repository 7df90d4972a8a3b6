/- An evaluator for the part of the language that this program uses, proved sound over the model: states told as values and lists; what an evaluation tells, the call does. No condition. -/
import Derived.Calls
import Derived.Orders
import Derived.Below
import Derived.Laws.AppendOwn
import Derived.Laws.Slices
import Derived.Laws.StructEq
import Derived.Laws.Tables
import Derived.Laws.MakeOwn
import Derived.Laws.IdiomStrings
import Derived.Laws.BytesArg
import Derived.Laws.NewFold
import Derived.SizedLaws
import Derived.Carry
import Derived.ProofKit
import Derived.KernelRfl
import Derived.Laws.Strings
import Derived.Sort.Grow
import Derived.Deep.Draws
import Derived.Test.YtpcfgiocpohbmaaGreatDoorCorea
set_option linter.all false
set_option maxRecDepth 100000
set_option autoImplicit true
set_option relaxedAutoImplicit true
open Array renaming ext'->tw,length_toList->dM,getElem?_toList->da,getElem?_eq_some_iff->dD,getElem?_extract->et,getElem?_map->OJ,getElem?_append_left->Et,toList_map->A5,eq_empty_of_size_eq_zero->A3,getD_eq_getD_getElem?->eM,getElem?_replicate->Eu,replicate->Bt
open Bool renaming or_true->Kd,false->aq,true->ao,and_eq_true->aM,and_true->gE,false_eq_true->dq,not_eq_true'->di,not_eq_false'->iw,or_eq_true->dN,and_false->wQ,not_false->bH,true_or->OK,or_eq_false_iff->iG
open Decidable renaming decide->ah
open Go renaming World->cN,Value->bS,Program->dx,Oper->ia,IntKind->tL,Operand->fB
open Go.Act renaming put->Vl
open Go.Builtin renaming firstCells->fu,lenOf->pR,append_->iu,zeroCells->fS
open Go.DataW renaming weightsAll->AB,trod->DM,weights->v7,TrodAll->EB,weightsEach->na
open Go.Exit renaming inBlock->Ig
open Go.Instr renaming makeFunc->Vm,loadAt->zc,sureAddr->va
open Go.IntKind renaming u8->a8
open Go.Op renaming eqFields->OO
open Go.Oper renaming wp->OP,upon_enter->Vn
open Go.Region renaming wanted->vF,binds->mM,ready->xB
open Go.Result renaming andThen_ok->bI
open Go.Sem renaming run_bind->cx,run_pure->c8,run->nu,run_ite->np
open Go.Value renaming okWide->sR
open Go.World renaming cell?->OQ
open List renaming mem_cons->cF,mem_singleton->a7,eq_nil_of_length_eq_zero->eU,getElem?_of_mem->b5,getElem?_eq_some_iff->aW,getElem_mem->bF,mem_of_getElem?->aU,map_toArray->DZ,map_cons->fD,map_nil->wb,mem_cons_self->cQ,mem_cons_of_mem->cK,mem_append->a_,not_mem_nil->lQ,getElem?_cons_succ->dQ,mem_flatMap->bL,length_eq_one_iff->fW,getElem?_cons_zero->s_,flatMap_cons->zd,nodup_append->eK,getElem?_append_left->dz,getElem?_map->bJ,getElem?_append_right->de,length_map->bK,mem_append_right->bR,nodup_cons->kU,mem_map->cU,mem_append_left->bZ,getD_eq_getElem?_getD->dc,nil_append->eR,all_eq_true->bE,map_map->jL,map_append->cT,append_nil->d_,cons_append->gG,length_singleton->bz,range'->iT,length_cons->bT,getElem?_eq_none->ll,append_assoc->cg,take_length->cR,length_append->bU,singleton_append->vg,length_nil->jU,getElem?_take->ej,countP_cons->lK,range->c7,range_eq_range'->V5,find?_eq_none->V1,find?_some->FY,length_set->ch,mem_or_eq_of_mem_set->rS,mem_filter->dp,mapM_cons->V3,getD_cons_succ->v_,length_take->dG,length_drop->g_,getElem?_drop->eh,getElem?_eq_getElem->fC,all_cons->iS
open List.cons renaming injEq->ZD
open Nat renaming eq_of_beq_eq_true->aX,add_mul->dv,le_refl->bW,zero_le->bB,div_lt_iff_lt_mul->yS,mod_lt->F0,div_add_mod->JV,mul_comm->Ii,zero_add->bV,add_comm->i_,beq->bN,le_of_ble_eq_true->b8,lt_of_lt_of_le->jV,add_zero->BJ,blt->oE,blt_eq->tz,sub_self->qe,lt_or_ge->rL,le_trans->ca,ble_eq_true_of_le->wc,ble->e6,sub_zero->H2,add_assoc->kc,eq_zero_or_pos->DP,mul_le_mul_right->b9
open Option renaming some->ai,none->ay,getD_some->zf
open Option.some renaming inj->aL,injEq->jG
open Prod.mk renaming inj->bX,injEq->jg
open _root_ renaming List->aE,Nat->aN,Bool->aZ,if_pos->bm,if_neg->bk,Int->az,decide_eq_true_eq->ba,Array->eN,absurd->cO,Option->aG,cond_true->au,cond_false->ax,decide_eq_true->aA,decide_eq_false->aD,of_decide_eq_true->cB,congrArg->gu,ByteArray->ar
namespace Go.FG
def Je:∀{l:aE aN} {n:aN},n∈l->mJ n l=true:=by
 intro l;induction l with
 |nil=>intro n h;cases h
 |cons m r ih=>
  intro n h;rcases cF.1 h with rfl|h
  ·simp[mJ]
  ·simp only[mJ,ih h,Kd]
def qM(h:mJ n l=aq):n∉l:=λhm=>by rw[Je hm]at h;cases h
def Holds.one{E:gy}{w:cN}{K:aN->Prop}{u:bS}{x:CV}(h:Holds E w K u x):u.oneCell'=true:=by cases h<;>rfl
def WI(p:Pl):(kX p).oneCell'=true:=by unfold kX;split<;>rfl
def XC.one{E:gy}{w:cN}{G:aN->aN->Pl}{i j:aN}{u:bS}{x:CV}(h:XC E w G i j u x):u.oneCell'=true:=by
 cases x with
 |l e d=>rw[h.1];exact WI _
 |i=>rw[show u=_ from h.1];rfl
 |b=>rw[show u=_ from h.1];rfl
 |s=>rw[show u=_ from h.1];rfl
def JG:(Qa x).oneCell'=true:=by cases x<;>rfl
def xS{α:Type}{b:aZ}{x y:Rd α}(h:b=ao):(bif b then x else y)=x:=by rw[h];rfl
def EM{α:Type}{b:aZ}{x y:Rd α}(h:b=aq):(bif b then x else y)=y:=by rw[h];rfl
def tq{α β γ:Type}{σ:St}{a x:α}{b y:β}{c z:γ}(h:(Rd.ret (a,b,c)).val σ=ai (x,y,z)):a=x/\b=y/\c=z:=by obtain⟨h1,h2⟩:=bX (aL h);obtain⟨h2,h3⟩:=bX h2;exact⟨h1,h2,h3⟩
section
variable {P:dx} {E:gy} {σ:St} {a:Act} {w:cN} {c:gQ} {o:ia} {nm:aN} {e:tF}
def CE(N:Ok E σ w c)(ht:E.ty el=ai te)(hs:eI E w c s v)(h:(xR el s).val σ=ai (r,xs,b)):
  ∃p g,Kc E σ w c te v r xs b p g:=by
 have z:∀b,(∀m∈b,∃ob,σ (dj m)=.o ob)->v=.slice ay 0 0->∀r,Kc E σ w c te v r [] b ⟨ao,0,0,0,0,te.ks.length⟩ (Lf E te.ks):=λb M O r=>
  ⟨O,rfl,λy C=>(by cases C),⟨rfl,λ_=>⟨rfl,rfl⟩,λh=>(by cases h)⟩,λ_=>wv (λ_ _=>rfl),λh=>(by cases h),λ_ i j ⟨y,x,h,_⟩=>(by simp at h),M⟩
 cases s with
 |nl=>obtain⟨rfl,rfl,rfl⟩:=tq h;exact⟨_,_,z [] (λm hm=>by cases hm) hs ao⟩
 |own n=>
  obtain⟨ob,hg,h⟩:=bu h;have hg:=dF hg;cases ob with
  |row e' ex K=>obtain⟨h1,X⟩:=cZ h;have:=aX h1;subst this;have h:=X;obtain⟨rfl,rfl,rfl⟩:=tq h;obtain⟨⟨t2,q1,U,q3⟩,R,V⟩:=N.obj n _ hg;obtain rfl:te=t2:=aL (ht.symm.trans q1);exact⟨c.P n,c.G n,hs,U,q3,R,V,λt=>⟨n,_,by simp,hg,.inl ⟨t,rfl⟩⟩,λk i j A t=>⟨n,_,by simp,hg,.inr ⟨k,i,j,A,t,rfl⟩⟩,λm hm=>by rw[a7]at hm;subst hm;exact⟨_,hg⟩⟩
  |_=>simp at h
 |vw n lo hi=>
  obtain⟨ob,hg,h⟩:=bu h;have hg:=dF hg;cases ob with
  |row e' ex K=>
   obtain⟨h1,X⟩:=cZ h;have:=aX h1;subst this;have h:=X;obtain⟨rfl,rfl,rfl⟩:=tq h;obtain⟨⟨t2,q1,U,q3⟩,R,V⟩:=N.obj n _ hg;obtain rfl:te=t2:=aL (ht.symm.trans q1);obtain⟨v1,v2,v3,v4⟩:=hs;have h5:hi<=K.length:=by rw[<-R.n];exact v2
   have Q:=mD (xs:=K) (lo:=lo) h5;have M:∀m∈[n],∃ob,σ (dj m)=.o ob:=λm hm=>by rw[a7]at hm;subst hm;exact⟨_,hg⟩
   cases hq:(c.P n).nil with
   |true=>
    have C:=(R.nil hq).1;subst C;have B:ez ([]:Row) lo hi=[]:=by unfold ez;simp
    rw[B];exact⟨_,_,z [n] M (v3 hq) ex⟩
   |false=>
    obtain⟨d,k1,k2,k3,k4,k5⟩:=R.mem hq;rcases v4 hq with ⟨u1,O⟩|⟨u1,oo,u2,O⟩
    ·have f:∀i j,gn (ez K lo hi) i j->gn K (lo+i) j:=by
      rintro i j ⟨y,x,h1,h2,h3⟩;rw[uF]at h1;split at h1
      ·exact⟨y,x,h1,h2,h3⟩
      ·cases h1
     refine⟨⟨aq,(c.P n).blk,(c.P n).off+lo*(c.P n).sz,(c.P n).cap-lo,hi-lo,(c.P n).sz⟩,λi j=>c.G n (lo+i) j,O,U,λy C=>q3 y (C5 C),⟨Q.symm,λh=>(by cases h),λ_=>⟨d,k1,by show hi-lo<=(c.P n).cap-lo;omega,by show(c.P n).cap-lo<=maxLen;omega,?_,λi y j x h1 h2=> ?_⟩⟩,λk=>⟨λi j A t _=>(V k).out _ j (f i j A) t hq,λi j i' j' A Y t h7 he=> ?_⟩,λ_=>⟨n,_,by simp,hg,.inl ⟨hq,rfl⟩⟩,λk i j A t=>⟨n,_,by simp,hg,.inr ⟨k,lo+i,j,f i j A,t,rfl⟩⟩,M⟩
     ·show(c.P n).off+lo*(c.P n).sz+((c.P n).cap-lo)*(c.P n).sz<=d.size;have:lo*(c.P n).sz+((c.P n).cap-lo)*(c.P n).sz=(c.P n).cap*(c.P n).sz:=by rw[<-dv];congr 1;omega
      omega
     ·rw[uF]at h1;split at h1
      ·obtain⟨u,hu,S⟩:=k5 (lo+i) y j x h1 h2;refine⟨u,?_,?_⟩
       ·show d[(c.P n).off+lo*(c.P n).sz+i*(c.P n).sz+j]? =ai u;rw[<-hu];congr 1;rw[dv];omega
       ·split at S
        ·rename_i k;rw[bm k];cases x with
         |l e1 z1=>exact S
         |_=>exact S
        ·rename_i k;rw[bk k];exact S
      ·cases h1
     ·have:=(V k).one _ j _ j' (f i j A) (f i' j' Y) t h7 he;exact⟨by omega,this.2⟩
    ·have h0:hi-lo=0:=by omega
     have B:ez K lo hi=[]:=eU (Q.trans h0);rw[B];exact⟨⟨aq,(c.P n).blk,oo,0,0,(c.P n).sz⟩,Lf E te.ks,O,U,λy C=>(by cases C),⟨rfl,λh=>(by cases h),λ_=>⟨d,k1,bW _,bB _,by show oo+0*(c.P n).sz<=d.size;rw[Nat.zero_mul];omega,λi y j x h=>(by simp at h)⟩⟩,λ_=>wv (λ_ _=>rfl),λ_=>⟨n,_,by simp,hg,.inl ⟨hq,rfl⟩⟩,λ_ i j ⟨y,x,h,_⟩=>(by simp at h),M⟩
  |_=>simp at h
 |_=>simp[xR]at h
def si(N:(∃C,P.underlying u=ai (.slice C))\/P.underlying u=ai .string)(k:0<ks.length)(hs:oF w v f ks.length R)(kJ:∀y∈f,y.map CV.kd=ks)(h1:∀i j u x,R i j u x->u.oneCell'=ao):
  ∃d,App P w u v z ks.length f.length d/\∀(i:aN) (y:aE CV) (j:aN) (x:CV),f[i]? =ai y->y[j]? =ai x->∃u:bS,d[i*ks.length+j]? =ai u/\R i j u x:=by
 have hl:∀y∈f,y.length=ks.length:=λy Q=>by rw[<-kJ y Q];simp
 obtain⟨A,cp,d,rfl,s,S,B⟩:=hs.list hl;have first:∀W:cN,(∀q,W.cell? q=w.cell? q)->(fu ks.length f.length (.slice A f.length cp)).run P W=.ok d.toArray W:=by
  intro W hW;rcases S with h|⟨b,oo,rfl,h⟩
  ·subst h;have K:d=[]:=eU (by rw[s];simp);subst K;cases A with
   |none=>exact run_firstCells_none _ _ _ _ _
   |some a=>exact run_firstCells_some W ks.length 0 a _ _ [] (by simp) (λj v m=>by simp at m)
  ·exact run_firstCells_some W ks.length f.length _ _ _ d s (λj v m=>by rw[hW,Addr.ot];exact h j v m)
 refine⟨d,⟨.inl ⟨N,by simp[pR],first w (λ_=>rfl),first w.drew (λ_=>rfl)⟩,s,λv O=> ?_⟩,B⟩
 obtain⟨q,hq⟩:=b5 O;have t:q<f.length*ks.length:=by rw[<-s];exact(aW.1 hq).1
 have hi:q/ks.length<f.length:=by rw[yS k];exact t
 have m:q%ks.length<f[q/ks.length].length:=by rw[hl _ (bF hi)];exact F0 _ k
 obtain⟨U,r,M⟩:=B (q/ks.length) f[q/ks.length] (q%ks.length) (f[q/ks.length][q%ks.length]) (by simp[hi]) (by simp[m]);have:q/ks.length*ks.length+q%ks.length=q:=by have:=JV q ks.length;rw[Ii]at this;exact this
 rw[this,hq]at r;cases r;exact h1 _ _ _ _ M
def Tl(hE:eB P E)(t:Ok E σ w c)(V:E.ty el=ai te)(C:0<te.ks.length)(S:(∃X,P.underlying u=ai (.slice X))\/P.underlying u=ai .string)(A:eI E w c x v)
  (h:(Tk E he el te.ks b x).val σ=ai (hj,f,w2)):
  ∃D d M,w2=kD D/\App P w u v z te.ks.length f.length d/\rT E σ w c te b hj f D d M:=by
 have ho:∀D q,c.K q->K1 σ c D q:=λD q h=>.inl h;have PL:plain te.ks=ao->∀f,oF w v f te.ks.length (λ_ _ u x=>Sc u x)->(∀y∈f,y.map CV.kd=te.ks)->∃D d M,([]:aE (aN×e9))=kD D/\App P w u v z te.ks.length f.length d/\rT E σ w c te b ao f D d M:=by
  intro hp f hs kJ;obtain⟨d,n1,n2⟩:=si (P:=P) (z:=z) S C hs kJ (λi j u x r=>by rw[r.1];exact JG);refine⟨[],d,λ_ _=>⟨ao,0,0,0,0,0⟩,rfl,n1,kJ,λ_ i y j x O A=> ?_,λh=>(by cases h),λ_ i j _ k=>(by cases k),λ_ i j _ _ _ _ k=>(by cases k),λn x k=>(by cases k)⟩
  obtain⟨u,S,r⟩:=n2 i y j x O A;exact⟨_,S,uZ (im hp (kJ y (aU O)) A) r⟩
 have U:plain te.ks=ao->∀f,(mG E x).val σ=ai (el,f)->∃D d M,([]:aE (aN×e9))=kD D/\App P w u v z te.ks.length f.length d/\rT E σ w c te b ao f D d M:=by intro hp f r;obtain⟨q1,q2,_⟩:=A1 t A r V hp;exact PL hp f q1 q2
 have SH:∀f,oF w v f te.ks.length (λ_ _ u x=>Holds E w c.K u x)->(∀y∈f,y.map CV.kd=te.ks)->∃D d M,([]:aE (aN×e9))=kD D/\App P w u v z te.ks.length f.length d/\rT E σ w c te b aq f D d M:=by
  intro f hs kJ;obtain⟨d,n1,n2⟩:=si (P:=P) (z:=z) S C hs kJ (λi j u x r=>r.one);refine⟨[],d,λ_ _=>⟨ao,0,0,0,0,0⟩,rfl,n1,kJ,λh=>(by cases h),λ_ i y j x O A=> ?_,λh=>(by cases h),λh=>(by cases h),λn x k=>(by cases k)⟩
  obtain⟨u,S,r⟩:=n2 i y j x O A;exact⟨_,S,r.frame (λ_ _=>rfl) (ho [])⟩
 have hf:∀f,Holds E w c.K v (.l el f)->∃D d M,([]:aE (aN×e9))=kD D/\App P w u v z te.ks.length f.length d/\rT E σ w c te b aq f D d M:=by intro f Y;obtain⟨q1,q2⟩:=Au V Y;exact SH f q1 q2
 have HP:∀f,Holds E w c.K v (.l el f)->(mG E x).val σ=ai (el,f)->∃D d M,([]:aE (aN×e9))=kD D/\App P w u v z te.ks.length f.length d/\rT E σ w c te b (plain te.ks) f D d M:=by
  intro f Y r;cases hp:plain te.ks with
  |true=>exact U hp f r
  |false=>exact hf f Y
 have FZ:∀n xs lo hi,σ (dj n)=.o (.row el ao xs)->n∉b->xQ (c.P n) lo hi v->∃D d M,[(dj n,e9.o (.f_ el xs))]=kD D/\App P w u v z te.ks.length (ez xs lo hi).length d/\rT E σ w c te b aq (ez xs lo hi) D d M:=by
  intro n xs lo hi hg N B;obtain⟨⟨t2,q1,q2,q3⟩,q4,q5⟩:=t.obj n _ hg;obtain rfl:te=t2:=aL (V.symm.trans q1);obtain⟨t3,r1,r2,r3⟩:=yx t hg B;obtain rfl:te=t3:=aL (V.symm.trans r1);let D:aE (aN×Obj):=[(n,.f_ el xs)]
  have hz:∀i j,gn xs i j->(c.G n i j).nil=aq->K1 σ c D (c.G n i j).blk:=λi j Y k=>.inr ⟨n,el,xs,_,a7.2 rfl,hg,.inr ⟨rfl,i,j,Y,k,rfl⟩⟩;have ha:jq w (c.P n) xs (λ_ _ u x=>Holds E w (K1 σ c D) u x):=q4.frame (λ_=>rfl) (λi j y x u O A r=>by rw[bm rfl]at r;exact yP r (λhl k=>hz i j ⟨y,x,O,A,hl⟩ k));have hc:oF w v (ez xs lo hi) te.ks.length (λ_ _ u x=>Holds E w (K1 σ c D) u x):=by have:=LR ha B;rwa[q2]at this
  obtain⟨d,n1,n2⟩:=si (P:=P) (z:=z) S C hc r2 (λi j u x r=>r.one);refine⟨D,d,λ_ _=>⟨ao,0,0,0,0,0⟩,rfl,n1,r2,λh=>(by cases h),λ_=>n2,λh=>(by cases h),λh=>(by cases h),λm y hm=> ?_⟩
  rw[a7]at hm;cases hm;exact⟨N,⟨_,hg⟩,.inr ⟨rfl,el,xs,rfl,qu V q2 q3 ha (λk=>.inr ⟨n,el,xs,_,a7.2 rfl,hg,.inl ⟨k,rfl⟩⟩),q4.n,te,V,q2⟩⟩
 cases x with
 |s s=>
  obtain⟨h1,h⟩:=cZ h;obtain⟨rfl,rfl,rfl⟩:=tq h;have hk:te.ks=[.i .u8]:=by
   unfold u8s at h1;split at h1
   ·assumption
   ·cases h1
  have B:v=.string s:=A.1;subst B;refine⟨[],(s.data.map λb=>Value.int .u8 b.toNat).toList,λ_ _=>⟨ao,0,0,0,0,0⟩,rfl,⟨.inl ⟨S,?_,?_,?_⟩,?_,?_⟩,by rw[hk];exact Jx s,λ_ i y j x O A=> ?_,λh=>(by cases h),λ_ i j _ k=>(by cases k),λ_ i j _ _ _ _ k=>(by cases k),λn x k=>(by cases k)⟩
  ·simp[pR,mf]
  ·simp[fu,mf];apply tw;simp
  ·simp[fu,mf];apply tw;simp
  ·rw[hk,mf];simp
  ·intro v B;have B:∃b,b∈s.data/\Value.int a8 (b.toNat:az)=v:=by simpa using B
   obtain⟨b,_,rfl⟩:=B;rfl
  ·obtain⟨rfl,b,hb,rfl⟩:=Hw O A;refine⟨.int .u8 b.toNat,?_,rfl,trivial⟩
   rw[hk];simp[hb]
 |nl=>obtain⟨rfl,rfl,rfl⟩:=tq h;have B:v=.slice ay 0 0:=A;subst B;refine⟨[],[],λ_ _=>⟨ao,0,0,0,0,0⟩,rfl,⟨.inl ⟨S,by simp[pR],run_firstCells_none _ _ _ _ _,run_firstCells_none _ _ _ _ _⟩,by simp,λv B=>(by cases B)⟩,λy O=>(by cases O),λ_ i y j x O=>(by simp at O),λh=>(by cases h),λ_ i j _ k=>(by cases k),λ_ i j _ _ _ _ k=>(by cases k),λn x k=>(by cases k)⟩
 |sh X xs=>obtain⟨h1,Q⟩:=cZ h;have:=aX h1;subst this;have h:=Q;obtain⟨rfl,rfl,rfl⟩:=tq h;exact HP xs A rfl
 |own n=>
  obtain⟨ob,hg,h⟩:=bu h;have hg:=dF hg;have B:v=kX (c.P n):=A;cases ob with
  |row X ex xs=>
   obtain⟨h1,Q⟩:=cZ h;have:=aX h1;subst this;have h:=Q;have h5:(mG E (.own n)).val σ=ai (el,xs):=by simp[mG,jP,hg]
   have h7:xQ (c.P n) 0 xs.length v:=by rw[B];exact wD t hg
   cases hp:plain te.ks with
   |true=>rw[xS (by rw[hp];rfl)]at h;obtain⟨rfl,rfl,rfl⟩:=tq h;rw[hp];exact U hp xs h5
   |false=>
    cases ex with
    |false=>rw[xS (by simp)]at h;obtain⟨rfl,rfl,rfl⟩:=tq h;rw[hp];obtain⟨t3,r1,r2,r3⟩:=yx t hg h7;obtain rfl:te=t3:=aL (V.symm.trans r1);rw[rI]at r2 r3;exact SH xs (r3.imp λi y j x u _ _ r=>by simpa using r) r2
    |true=>
     rw[EM (by rw[hp];rfl)]at h;cases hm:mJ n b with
     |true=>rw[hm]at h;simp at h
     |false=>
      have N:=qM hm;rw[hm]at h;cases R:E.tk he with
      |true=>rw[R]at h;obtain⟨rfl,rfl,rfl⟩:=tq h;have:=FZ n xs 0 xs.length hg N h7;rwa[rI]at this
      |false=>
       rw[R]at h;obtain⟨rfl,rfl,rfl⟩:=tq h;obtain⟨t3,r1,r2,r3⟩:=yx t hg h7;obtain rfl:te=t3:=aL (V.symm.trans r1);rw[rI]at r2 r3;have x0:=r3.imp (R':=λi j u x=>XC E w (c.G n) i j u x) (λi y j x u _ _ r=>by rw[bm rfl,bV]at r;exact r);obtain⟨d,n1,n2⟩:=si (P:=P) (z:=z) S C x0 r2 (λi j u x r=>r.one);refine⟨[(n,.dead)],d,c.G n,rfl,n1,r2,λ_=>n2,λh=>(by cases h),λ_ i j Y k=>⟨n,_,a7.2 rfl,hg,.inr ⟨rfl,i,j,Y,k,rfl⟩⟩,λ_=>((t.obj n _ hg).mK rfl).one,λm y hm=> ?_⟩
       rw[a7]at hm;cases hm;exact⟨N,⟨_,hg⟩,.inl rfl⟩
  |f_ X xs=>obtain⟨h1,Q⟩:=cZ h;have:=aX h1;subst this;have h:=Q;obtain⟨rfl,rfl,rfl⟩:=tq h;refine HP xs ?_ (by simp[mG,jP,hg]);rw[B];exact(t.obj n _ hg).1
  |_=>simp at h
 |vw n lo hi=>
  obtain⟨ob,hg,h⟩:=bu h;have hg:=dF hg;cases ob with
  |row X ex xs=>
   obtain⟨h1,Q⟩:=cZ h;have:=aX h1;subst this;have h:=Q;have h5:(mG E (.vw n lo hi)).val σ=ai (el,ez xs lo hi):=by simp[mG,jP,hg]
   cases hp:plain te.ks with
   |true=>rw[xS (by rw[hp];rfl)]at h;obtain⟨rfl,rfl,rfl⟩:=tq h;rw[hp];exact U hp _ h5
   |false=>
    cases ex with
    |false=>rw[xS (by simp)]at h;obtain⟨rfl,rfl,rfl⟩:=tq h;rw[hp];obtain⟨t3,r1,r2,r3⟩:=yx t hg A;obtain rfl:te=t3:=aL (V.symm.trans r1);exact SH _ (r3.imp λi y j x u _ _ r=>by simpa using r) r2
    |true=>
     rw[EM (by rw[hp];rfl)]at h;cases hm:mJ n b with
     |true=>rw[hm]at h;simp at h
     |false=>
      have N:=qM hm;rw[hm]at h;cases R:E.tk he with
      |true=>rw[R]at h;obtain⟨rfl,rfl,rfl⟩:=tq h;exact FZ n xs lo hi hg N A
      |false=>rw[R]at h;simp at h
  |f_ X xs=>obtain⟨h1,Q⟩:=cZ h;have:=aX h1;subst this;have h:=Q;obtain⟨rfl,rfl,rfl⟩:=tq h;exact HP _ (pG t hg A) (by simp[mG,jP,hg])
  |_=>simp at h
 |mK n i j=>obtain⟨h1,h⟩:=cZ h;obtain⟨⟨X,xs⟩,h2,h⟩:=bu h;obtain⟨h3,Q⟩:=cZ h;have:=aX h3;subst this;have h:=Q;obtain⟨rfl,rfl,rfl⟩:=tq h;exact U h1 xs h2
 |_=>simp[Tk]at h
def PJ(hE:eB P E)(N:Ok E σ w c)(U:fw E σ a w c)(hd:∀d,o.dst=ai d->d<a.tmps.size)(ho:o.op=.call cl)(hb:cl.callee=.builtin .append)(h:(mg E nm o).val σ=ai e)(hc:e.cond=ao):hN P E σ a w c o e.ws:=by
 simp only[mg,ho,hb]at h;split at h
 ·rename_i s x t u m O;obtain⟨ku,h1,h⟩:=bu h;obtain⟨sv,h2,h⟩:=bu h;obtain⟨xv,h3,h⟩:=bu h;obtain⟨es,_⟩:=i7 U h2;obtain⟨ex,_⟩:=i7 U h3;have m:=DE m;have O:=DE O;have V:∀{r w'},(iu #[t,u] o.type #[a.eval s,a.eval x]).run P w=.ok r w'->(execOp a.eval o).run P w=.ok (.value r) w':=by intro r w' hr;obtain⟨cs,x3⟩:=mT (P:=P) (a:=a) (w:=w) ho hb;rw[x3,m,O];simp only[builtin,DZ,fD,wb];exact iZ hr
  have hh:((∃e',P.underlying u=ai (.slice e'))\/P.underlying u=ai .string)->∀b v wl,(GQ E nm t sv xv).val σ=ai (b,v,wl)->b=ao->hN P E σ a w c o (wl++dw o (.v aq [v])):=by
   intro hu b v wl h B;obtain⟨ti,k1,h⟩:=bu h;have k1:=dZ k1;split at h
   ·rename_i el Y h7;obtain⟨te,K,h⟩:=bu h;have K:=dZ K;obtain⟨M,h⟩:=cZ h;obtain⟨⟨x2,xs,bl⟩,k3,h⟩:=bu h;obtain⟨⟨xa,ys,w2⟩,k4,h⟩:=bu h;obtain⟨_,k5,h⟩:=bu h;obtain⟨rfl,rfl,rfl⟩:=tq h;obtain⟨hf,h9⟩:=kW k5;have ht:=pD hE k1 Y h7;obtain⟨x8,hi,ha,h5,A,hz⟩:=hE.info el te K;obtain⟨z,he,Q,_⟩:=hz M;obtain⟨p,g,f⟩:=CE N K es k3;obtain⟨D,x9,gx,rfl,hA,hM⟩:=Tl (P:=P) (z:=z.cells) hE N K A hu ex k4;simp only[b_,aM,ba]at B;obtain⟨p',w',hr,X⟩:=uy (P:=P) (w:=w) (ty:=o.type) (p:=p) (x:=a.eval x) ht hi he (by rw[Q,f.sz];simp) (by rw[ha,f.sz]) (λC=>by rw[f.at_.n,(f.at_.nil C).1];rfl) (λC=>by obtain⟨S,m1,m2,m3,m4,_⟩:=f.at_.mem C;exact⟨S,m1,m2,m3,m4⟩) (by rw[f.sz];exact hA) (by rw[f.at_.n,h5];exact B.1) (by rw[f.at_.n];exact B.2);rw[<-f.v]at hr;exact E_ N U hd K hf h9 f hM X (V hr)
   ·simp at h
  have x1:∀k,P.underlying u=ai (.int k)->∀(kn:tL) (n:az),a.eval x=.int kn n->∀b v wl,(Vi E nm t sv n).val σ=ai (b,v,wl)->b=ao->hN P E σ a w c o (wl++dw o (.v aq [v])):=by
   intro k hu kn n x7 b v wl h B;obtain⟨ti,k1,h⟩:=bu h;have k1:=dZ k1;split at h
   ·rename_i el Y h7;obtain⟨te,K,h⟩:=bu h;have K:=dZ K;obtain⟨hj,h⟩:=cZ h;simp only[aM]at hj;obtain⟨M,x4⟩:=hj;obtain⟨⟨x2,xs,bl⟩,k3,h⟩:=bu h;obtain⟨_,k5,h⟩:=bu h;obtain⟨rfl,rfl,rfl⟩:=tq h;obtain⟨hf,h9⟩:=kW k5;have ht:=pD hE k1 Y h7;obtain⟨x8,hi,ha,h5,A,hz⟩:=hE.info el te K;obtain⟨z,he,Q,_⟩:=hz M;obtain⟨p,g,f⟩:=CE N K es k3;simp only[b_,aM,ba]at B;obtain⟨⟨c0,c1,c2⟩,c3⟩:=B;have R:(aR te.ks n.toNat).length=n.toNat:=by simp[aR]
    have x0:fS z.cells n.toNat=madeCells (te.ks.map iM).toArray (n.toNat*te.ks.length):=by rw[Q];show madeCells _ (n.toNat*(te.ks.map iM).toArray.size)=_;simp
    have hA:App P w u (a.eval x) z.cells te.ks.length (aR te.ks n.toNat).length (fS z.cells n.toNat).toList:=by
     refine⟨.inr ⟨⟨k,hu⟩,⟨kn,?_⟩,?_⟩,?_,λv hv=> ?_⟩
     ·rw[x7,R,Int.toNat_of_nonneg c0]
     ·rw[R]
     ·rw[R,dM,size_zeroCells,Q];simp
     ·rw[x0]at hv;obtain⟨q,hq⟩:=b5 hv;have x6:q<n.toNat*te.ks.length:=by have:=(aW.1 hq).1;simpa [size_madeCells]using this
      have h1:q/te.ks.length<n.toNat:=by rw[yS A];exact x6
      have h2:q%te.ks.length<te.ks.length:=F0 _ A;have:=lW (n:=n.toNat) h1 (show te.ks[q%te.ks.length]? =ai te.ks[q%te.ks.length]by simp[h2]);rw[show q/te.ks.length*te.ks.length+q%te.ks.length=q by have:=JV q te.ks.length;rw[Ii]at this;exact this]at this;rw[da,this]at hq;cases hq;cases te.ks[q%te.ks.length]<;>rfl
    have hM:rT E σ w c te bl ao (aR te.ks n.toNat) [] (fS z.cells n.toNat).toList (Lf E te.ks):=by
     refine⟨yQ M _,λ_ i y j x hy hx=> ?_,λh=>(by cases h),λ_ i j _ C=>(by cases C),λ_ i j _ _ _ _ C=>(by cases C),λn x C=>(by cases C)⟩
     obtain⟨x5,k,hk,rfl⟩:=u9 hy hx;refine⟨iM k,?_,OC x4 M hk⟩
     rw[x0,da];exact lW x5 hk
    obtain⟨p',w',hr,X⟩:=uy (P:=P) (w:=w) (ty:=o.type) (p:=p) (x:=a.eval x) ht hi he (by rw[Q,f.sz];simp) (by rw[ha,f.sz]) (λC=>by rw[f.at_.n,(f.at_.nil C).1];rfl) (λC=>by obtain⟨S,m1,m2,m3,m4,_⟩:=f.at_.mem C;exact⟨S,m1,m2,m3,m4⟩) (by rw[f.sz];exact hA) (by rw[f.at_.n,h5,R];exact c1) (by rw[f.at_.n,R];exact c2);rw[<-f.v]at hr;have:=E_ N U hd K hf h9 f hM X (V hr);rw[gE]at this;exact this
   ·simp at h
  cases ku with
  |i k=>
   cases xv with
   |i k' n=>obtain⟨⟨b,v,wl⟩,h4,h⟩:=bu h;obtain rfl:=aL h;exact x1 k (z8 hE h1) k' n ex b v wl h4 hc
   |_=>simp at h
  |l e'=>obtain⟨⟨b,v,wl⟩,h4,h⟩:=bu h;obtain rfl:=aL h;exact hh (.inl ⟨e',kY hE h1⟩) b v wl h4 hc
  |s=>obtain⟨⟨b,v,wl⟩,h4,h⟩:=bu h;obtain rfl:=aL h;exact hh (.inr (lz hE h1)) b v wl h4 hc
  |b=>simp at h
  |o=>simp at h
 ·simp at h
end
end Go.FG
namespace Go.FG
section
variable {P:dx} {E:gy} {σ:St} {a:Act} {w:cN} {c:gQ} {o:ia} {nm:aN} {e:tF}
def Wl:∀{xs:aE AV} {cs:aE CV},(Sh.adD xs).val σ=ai cs->cs.length=xs.length/\∀(d:eN bS),gh E w c d xs->∀(q:aN) (x:CV),cs[q]? =ai x->∃u:bS,d[q]? =ai u/\Holds E w c.K u x:=by
 intro xs;induction xs with
 |nil=>intro cs h;obtain rfl:=aL h;exact⟨rfl,λ_ _ q x hq=>by simp at hq⟩
 |cons a xs ih=>
  intro cs h;obtain⟨l,h1,h⟩:=bu h;obtain⟨M,N⟩:=ih h1;have f:∀r,(∀u,eI E w c a u->Holds E w c.K u r)->cs=r::l->cs.length=(a::xs).length/\∀(d:eN bS),gh E w c d (a::xs)->∀(q:aN) (x:CV),cs[q]? =ai x->∃u:bS,d[q]? =ai u/\Holds E w c.K u x:=by
   rintro r t rfl;refine⟨by simp[M],λd y q x hq=> ?_⟩
   cases q with
   |zero=>cases hq;obtain⟨u,m,A⟩:=y.2 0 a rfl;exact⟨u,m,t u A⟩
   |succ q=>
    have z:gh E w c (d.extract 1 d.size) xs:=by
     refine⟨by simp;have:=y.1;simp at this;omega,λj b C=> ?_⟩
     obtain⟨u,m,B⟩:=y.2 (j+1) b C;refine⟨u,?_,B⟩
     have:=(dD.1 m).1;rw[et,bm (by omega),i_];exact m
    obtain⟨u,r1,r2⟩:=N _ z q x hq;refine⟨u,?_,r2⟩
    rw[et]at r1;split at r1
    ·rw[i_];exact r1
    ·cases r1
  cases a with
  |i k n=>exact f (.i k n) (λu m=>by rw[show u=_ from m];exact .i _ _) (aL h).symm
  |b x=>exact f (.b x) (λu m=>by rw[show u=_ from m];exact .b _) (aL h).symm
  |s x=>exact f (.s x) (λu m=>by rw[show u=_ from m.1];exact .s _ m.2) (aL h).symm
  |sh e xs=>exact f (.l e xs) (λu m=>m) (aL h).symm
  |_=>simp at h
def ags(E:gy)(σ:St)(w:cN)(c:gQ)(D:aE (aN×Obj))(cs:aE CV)(v:bS):Prop:=
 ∃n,v=.pointer (ai (ad (c.P n).blk 0))/\(((n,Obj.ov cs)∈D)\/σ (dj n)=.o (.ov cs))
def Wm(k:Ok E σ w c)(r:fw E σ a w c):∀{xs:aE fB} {l:aE (aE CV)} {ws:aE (aN×e9)},(Sh xs).val σ=ai (l,ws)->l.length=xs.length/\∃D,ws=kD D/\
  (∀n x,(n,x)∈D->∃cs M,x=.ov cs/\σ (dj n)=.o (.box M)/\∀(q:aN) (y:CV),cs[q]? =ai y->∃u:bS,w.cell? (ad (c.P n).blk q)=ai u/\Holds E w c.K u y)/\
  ∀(q:aN) (cs:aE CV),l[q]? =ai cs->∃x,xs[q]? =ai x/\ags E σ w c D cs (a.eval x):=by
 intro xs;induction xs with
 |nil=>intro l ws h;obtain⟨rfl,rfl⟩:=bX (aL h);exact⟨rfl,[],rfl,λn x h=>(by cases h),λq cs h=>by simp at h⟩
 |cons x xs ih=>
  intro l ws h;obtain⟨v,h1,h⟩:=bu h;have i:=(i7 r h1).1;split at h
  ·rename_i n;obtain⟨ob,hg,h⟩:=bu h;have hg:=dF hg;have i:a.eval x=.pointer (ai (ad (c.P n).blk 0)):=i;cases ob with
   |box M=>
    obtain⟨cs,h2,h⟩:=bu h;obtain⟨⟨V,C⟩,h3,h⟩:=bu h;obtain⟨rfl,rfl⟩:=bX (aL h);obtain⟨z,D,rfl,A,B⟩:=ih h3;obtain⟨_,N⟩:=Wl (E:=E) (w:=w) (c:=c) h2;obtain⟨f,R,s,j⟩:=k.obj n _ hg;refine⟨by simp[z],(n,.ov cs)::D,rfl,λm y hm=> ?_,λq d hq=> ?_⟩
    ·rcases cF.1 hm with hm|hm
     ·cases hm;refine⟨cs,M,rfl,hg,λq y hq=> ?_⟩
      obtain⟨u,U,S⟩:=N f ⟨s,j⟩ q y hq;exact⟨u,(R.cell q).trans U,S⟩
     ·exact A m y hm
    ·cases q with
     |zero=>cases hq;exact⟨x,rfl,n,i,.inl (cQ ..)⟩
     |succ q=>obtain⟨X,t,m,O,Q⟩:=B q d hq;exact⟨X,t,m,O,Q.imp (cK _) id⟩
   |ov cs=>
    obtain⟨⟨V,C⟩,h3,h⟩:=bu h;obtain⟨rfl,rfl⟩:=bX (aL h);obtain⟨z,D,rfl,A,B⟩:=ih h3;refine⟨by simp[z],D,rfl,A,λq d hq=> ?_⟩
    cases q with
    |zero=>cases hq;exact⟨x,rfl,n,i,.inr hg⟩
    |succ q=>exact B q d hq
   |_=>simp at h
  ·simp at h
def Jm(j:Ok E σ w c)(z:fw E σ a w c)(hd:∀d,o.dst=ai d->d<a.tmps.size)(N:o.op=.makeFunc fn first i)(h:(mg E nm o).val σ=ai e):hN P E σ a w c o e.ws:=by
 cases fn with
 |func f=>
  simp only[mg,N]at h;obtain⟨h1,h⟩:=cZ h;obtain⟨⟨l,ws⟩,h2,h⟩:=bu h;obtain rfl:=aL h;obtain⟨hl,D,rfl,r,y⟩:=Wm j z h2;have M:first= #[]:=by simpa using h1
  let B:aN->Prop:=λb=>c.K b\/∃n x,(n,x)∈D/\b=(c.P n).blk;let c':gQ:=⟨c.P,c.G,B⟩
  have k:∀b,c.K b->B b:=λb h=>.inl h;have own:∀n x,(n,x)∈D->kh (u_ D) σ c (c.P n).blk:=λn x hm=>by obtain⟨cs,A,_,hg,_⟩:=r n x hm;exact⟨n,_,⟨x,hm⟩,hg,rfl⟩
  have fb:∀n cs,(n,Obj.ov cs)∈D->FB E w B (c.P n).blk cs:=λn cs hm=>by obtain⟨R,A,t,hg,Q⟩:=r n _ hm;cases t;exact⟨.inr ⟨n,_,hm,rfl⟩,λq x hq=>by obtain⟨u,V,S⟩:=Q q x hq;exact⟨u,V,S.frame (λ_ _=>rfl) k⟩⟩
  refine KW j z hd (c':=c') (w':=w) (v:=.func (.func f) #[] (i.map a.eval)) (λm _=>⟨rfl,rfl⟩) ?_ ?_ ?_ ?_ k ?_ ?_ (λb _ _=>rfl) (bW _) rfl rfl rfl ?_ ?_ ?_
  ·intro n x hm;obtain⟨cs,A,rfl,hg,Q⟩:=r n x hm;exact fb n cs hm
  ·intro n x b hm C;obtain⟨cs,A,rfl,_⟩:=r n x hm;exact C.elim
  ·intro n x Y x' b hm _ C;obtain⟨cs,A,rfl,_⟩:=r n x hm;exact C.elim
  ·intro n xs hm;obtain⟨cs,A,t,_⟩:=r n _ hm;cases t
  ·rintro b (h|⟨n,x,hm,rfl⟩)
   ·exact .inl h
   ·exact .inr (.inl (own n x hm))
  ·rintro b (h|⟨n,x,hm,rfl⟩)
   ·exact j.lt b h
   ·exact Own.lt j (own n x hm).own
  ·refine⟨i.map a.eval,rfl,by simp[hl],λq cs hq=> ?_⟩
   obtain⟨x,t,n,X,O⟩:=y q cs hq;rw[da]at t;refine⟨(c.P n).blk,by rw[OJ,t,<-X];rfl,?_⟩
   rcases O with hm|hg
   ·exact fb n cs hm
   ·exact FB.frame (j.obj n _ hg) (λ_ _=>rfl) k
  ·intro n U;simp[cX,bP]at U
  ·unfold execOp;rw[N,M];refine iZ (s:=Vm (.func f) ((#[]:eN fB).map a.eval) (i.map a.eval)) ?_;simp[Vm]
 |_=>simp[mg,N]at h
end
end Go.FG
namespace Go.FG
def oe:∀{l:aE (aN×e9)} {k:aN} {c:e9},eW l k=c->c≠ .jW->(k,c)∈l:=by
 intro l;induction l with
 |nil=>intro k c h i;exact cO h.symm i
 |cons d l ih=>
  obtain⟨k',c'⟩:=d;intro k c h i;unfold eW at h;cases f:bN k k' with
  |true=>rw[f]at h;have:=aX f;subst this;have:c'=c:=h;subst this;exact cQ ..
  |false=>rw[f]at h;exact cK _ (ih h i)
def sO:∀{l:aE (aN×e9)} {k:aN} {c:e9},(k,c)∈l->(∀d∈l,d.2≠ .jW)->eW l k≠ .jW:=by
 intro l;induction l with
 |nil=>intro k c h;cases h
 |cons d l ih=>
  obtain⟨k',c'⟩:=d;intro k c h f;unfold eW;cases i:bN k k' with
  |true=>exact f _ (cQ ..)
  |false=>
   rcases cF.1 h with h|h
   ·cases h;simp at i
   ·exact ih h (λd hd=>f d (cK _ hd))
def PD:(k,c)∈Fb nm a↔∃e ex xs,a=.ow e ex xs/\k=dj nm/\c=.o (.row e ex xs):=by
 cases a with
 |ow e ex xs=>simp only[Fb,a7,jg];exact⟨λ⟨h1,h2⟩=>⟨e,ex,xs,rfl,h1,h2⟩,λ⟨i,d,f,h,h1,h2⟩=>by cases h;exact⟨h1,h2⟩⟩
 |_=>simp[Fb]
def C3:∀{xs:aE AA} {nm:aN} {k:aN} {c:e9},(k,c)∈ug nm xs↔∃j e ex d,xs[j]? =ai (.ow e ex d)/\k=dj (nm+j)/\c=.o (.row e ex d):=by
 intro xs;induction xs with
 |nil=>intro nm k c;simp[ug]
 |cons a xs ih=>
  intro nm k c;simp only[ug,a_,PD,ih];constructor
  ·rintro (⟨e,ex,d,rfl,h1,h2⟩|⟨j,e,ex,d,h0,h1,h2⟩)
   ·exact⟨0,e,ex,d,rfl,h1,h2⟩
   ·exact⟨j+1,e,ex,d,h0,by rw[h1];congr 1;omega,h2⟩
  ·rintro ⟨j,e,ex,d,h0,h1,h2⟩;cases j with
   |zero=>cases h0;exact .inl ⟨e,ex,d,rfl,h1,h2⟩
   |succ j=>exact .inr ⟨j,e,ex,d,h0,by rw[h1];congr 1;omega,h2⟩
def iA:(k,c)∈vL p a↔(∃xs,a=.pt xs/\k=dj (dU p 900)/\c=.o (.box (gC (dU p 0) xs)))\/∃xs j e ex f,((∃g,a=.v g xs)\/a=.pt xs)/\xs[j]? =ai (.ow e ex f)/\k=dj (dU p j)/\c=.o (.row e ex f):=by
 have r:∀j,dU p 0+j=dU p j:=λj=>by unfold dU;omega
 cases a with
 |v g xs=>
  simp only[vL,C3,r];constructor
  ·rintro ⟨j,e,ex,f,h⟩;exact .inr ⟨xs,j,e,ex,f,.inl ⟨g,rfl⟩,h⟩
  ·rintro (⟨d,h,_⟩|⟨d,j,e,ex,f,h,i⟩)
   ·cases h
   ·rcases h with ⟨m,h⟩|h<;>cases h;exact⟨j,e,ex,f,i⟩
 |pt xs=>
  simp only[vL,cF,C3,r,jg];constructor
  ·rintro (⟨h1,h2⟩|⟨j,e,ex,f,h⟩)
   ·exact .inl ⟨xs,rfl,h1,h2⟩
   ·exact .inr ⟨xs,j,e,ex,f,.inr rfl,h⟩
  ·rintro (⟨d,h,h1,h2⟩|⟨d,j,e,ex,f,h,i⟩)
   ·cases h;exact .inl ⟨h1,h2⟩
   ·rcases h with ⟨m,h⟩|h<;>cases h;exact .inr ⟨j,e,ex,f,i⟩
 |fb xs=>
  simp only[vL,lQ,false_iff];rintro (⟨d,h,_⟩|⟨d,j,e,ex,f,h,i⟩)
  ·cases h
  ·rcases h with ⟨m,h⟩|h<;>cases h
def lX:∀{l:aE gD} {q:aN} {k:aN} {c:e9},(k,c)∈KZ q l↔∃p a,l[p]? =ai a/\((k=qP (q+p)/\c=.v (sW (q+p) a))\/(k,c)∈vL (q+p) a):=by
 intro l;induction l with
 |nil=>intro q k c;simp[KZ]
 |cons a l ih=>
  intro q k c;simp only[KZ,cF,a_,ih,jg];constructor
  ·rintro ((⟨h1,h2⟩|h)|⟨p,b,h0,h⟩)
   ·exact⟨0,a,rfl,.inl ⟨h1,h2⟩⟩
   ·exact⟨0,a,rfl,.inr h⟩
   ·exact⟨p+1,b,h0,by rw[show q+(p+1)=q+1+p by omega];exact h⟩
  ·rintro ⟨p,b,h0,h⟩;cases p with
   |zero=>
    cases h0;rcases h with ⟨h1,h2⟩|h
    ·exact .inl (.inl ⟨h1,h2⟩)
    ·exact .inl (.inr h)
   |succ p=>exact .inr (⟨p,b,h0,by rw[show q+1+p=q+(p+1)by omega];exact h⟩)
def I':∀d∈KZ q l,d.2≠ .jW:=by
 rintro ⟨k,c⟩ h;obtain⟨p,a,_,h⟩:=lX.1 h;rcases h with ⟨_,h⟩|h
 ·rw[h];simp
 ·rcases iA.1 h with ⟨_,_,_,h⟩|⟨_,_,_,_,_,_,_,_,h⟩<;>rw[h]<;>simp
def B6(h:inj args (dj m)=.o ob):∃p a,args[p]? =ai a/\((∃xs,a=.pt xs/\m=dU p 900/\ob=.box (gC (dU p 0) xs))\/∃xs j e ex d,((∃g,a=.v g xs)\/a=.pt xs)/\xs[j]? =ai (.ow e ex d)/\m=dU p j/\ob=.row e ex d):=by
 obtain⟨p,a,h0,h⟩:=lX.1 (oe h (by simp));rw[bV]at h;refine⟨p,a,h0,?_⟩
 rcases h with ⟨h,_⟩|h
 ·exact cO h (mq _ _)
 ·rcases iA.1 h with ⟨xs,h1,h2,h3⟩|⟨xs,j,e,ex,d,h1,h2,h3,h4⟩
  ·cases h3;exact .inl ⟨xs,h1,j9 h2,rfl⟩
  ·cases h4;exact .inr ⟨xs,j,e,ex,d,h1,h2,j9 h3,rfl⟩
def Jb:(∃a,args[n]? =ai a/\slot (inj args) n=sW n a)\/slot (inj args) n=.un:=by
 unfold slot;cases h:inj args (qP n)with
 |v x=>
  obtain⟨p,a,h0,h⟩:=lX.1 (oe h (by simp));rw[bV]at h;rcases h with ⟨h1,h2⟩|h
  ·have:=HG h1;subst this;cases h2;exact .inl ⟨a,h0,rfl⟩
  ·rcases iA.1 h with ⟨_,_,h,_⟩|⟨_,_,_,_,_,_,_,h,_⟩<;>exact cO h (sM _ _)
 |o=>exact .inr rfl
 |jW=>exact .inr rfl
def rj(h:args[p]? =ai a):(∀xs,a=.pt xs->inj args (dj (dU p 900))≠ .jW)/\∀xs j e ex f,((∃g,a=.v g xs)\/a=.pt xs)->xs[j]? =ai (.ow e ex f)->inj args (dj (dU p j))≠ .jW:=by
 constructor
 ·intro xs d;exact sO (lX.2 ⟨p,a,h,.inr (iA.2 (.inl ⟨xs,d,by rw[bV],rfl⟩))⟩) I'
 ·intro xs j e ex f d i;exact sO (lX.2 ⟨p,a,h,.inr (iA.2 (.inr ⟨xs,j,e,ex,f,d,i,by rw[bV],rfl⟩))⟩) I'
def iD:∀{xs:aE AA} {nm j:aN},(gC nm xs)[j]? =(xs[j]?).map (lF (nm+j)):=by
 intro xs;induction xs with
 |nil=>intro nm j;simp[gC]
 |cons a xs ih=>
  intro nm j;cases j with
  |zero=>rfl
  |succ j=>simp only[gC,dQ,ih];congr 2;omega
def iR:∀{xs:aE AA} {nm:aN},(gC nm xs).length=xs.length:=by
 intro xs;induction xs with
 |nil=>intro nm;rfl
 |cons a xs ih=>intro nm;simp[gC,ih]
def um(h:n∈bP (lF nm a)):n=nm/\∃e ex d,a=.ow e ex d:=by cases a<;>simp[lF,bP]at h;exact⟨h,_,_,_,rfl⟩
def Ja(n:aN):mN (inj args) (slot (inj args) n):=by
 rcases Jb (args:=args) (n:=n)with ⟨a,h0,h⟩|h
 ·rw[h];intro m hm;have cells:∀xs,((∃g,a=.v g xs)\/a=.pt xs)->m∈(gC (dU n 0) xs).flatMap bP->inj args (dj m)≠ .jW:=by
   intro xs r hm;obtain⟨v,k,hm⟩:=bL.1 hm;obtain⟨j,d⟩:=b5 k;rw[iD]at d;cases f:xs[j]? with
   |none=>rw[f]at d;cases d
   |some y=>
    rw[f]at d;cases d;obtain⟨rfl,e,ex,s,rfl⟩:=um hm;have:=(rj h0).2 xs j e ex s r f;have i:dU n 0+j=dU n j:=by unfold dU;omega
    rw[i];exact this
  cases a with
  |v g xs=>exact cells xs (.inl ⟨g,rfl⟩) hm
  |pt xs=>
   have:m=dU n 900:=by simpa [sW,cX,bP]using hm
   rw[this];exact(rj h0).1 xs rfl
  |fb xs=>simp[sW,cX,bP]at hm
 ·rw[h];intro m hm;simp[cX]at hm
def Hb(h:inj args (dj nm)=.o (.box xs)):∀a∈xs,jm (inj args) a:=by
 obtain⟨p,a,h0,r⟩:=B6 h;rcases r with ⟨k,rfl,_,f⟩|⟨_,_,_,_,_,_,_,_,f⟩
 ·cases f;intro v t m hm;obtain⟨j,d⟩:=b5 t;rw[iD]at d;cases i:k[j]? with
  |none=>rw[i]at d;cases d
  |some y=>
   rw[i]at d;cases d;obtain⟨rfl,e,ex,zs,rfl⟩:=um hm;have:=(rj h0).2 k j e ex zs (.inr rfl) i;have s:dU p 0+j=dU p j:=by unfold dU;omega
   rw[s];exact this
 ·cases f
end Go.FG
namespace Go.FG
def uU(h:j<1000):(dU p j-900000000)/1000=p/\(dU p j-900000000)%1000=j:=by unfold dU;omega
def C'(p j:aN):900000000<=dU p j:=by unfold dU;omega
def uV(h:j<1000)(f:d<1000)(e:dU p j=dU p' d):p=p'/\j=d:=by unfold dU at e;omega
section
variable {P:dx} {E:gy} {σ:St} {a:Act} {w:cN} {c:gQ} {o:ia} {nm:aN} {e:tF}
def sK(f:Ok E σ w c)(hg:σ (dj n)=.o (.row el ex xs))(r:∀b,c.K b->K b)(m:∀b,fN c n (.row el ex xs) b->K b):Holds E w K (kX (c.P n)) (.l el xs):=by
 obtain⟨⟨N,z,A,B⟩,C,M⟩:=f.obj n _ hg;refine qu z A B (C.frame (λ_=>rfl) (λi j y x u t s h=> ?_)) (λd=>m _ (.inl ⟨d,rfl⟩));split at h
 ·rename_i k;exact yP h (λhl d=>m _ (.inr ⟨k,i,j,⟨y,x,t,s,hl⟩,d,rfl⟩))
 ·exact h.frame (λ_ _=>rfl) r
def FH(d:Ok E σ w c)(hg:σ (dj n)=.o (.row el ex xs))(h:∀b,c.K b->K b)(f:∀b,fN c n (.row el ex xs) b->K b)(i:xQ (c.P n) lo hi v):Holds E w K v (.l el (ez xs lo hi)):=by obtain⟨⟨t,j,k,r⟩,m,s⟩:=d.obj n _ hg;exact I9 j (sK d hg h f) m.n k i
def K1r(σ:St)(c:gQ)(pb:aE aN)(b:aN):Prop:=c.K b\/∃n∈pb,∃o,σ (dj n)=.o o/\fN c n o b
def we(T:Tab)(σ:St)(w:cN)(c:gQ)(pb:aE aN)(k:Pk)(u:bS):Prop:=
 match k.src with
 |.own nm e ex=>∃xs,σ (dj nm)=.o (.row e ex xs)/\k.a=.ow e ex xs/\u=kX (c.P nm)
 |.no=>(∀d:gQ,(∀b,K1r σ c pb b->d.K b)->∀nm,eI T w d (lF nm k.a) u)/\∀e ex xs,k.a≠ .ow e ex xs
def we.mono(h:we T σ w c pb k u)(hs:∀n∈pb,n∈d):we T σ w c d k u:=by
 unfold we at h⊢;split
 ·rename_i hk;rw[hk]at h;exact h
 ·rename_i hk;rw[hk]at h;exact⟨λf h1=>h.1 f (λb i=>h1 b (i.imp id (λ⟨n,m,j⟩=>⟨n,hs n m,j⟩))),h.2⟩
def Dj(z:Ok E σ w c){mt:aZ}{x:AV}{k:Pk}{u:bS}(h:(AZ E mt x).val σ=ai k)(r:eI E w c x u):we E σ w c k.rd k u:=by
 have rd:∀{n el:aN} {ex:aZ} {xs:Row},σ (dj n)=.o (.row el ex xs)->∀m:gQ,(∀b,K1r σ c [n] b->m.K b)->(∀b,c.K b->m.K b)/\∀b,fN c n (.row el ex xs) b->m.K b:=λhg m h=>⟨λb t=>h b (.inl t),λb t=>h b (.inr ⟨_,a7.2 rfl,_,hg,t⟩)⟩
 cases x with
 |i=>obtain rfl:=aL h;exact⟨λm _ _=>r,λ_ _ _ d=>by cases d⟩
 |b=>obtain rfl:=aL h;exact⟨λm _ _=>r,λ_ _ _ d=>by cases d⟩
 |s=>obtain rfl:=aL h;exact⟨λm _ _=>r,λ_ _ _ d=>by cases d⟩
 |nl=>obtain rfl:=aL h;exact⟨λm _ _=>r,λ_ _ _ d=>by cases d⟩
 |sh e xs=>obtain rfl:=aL h;exact⟨λm h1 _=>Holds.frame r (λ_ _=>rfl) (λb t=>h1 b (.inl t)),λ_ _ _ d=>by cases d⟩
 |fn f A=>obtain rfl:=aL h;exact⟨λm h1 _=>eI.frame (a:=.fn f A) r (λ_ _=>rfl) (λb t=>h1 b (.inl t)) (λn C=>by simp[bP]at C),λ_ _ _ d=>by cases d⟩
 |own n=>
  obtain⟨ob,hg,h⟩:=bu h;have hg:=dF hg;have r:u=kX (c.P n):=r;cases ob with
  |row el ex xs=>
   cases mt with
   |true=>obtain rfl:=aL h;exact⟨xs,hg,rfl,r⟩
   |false=>
    obtain rfl:=aL h;refine⟨λm h1 _=> ?_,λ_ _ _ d=>by cases d⟩
    obtain⟨r1,r2⟩:=rd hg m h1;rw[r];exact sK z hg r1 r2
  |f_ el xs=>
   obtain rfl:=aL h;refine⟨λm h1 _=> ?_,λ_ _ _ d=>by cases d⟩
   rw[r];exact Holds.frame (z.obj n _ hg).1 (λ_ _=>rfl) (λb t=>h1 b (.inl t))
  |_=>simp at h
 |vw n lo hi=>
  cases mt with
  |true=>simp[AZ]at h
  |false=>
  obtain⟨ob,hg,h⟩:=bu h;have hg:=dF hg;cases ob with
  |row el ex xs=>
   obtain rfl:=aL h;refine⟨λm h1 _=> ?_,λ_ _ _ d=>by cases d⟩
   obtain⟨r1,r2⟩:=rd hg m h1;exact FH z hg r1 r2 r
  |f_ el xs=>
   obtain rfl:=aL h;refine⟨λm h1 _=> ?_,λ_ _ _ d=>by cases d⟩
   exact Holds.frame (pG z hg r) (λ_ _=>rfl) (λb t=>h1 b (.inl t))
  |_=>simp at h
 |mK n i j=>
  obtain⟨ob,hg,h⟩:=bu h;have hg:=dF hg;cases ob with
  |row el ex xs=>
   cases ex with
   |false=>simp at h
   |true=>
   obtain⟨te,M,h⟩:=bu h;have M:=dZ M;split at h
   ·rename_i U B;obtain⟨t2,X,h⟩:=bu h;obtain⟨_,h⟩:=cZ h;obtain rfl:=aL h;obtain⟨⟨hi,r⟩,_⟩:=r;obtain⟨zs,y,t3,Q,R,Y,q4,q5,S,q7,q8⟩:=B7 z hg M B hi;refine⟨λm h1 _=> ?_,λ_ _ _ d=>by cases d⟩
    show Holds E w m.K u (.l U (jd (av xs i j)));rw[fF Q R,r];obtain⟨r1,r2⟩:=rd hg m h1;exact qu Y q5 S (q7.frame (λ_=>rfl) (λi' j' y' x' u' O N V=>k7 (im q4 (S y' (aU O)) N) V)) (λC=>r2 _ (.inr ⟨rfl,i,j,⟨y,_,Q,R,rfl⟩,C,rfl⟩))
   ·simp at h
  |_=>simp at h
 |_=>simp[AZ]at h
def Ft(f:Ok E σ w c){mt:aZ}:∀{xs:aE AV} {l:aE Pk},(Dk E mt xs).val σ=ai l->l.length=xs.length/\∀(j:aN) (k:Pk),l[j]? =ai k->∃x,xs[j]? =ai x/\(AZ E mt x).val σ=ai k:=by
 intro xs;induction xs with
 |nil=>intro l h;obtain rfl:=aL h;exact⟨rfl,λj k h=>by simp at h⟩
 |cons x xs ih=>
  intro l h;obtain⟨k,h1,h⟩:=bu h;obtain⟨r,h2,h⟩:=bu h;obtain rfl:=aL h;obtain⟨i,m⟩:=ih h2;refine⟨by simp[i],λj k' d=> ?_⟩
  cases j with
  |zero=>cases d;exact⟨x,rfl,h1⟩
  |succ j=>exact m j k' d
structure Bd (T:Tab) (σ:St) (w:cN) (c:gQ) (pb:aE aN) (pa:Pa) (v:bS):Prop where
 len:pa.cs.length<=100
 val:pa.box=ay->∃agg,pa.arg=.v agg (pa.cs.map (·.a))/\((agg=aq/\∃k,pa.cs=[k]/\we T σ w c pb k v)\/(agg=ao/\∃gW:eN bS,v=.agg gW/\gW.size=pa.cs.length/\∀(j:aN) (k:Pk),pa.cs[j]? =ai k->∃u:bS,gW[j]? =ai u/\we T σ w c pb k u))
 box:∀n xs,pa.box=ai (n,xs)->pa.arg=.pt (pa.cs.map (·.a))/\v=.pointer (ai (ad (c.P n).blk 0))/\σ (dj n)=.o (.box xs)/\pa.cs.length=xs.length/\
  (∃gW,og w (c.P n).blk gW/\gW.size=xs.length/\∀(j:aN) (k:Pk),pa.cs[j]? =ai k->∃u:bS,gW[j]? =ai u/\we T σ w c pb k u)/\
  ∀(j:aN) (k:Pk) (nm e:aN) (ex:aZ),pa.cs[j]? =ai k->k.src=.own nm e ex->xs[j]? =ai (.own nm)
def Hi{pa:Pa}{j:aN}{k:Pk}(h:pa.cs[j]? =ai k):∀n∈k.rd,n∈pa.pb:=λn d=>bL.2 ⟨k,aU h,d⟩
def PS{mt:aZ}{x:AV}{k:Pk}(h:(AZ E mt x).val σ=ai k){nm e:aN}{ex:aZ}(hs:k.src=.own nm e ex):x=.own nm:=by
 cases x with
 |own n=>
  obtain⟨ob,hg,h⟩:=bu h;cases ob with
  |row el d xs=>
   cases mt with
   |true=>obtain rfl:=aL h;cases hs;rfl
   |false=>obtain rfl:=aL h;cases hs
  |f_ el xs=>obtain rfl:=aL h;cases hs
  |_=>simp at h
 |vw n lo hi=>
  cases mt with
  |true=>simp[AZ]at h
  |false=>
  obtain⟨ob,hg,h⟩:=bu h;cases ob with
  |row=>obtain rfl:=aL h;cases hs
  |f_=>obtain rfl:=aL h;cases hs
  |_=>simp at h
 |mK n i j=>
  obtain⟨ob,hg,h⟩:=bu h;cases ob with
  |row el ex xs=>
   cases ex with
   |false=>simp at h
   |true=>
   obtain⟨te,m,h⟩:=bu h;split at h
   ·obtain⟨r,f,h⟩:=bu h;obtain⟨_,h⟩:=cZ h;obtain rfl:=aL h;cases hs
   ·simp at h
  |_=>simp at h
 |i=>obtain rfl:=aL h;cases hs
 |b=>obtain rfl:=aL h;cases hs
 |s=>obtain rfl:=aL h;cases hs
 |nl=>obtain rfl:=aL h;cases hs
 |sh=>obtain rfl:=aL h;cases hs
 |fn=>obtain rfl:=aL h;cases hs
 |_=>simp[AZ]at h
def Wi(d:Ok E σ w c){mt:aZ}{x:SV}{pa:Pa}{v:bS}(h:(adt E mt x).val σ=ai pa)(hl:pa.cs.length<=100)(i:jb E w c x v):Bd E σ w c pa.pb pa v:=by
 have C:∀agg xs,x=.v agg xs->((Dk E mt xs).bind λl=>Rd.ret (⟨.v agg (l.map (·.a)),ay,l⟩:Pa)).val σ=ai pa->Bd E σ w c pa.pb pa v:=by
  rintro agg xs rfl h;obtain⟨l,h1,h⟩:=bu h;obtain rfl:=aL h;obtain⟨B,A⟩:=Ft d h1;refine⟨hl,λ_=>⟨agg,rfl,?_⟩,λn Q t=>by cases t⟩
  replace i:qG E w c agg xs v:=i;unfold qG at i;split at i
  ·rename_i y;left;obtain⟨k,rfl⟩:=fW.1 (B.trans rfl);obtain⟨R,s,hk⟩:=A 0 k rfl;cases s;exact⟨rfl,k,rfl,(Dj d hk i).mono (Hi (j:=0) (pa:=⟨.v aq ([k].map (·.a)),ay,[k]⟩) rfl)⟩
  ·obtain⟨f,rfl,hs,O⟩:=i;right;refine⟨rfl,f,rfl,by rw[hs];exact B.symm,λj k r=> ?_⟩
   obtain⟨y,s,hk⟩:=A j k r;obtain⟨u,N,K⟩:=O j y s;exact⟨u,N,(Dj d hk K).mono (Hi (j:=j) (pa:=⟨.v ao (l.map (·.a)),ay,l⟩) r)⟩
  ·exact i.elim
 unfold adt at h;split at h
 ·rename_i n;obtain⟨_,h⟩:=cZ h;obtain⟨ob,hg,h⟩:=bu h;have hg:=dF hg;cases ob with
  |box xs=>
   obtain⟨l,h1,h⟩:=bu h;obtain rfl:=aL h;obtain⟨B,A⟩:=Ft d h1;obtain⟨f,t,hs,O⟩:=d.obj n _ hg;refine⟨hl,λt=>(by cases t),λm Q M=> ?_⟩
   cases M;refine⟨rfl,i,hg,B,⟨f,t,hs,λj k r=> ?_⟩,λj k nm e ex r z=> ?_⟩
   ·obtain⟨y,s,hk⟩:=A j k r;obtain⟨u,N,K⟩:=O j y s;exact⟨u,N,(Dj d hk K).mono (Hi (j:=j) (pa:=⟨.pt (l.map (·.a)),ai (n,xs),l⟩) r)⟩
   ·obtain⟨y,s,hk⟩:=A j k r;rw[s,PS hk z]
  |_=>simp at h
 ·rename_i agg xs _;exact C _ _ rfl h
 ·simp at h
def NM(h:eI T w c y u):eI T w c (Yq k y) u:=by
 unfold Yq;split
 ·rename_i e;have:u=.slice ay 0 0:=h;subst this;exact .nl _ _ _
 ·exact h
def Ji:∀(ks:aE Ck) (xs:aE AV),(C_ ks xs).length=xs.length
 |[],[]=>rfl
 |[],_::_=>rfl
 |_::_,[]=>rfl
 |k::ks,y::r=>by simp[C_,Ji ks r]
def NN:∀(ks:aE Ck) (xs:aE AV) (j:aN) (y:AV),(C_ ks xs)[j]? =ai y->∃z,xs[j]? =ai z/\∀u,eI T w c z u->eI T w c y u
 |[],xs,j,y,h=>⟨y,by simpa [C_]using h,λ_ h=>h⟩
 |_::_,[],j,y,h=>by simp[C_]at h
 |k::ks,x::r,0,y,h=>by
  simp only[C_,s_,jG]at h;subst h;exact⟨x,rfl,λu d=>NM d⟩
 |k::ks,x::r,j+1,y,h=>by simp only[C_,dQ]at h;exact NN ks r j y h
def aeO(h:jb T w c s v):jb T w c (nlz T t s) v:=by
 unfold nlz;split
 ·exact h
 ·split
  ·rename_i ti g xs _;have h:qG T w c g xs v:=h;show qG T w c g (C_ ti.ks xs) v;unfold qG at h;split at h
   ·rename_i y;cases hk:ti.ks with
    |nil=>exact h
    |cons k ks=>
     have e:∀z,C_ (k::ks) [z]=[Yq k z]:=λz=>by cases ks<;>rfl
     rw[e];exact NM h
   ·obtain⟨d,h1,h2,h3⟩:=h;refine⟨d,h1,by rw[Ji];exact h2,λj y i=> ?_⟩
    obtain⟨z,x,r⟩:=NN (T:=T) (w:=w) (c:=c) ti.ks _ j y i;obtain⟨u,m,f⟩:=h3 j z x;exact⟨u,m,r u f⟩
   ·cases h
  ·exact h
def R_(i:Ok E σ w c)(d:fw E σ a w c):∀{xs:aE fB} {p:aN} {ps:aE Pa},(R9 E f r p xs).val σ=ai ps->ps.length=xs.length/\∀(q:aN) (pa:Pa),ps[q]? =ai pa->∃x,xs[q]? =ai x/\Bd E σ w c pa.pb pa (a.eval x):=by
 intro xs;induction xs with
 |nil=>intro p ps h;obtain rfl:=aL h;exact⟨rfl,λq pa h=>by simp at h⟩
 |cons x xs ih=>
  intro p ps h;obtain⟨v,h1,h⟩:=bu h;obtain⟨pa,h2,h⟩:=bu h;obtain⟨hl,h⟩:=cZ h;obtain⟨l,h3,h⟩:=bu h;obtain rfl:=aL h;obtain⟨k,m⟩:=ih h3;refine⟨by simp[k],λq j hq=> ?_⟩
  cases q with
  |zero=>
   cases hq;refine⟨x,rfl,Wi i h2 (b8 hl) ?_⟩
   cases E.mode f p with
   |true=>exact(mr d h1).1
   |false=>exact aeO (mr d h1).1
  |succ q=>exact m q j hq
def Bd.mono(h:Bd T σ w c pb pa v)(hs:∀n∈pb,n∈i):Bd T σ w c i pa v:=by
 refine⟨h.len,λm=> ?_,λn xs m=> ?_⟩
 ·obtain⟨agg,h1,h2⟩:=h.val m;refine⟨agg,h1,?_⟩
  rcases h2 with ⟨h3,k,h4,f⟩|⟨h3,d,h4,f,h6⟩
  ·exact .inl ⟨h3,k,h4,f.mono hs⟩
  ·exact .inr ⟨h3,d,h4,f,λj k r=>by obtain⟨u,s,hk⟩:=h6 j k r;exact⟨u,s,hk.mono hs⟩⟩
 ·obtain⟨h1,h2,h3,h4,⟨d,f,h6,t⟩,h8⟩:=h.box n xs m;exact⟨h1,h2,h3,h4,⟨d,f,h6,λj k r=>by obtain⟨u,s,hk⟩:=t j k r;exact⟨u,s,hk.mono hs⟩⟩,h8⟩
end
end Go.FG
namespace Go.FG
def lY:∀{l:aE α},(l.flatMap f).Nodup->(∀(i j:aN) (x y:α) (z:aN),l[i]? =ai x->l[j]? =ai y->z∈f x->z∈f y->i=j)/\∀x∈l,(f x).Nodup:=by
 intro l;induction l with
 |nil=>intro _;exact⟨λi j x y z h=>by simp at h,λx h=>by cases h⟩
 |cons a l ih=>
  intro h;rw[zd]at h;obtain⟨h1,h2,h3⟩:=eK.1 h;obtain⟨r,s⟩:=ih h2;refine⟨λi j x y z hi k d m=> ?_,λx d=> ?_⟩
  ·cases i with
   |zero=>
    cases hi;cases j with
    |zero=>rfl
    |succ j=>exact cO rfl (h3 z d z (bL.2 ⟨y,aU k,m⟩))
   |succ i=>
    cases j with
    |zero=>cases k;exact cO rfl (h3 z m z (bL.2 ⟨x,aU hi,d⟩))
    |succ j=>rw[r i j x y z hi k d m]
  ·rcases cF.1 d with rfl|d
   ·exact h1
   ·exact s x d
def loc(ps:aE Pa)(m:aN):aG aN:=
 match ps[(m-900000000)/1000]? with
 |none=>ay
 |some pa=>if(m-900000000)%1000=900 then pa.box.map (·.1)else(pa.cs[(m-900000000)%1000]?).bind λk=>match k.src with|.own nm _ _=>ai nm|.no=>ay
def Hg(hp:ps[p]? =ai pa)(d:pa.cs[j]? =ai k)(hs:k.src=.own nm e ex)(hl:j<900):loc ps (dU p j)=ai nm:=by obtain⟨h1,h2⟩:=uU (p:=p) (j:=j) (by omega);unfold loc;rw[h1,h2,hp];simp only;rw[bk (by omega),d];simp only[Option.bind_some,hs]
def B8(hp:ps[p]? =ai pa)(d:pa.box=ai (n,xs)):loc ps (dU p 900)=ai n:=by obtain⟨h1,h2⟩:=uU (p:=p) (j:=900) (by omega);unfold loc;rw[h1,h2,hp];simp[d]
def qZ(σ:St)(c:gQ)(ps:aE Pa):gQ:=
 ⟨λm=>match loc ps m with|some n=>c.P n|none=>⟨ao,0,0,0,0,0⟩,λm=>match loc ps m with|some n=>c.G n|none=>λ_ _=>⟨ao,0,0,0,0,0⟩,K1r σ c (ps.flatMap (·.pb))⟩
def uO(h:loc ps m=ai n):(qZ σ c ps).P m=c.P n/\(qZ σ c ps).G m=c.G n:=by unfold qZ;simp only[h];exact⟨trivial,trivial⟩
section
variable {P:dx} {E:gy} {σ:St} {a:Act} {w:cN} {c:gQ} {o:ia} {nm:aN} {e:tF}
structure Handed (T:Tab) (σ:St) (w:cN) (c:gQ) (ps:aE Pa) (fbs:aE (aE CV)) (vs:eN bS):Prop where
 size:vs.size=ps.length+fbs.length
 at_:∀(q:aN) (pa:Pa),ps[q]? =ai pa->∃v,vs[q]? =ai v/\Bd T σ w c (ps.flatMap (·.pb)) pa v
 fb:∀(q:aN) (cs:aE CV),fbs[q]? =ai cs->∃b,vs[ps.length+q]? =ai (.pointer (ai (ad b 0)))/\FB T w c.K b cs
 nd:(ps.flatMap (·.uT)).Nodup
 ap:∀n∈ps.flatMap (·.uT),n∉ps.flatMap (·.pb)
def jO(ps:aE Pa)(d:aE (aE CV)):aE gD:=ps.map (·.arg)++d.map gD.fb
def wo(h:(jO ps d)[p]? =ai x):(∃pa,ps[p]? =ai pa/\x=pa.arg)\/(ps.length<=p/\∃cs,d[p-ps.length]? =ai cs/\x=.fb cs):=by
 unfold jO at h;by_cases hp:p<ps.length
 ·rw[dz (by simpa using hp),bJ]at h;cases hq:ps[p]? with
  |none=>rw[hq]at h;cases h
  |some pa=>rw[hq]at h;cases h;exact .inl ⟨pa,rfl,rfl⟩
 ·rw[de (by simp;omega),bJ,bK]at h;cases hq:d[p-ps.length]? with
  |none=>rw[hq]at h;cases h
  |some cs=>rw[hq]at h;cases h;exact .inr ⟨by omega,cs,rfl,rfl⟩
def T7(hp:ps[p]? =ai pa)(f:pa.cs[j]? =ai k)(hl:j<900)(h:we T σ w c (ps.flatMap (·.pb)) k u):eI T w (qZ σ c ps) (lF (dU p j) k.a) u:=by
 unfold we at h;split at h
 ·rename_i n e ex hs;obtain⟨xs,h1,h2,h3⟩:=h;rw[h2];show u=kX ((qZ σ c ps).P (dU p j));rw[(uO (Hg hp f hs hl)).1];exact h3
 ·exact h.1 _ (λb d=>d) _
def T4(h:Bd T σ w c pb pa v)(d:(∃g,pa.arg=.v g xs)\/pa.arg=.pt xs):xs=pa.cs.map (·.a)/\∀(j:aN) (k:Pk),pa.cs[j]? =ai k->∃u,we T σ w c pb k u:=by
 cases r:pa.box with
 |none=>
  obtain⟨agg,h1,h2⟩:=h.val r;rw[h1]at d;have:xs=pa.cs.map (·.a):=by rcases d with ⟨g,d⟩|d<;>cases d;rfl
  refine⟨this,λj k f=> ?_⟩
  rcases h2 with ⟨_,k',hk,hp⟩|⟨_,i,_,_,hp⟩
  ·rw[hk]at f;cases j with
   |zero=>cases f;exact⟨_,hp⟩
   |succ j=>simp at f
  ·obtain⟨u,_,m⟩:=hp j k f;exact⟨u,m⟩
 |some s=>
  obtain⟨n,t⟩:=s;obtain⟨h1,_,_,_,⟨i,_,_,hp⟩,_⟩:=h.box n t r;rw[h1]at d;have:xs=pa.cs.map (·.a):=by rcases d with ⟨g,d⟩|d<;>cases d;rfl
  exact⟨this,λj k f=>by obtain⟨u,_,m⟩:=hp j k f;exact⟨u,m⟩⟩
def yi(X:Ok E σ w c)(hh:Handed E σ w c ps U vs)(h:inj (jO ps U) (dj m)=.o ob):
  ∃n o p pa,loc ps m=ai n/\ps[p]? =ai pa/\n∈pa.uT/\σ (dj n)=.o o/\qf E w (qZ σ c ps) m ob/\(∀b,fN (qZ σ c ps) m ob b->fN c n o b)/\
   ((m=dU p 900/\∃xs,pa.box=ai (n,xs))\/∃j k e ex,m=dU p j/\j<900/\pa.cs[j]? =ai k/\k.src=.own n e ex):=by
 obtain⟨p,x,h0,h⟩:=B6 h;have O:∀cs xs,x=.fb cs->¬((∃g,x=.v g xs)\/x=.pt xs):=by rintro cs xs rfl (⟨g,h⟩|h)<;>cases h
 rcases wo h0 with ⟨pa,hp,rfl⟩|⟨_,cs,_,f⟩
 ·obtain⟨v,hv,s⟩:=hh.at_ p pa hp;rcases h with ⟨xs,f,rfl,rfl⟩|⟨xs,j,e,ex,ys,f,r,rfl,rfl⟩
  ·cases A:pa.box with
   |none=>obtain⟨agg,h1,_⟩:=s.val A;rw[h1]at f;cases f
   |some nx=>
    obtain⟨n,zs⟩:=nx;obtain⟨h1,h2,h3,h4,⟨Q,h5,h6,h7⟩,_⟩:=s.box n zs A;rw[h1]at f;cases f;have d:=B8 hp A;obtain⟨z,R⟩:=uO (σ:=σ) (c:=c) d;refine⟨n,_,p,pa,d,hp,by simp[Pa.uT,A],h3,?_,λb S=>by rw[show b=_ from S,z];rfl,.inl ⟨rfl,zs,A⟩⟩
    refine⟨Q,by rw[z];exact h5,by rw[iR,bK,h6];exact h4.symm,λj y r=> ?_⟩
    rw[iD,bJ]at r;cases hk:pa.cs[j]? with
    |none=>rw[hk]at r;cases r
    |some k=>
     rw[hk]at r;cases r;obtain⟨u,M,B⟩:=h7 j k hk;have t:j<900:=by have:=(aW.1 hk).1;have:=s.len;omega
     refine⟨u,M,?_⟩
     have hn:dU p 0+j=dU p j:=by unfold dU;omega
     rw[hn];exact T7 hp hk t B
  ·obtain⟨h9,B⟩:=T4 s f;rw[h9,bJ]at r;cases hk:pa.cs[j]? with
   |none=>rw[hk]at r;cases r
   |some k=>
    rw[hk]at r;have N:k.a=.ow e ex ys:=by simpa using r
    obtain⟨u,M⟩:=B j k hk;have t:j<900:=by have:=(aW.1 hk).1;have:=s.len;omega
    unfold we at M;split at M
    ·rename_i n e' ha hs;obtain⟨zs,q1,q2,q3⟩:=M;rw[N]at q2;cases q2;have d:=Hg hp hk hs t;obtain⟨z,R⟩:=uO (σ:=σ) (c:=c) d;refine⟨n,_,p,pa,d,hp,?_,q1,?_,λb S=>by rw[mn (c:=⟨λ_=>c.P n,λ_=>c.G n,c.K⟩) (c':=qZ σ c ps) ⟨z,R⟩]at S;exact S,.inr ⟨j,k,e,ex,rfl,t,hk,hs⟩⟩
     ·refine bR _ (bL.2 ⟨k,aU hk,?_⟩);simp[Pk.uT,hs]
     ·have V:=X.obj n _ q1;obtain⟨⟨t2,r1,r2,r3⟩,r4,r5⟩:=V;refine⟨⟨t2,r1,by rw[z];exact r2,r3⟩,?_,λf=>by rw[z,R];exact r5 f⟩
      rw[z,R];refine r4.frame (λ_=>rfl) (λi j y x u hy f Y=> ?_);split at Y
      ·rename_i C;rw[bm C];exact Y
      ·rename_i C;rw[bk C];exact Y.frame (λ_ _=>rfl) (λb A=>.inl A)
    ·exact cO N (M.2 _ _ _)
 ·rcases h with ⟨xs,h,_⟩|⟨xs,j,e,ex,ys,h,_⟩
  ·rw[f]at h;cases h
  ·exact cO h (O cs xs f)
def enter(d:Ok E σ w c)(A:Handed E σ w c ps O vs):
  Ok E (inj (jO ps O)) w (qZ σ c ps)/\(∀(p:aN) (x:gD),(jO ps O)[p]? =ai x->∃v,vs[p]? =ai v/\jb E w (qZ σ c ps) (sW p x) v)/\
  ∀b,Own (inj (jO ps O)) (qZ σ c ps) b->∃n∈ps.flatMap (·.uT),∃o,σ (dj n)=.o o/\fN c n o b:=by
 have z:∀{p:aN} {pa:Pa} {n:aN},ps[p]? =ai pa->n∈pa.uT->n∈ps.flatMap (·.uT):=λhp B=>bL.2 ⟨_,aU hp,B⟩;obtain⟨hy,hz⟩:=lY A.nd;refine⟨⟨λm ob h=> ?_,λm ob m' ob' b h h' K r=> ?_,λm ob b h K hk=> ?_,λb f=> ?_,λm xs h=>Hb h,E.gp.fr d.gp (λ_ _=>rfl) (λb f=>.inl f)⟩,λp x hx=> ?_,?_⟩
 ·obtain⟨n,o,p,pa,_,_,_,_,h,_⟩:=yi d A h;exact h
 ·obtain⟨n,o,p,pa,_,hp,B,Y,_,i,h7⟩:=yi d A h;obtain⟨n',o',p',x0,_,R,C,s,_,h5,t⟩:=yi d A h';have:=d.sep n o n' o' b Y s (i b K) (h5 b r);subst this;have:=hy p p' pa x0 n hp R B C;subst this;rw[hp]at R;cases R;have h9:=hz pa (aU hp);unfold Pa.uT at h9;obtain⟨_,m2,m3⟩:=eK.1 h9;have N:∀(j:aN) (k:Pk) (e:aN) (ex:aZ),pa.cs[j]? =ai k->k.src=.own n e ex->n∈pa.cs.flatMap (·.uT):=λj k e ex hk hs=>bL.2 ⟨k,aU hk,by simp[Pk.uT,hs]⟩;rcases h7 with ⟨rfl,xs,f⟩|⟨j,k,e,ex,rfl,M,hk,hs⟩
  ·rcases t with ⟨rfl,_⟩|⟨j',k',e',he,rfl,ht,Q,V⟩
   ·rfl
   ·exact cO rfl (m3 n (by simp[f]) n (N _ _ _ _ Q V))
  ·rcases t with ⟨rfl,xs,f⟩|⟨j',k',e',he,rfl,ht,Q,V⟩
   ·exact cO rfl (m3 n (by simp[f]) n (N _ _ _ _ hk hs))
   ·have:=(lY m2).1 j j' k k' n hk Q (by simp[Pk.uT,hs]) (by simp[Pk.uT,V]);rw[this]
 ·obtain⟨n,o,p,pa,_,hp,B,Y,_,i,_⟩:=yi d A h;rcases hk with hk|⟨n',C,o',s,r⟩
  ·exact d.kk n o b Y (i b K) hk
  ·have:=d.sep n o n' o' b Y s (i b K) r;subst this;exact A.ap n (z hp B) C
 ·rcases f with f|⟨n',C,o',s,r⟩
  ·exact d.lt b f
  ·exact Own.lt d ⟨n',o',s,r⟩
 ·rcases wo hx with ⟨pa,hp,rfl⟩|⟨x1,cs,hr,rfl⟩
  ·obtain⟨v,hv,S⟩:=A.at_ p pa hp;refine⟨v,hv,?_⟩
   have X:∀{j:aN} {k:Pk},pa.cs[j]? =ai k->j<900:=λM=>by have:=(aW.1 M).1;have:=S.len;omega
   cases f:pa.box with
   |none=>
    obtain⟨agg,h1,h2⟩:=S.val f;rw[h1];rcases h2 with ⟨rfl,k,hk,U⟩|⟨rfl,ha,rfl,hs,hc⟩
    ·rw[hk];have:=T7 (j:=0) hp (by rw[hk];rfl) (by omega) U;exact this
    ·refine⟨ha,rfl,by rw[iR,bK];exact hs,λj y M=> ?_⟩
     rw[iD,bJ]at M;cases hk:pa.cs[j]? with
     |none=>rw[hk]at M;cases M
     |some k=>
      rw[hk]at M;cases M;obtain⟨u,hu,U⟩:=hc j k hk;refine⟨u,hu,?_⟩
      have B:dU p 0+j=dU p j:=by unfold dU;omega
      rw[B];exact T7 hp hk (X hk) U
   |some nx=>obtain⟨n,zs⟩:=nx;obtain⟨h1,h2,_⟩:=S.box n zs f;rw[h1];show v=.pointer (ai (ad ((qZ σ c ps).P (dU p 900)).blk 0));rw[(uO (B8 hp f)).1];exact h2
  ·obtain⟨b,hv,K⟩:=A.fb (p-ps.length) cs hr;rw[show ps.length+(p-ps.length)=p by omega]at hv;exact⟨_,hv,b,rfl,K.frame (λ_ _=>rfl) (λb f=>.inl f)⟩
 ·rintro b ⟨m,ob,h,K⟩;obtain⟨n,o,p,pa,_,hp,B,Y,_,i,_⟩:=yi d A h;exact⟨n,z hp B,o,Y,i b K⟩
end
end Go.FG
namespace Go.FG
def ur(p j:aN)(a:AA):AV:=match a with|.kp _=>.own (dU p j)|a=>lF (dU p (100+j)) a
def oz(p:aN):aN->aE AA->aE AV
 |_,[]=>[]|j,a::r=>ur p j a::oz p (j+1) r
def Jt(p j:aN)(a b:AA):aE (aN×e9):=
 match b with
 |.kp d=>(match a with|.ow e ex _=>[(dj (dU p j),.o (.row e ex d))]|_=>[])
 |.ow e ex d=>[(dj (dU p (100+j)),.o (.row e ex d))]
 |_=>[]
def uv(p:aN):aN->aE AA->aE AA->aE (aN×e9)
 |_,_,[]=>[]|j,as,b::r=>Jt p j (as.headD .nl) b++uv p (j+1) as.tail r
def Dh(p:aN)(a:gD)(l:aE AA):aE (aN×e9):=
 match a with
 |.v _ xs=>uv p 0 xs l
 |.pt xs=>(dj (dU p 900),.o (.box (oz p 0 l)))::uv p 0 xs l
 |.fb _=>[]
def Lt:aN->aE gD->aE (aE AA)->aE (aN×e9)
 |_,[],_=>[]|p,a::r,l=>Dh p a (l.headD [])++Lt (p+1) r l.tail
def LB:aN->aE gD->aE (aN×e9)
 |_,[]=>[]|q,a::r=>vL q a++LB (q+1) r
def n9(args:aE gD)(r:iO):St:=eW (LB 500 r.rs++Lt 0 args r.outs)
def GR(q:aN)(a:gD):aZ×aE AV:=match a with|.v g xs=>(g,gC (dU q 0) xs)|.pt _=>(aq,[.bp (dU q 900) 0])|.fb xs=>(aq,[.fp xs 0])
def lG:aN->aE gD->aE (aZ×aE AV)
 |_,[]=>[]|q,a::r=>GR q a::lG (q+1) r
def Uc(rs:aE gD):SV:=sZ (lG 500 rs)
def Im(T:Tab)(args:aE gD)(r:iO)(f:gQ)(w:cN)(v:bS)(w':cN):Prop:=
 ∃d,Ok T (n9 args r) w' d/\Grow (inj args) f w (n9 args r) d w'/\(∀m,inj args (dj m)≠ .jW->d.P m=f.P m/\d.G m=f.G m)/\jb T w' d (Uc r.rs) v
def lI(P:dx)(T:Tab)(g:aN)(d:aE gD->aG (aZ×iO)):Prop:=
 ∀args r,d args=ai (ao,r)->∀(w:cN) (f:gQ) (vs:eN bS),Ok T (inj args) w f->vs.size=args.length->(∀(p:aN) (x:gD),args[p]? =ai x->∃v,vs[p]? =ai v/\jb T w f (sW p x) v)->
  (∃fn,P.funcs[g]? =ai fn/\fn.body.isSome=ao/\(fn.name== "runtime.NumGoroutine")=aq)/\Calls P g vs w (λ|.returned v,w'=>Im T args r f w v w'|_,_=>False)
abbrev L_:=aN×aG aN×Obj
def find(L:aE L_)(m:aN):aG aN:=
 match L with
 |[]=>ay
 |(n,t,_)::r=>if m=n then t else find r m
def I4(h:find L m=ai x):∃ob,(m,ai x,ob)∈L:=by
 induction L with
 |nil=>cases h
 |cons d L ih=>
  obtain⟨n,t,ob⟩:=d;unfold find at h;split at h
  ·rename_i hm;subst hm;rw[h];exact⟨ob,cQ ..⟩
  ·obtain⟨ob,h⟩:=ih h;exact⟨ob,cK _ h⟩
def WA(h:(m,t,ob)∈L)(i:(L.map (·.1)).Nodup):find L m=t:=by
 induction L with
 |nil=>cases h
 |cons d L ih=>
  obtain⟨n,k,ob'⟩:=d;rw[fD,kU]at i;unfold find;rcases cF.1 h with f|f
  ·cases f;rw[bm rfl]
  ·have j:m≠n:=λe=>i.1 (cU.2 ⟨_,f,e⟩);rw[bk j];exact ih f i.2
def ma(ok:aZ)(L:aE L_)(v d:AV):Prop:=
 (v=d/\match v with|.i _ _=>True|.b _=>True|.s _=>True|.nl=>True|.sh _ _=>ok=ao|_=>False)\/∃n x ob,v=.own n/\d=.own x/\(n,ai x,ob)∈L
def Y3(L:aE L_)(v d:AV):Prop:=∃n x ob,v=.bp n 0/\d=.bp x 0/\(n,ai x,ob)∈L
def nW(ok:aZ)(L:aE L_)(vs d:aE AV):Prop:=vs.length=d.length/\∀(j:aN) (v f:AV),vs[j]? =ai v->d[j]? =ai f->ma ok L v f
def ArgRel(ok:aZ)(L:aE L_)(s s3:aZ×aE AV):Prop:=s.1=s3.1/\s.2.length=s3.2.length/\∀(j:aN) (v d:AV),s.2[j]? =ai v->s3.2[j]? =ai d->ma ok L v d\/Y3 L v d
def FL(ok:aZ)(L:aE L_)(s s3:aE (aZ×aE AV)):Prop:=s.length=s3.length/\∀(j:aN) (x d:aZ×aE AV),s[j]? =ai x->s3[j]? =ai d->ArgRel ok L x d
structure Y6 (σ σ3:St) (c c3:gQ) (ok:aZ) (uT:aE aN) (L:aE L_) (n:aN) (t:aG aN) (ob:Obj):Prop where
 old:σ (dj n)≠ .jW->n∈uT
 new:σ (dj n)=.jW->n<900000000
 dead:t=ay->ob=.dead
 some_:∀x,t=ai x->(σ (dj n)≠ .jW->c3.P x=c.P n/\c3.G x=c.G n)/\
  ((∃e ex ys,ob=.row e ex ys/\σ3 (dj x)=.o (.row e ex ys)/\(ex=ao\/ok=ao))\/∃vs vs3,ob=.box vs/\σ3 (dj x)=.o (.box vs3)/\nW ok L vs vs3)
section
variable {P:dx} {E:gy} {σ:St} {a:Act} {w:cN} {c:gQ} {o:ia} {nm:aN} {e:tF}
def leave(h5:Ok E σ w c)(xw:fw E σ a w c)(hd:∀d,o.dst=ai d->d<a.tmps.size)(hh:Handed E σ w c ps x0 vs)
  (R:Ok E (n9 (jO ps x0) r) w' Q) (N:Grow (inj (jO ps x0)) (qZ σ c ps) w (n9 (jO ps x0) r) Q w') (h7:jb E w' Q (Uc r.rs) v)
  (hL:∀n t ob,(n,t,ob)∈L->Y6 σ (n9 (jO ps x0) r) c Q ok (ps.flatMap (·.uT)) L n t ob) (xt:(L.map (·.1)).Nodup)
  (xm:∀n n' x ob ob',(n,ai x,ob)∈L->(n',ai x,ob')∈L->n=n') (xk:∀n∈ps.flatMap (·.uT),∃t ob,(n,t,ob)∈L)
  (x2:∀n x,(n,x)∈Fz->ok=ao/\n∈ps.flatMap (·.pb)/\∃el ex xs,σ (dj n)=.o (.row el ex xs)/\x=.f_ el xs) (xq:ok=ao->∀n∈ps.flatMap (·.pb),∃x,(n,x)∈Fz)
  (xy:FL ok L ss (lG 500 r.rs)):
  ∃c',Ok E (wr σ (kD (Fz++L.map λt=>(t.1,t.2.2))++dw o (sZ ss))) w' c'/\fw E (wr σ (kD (Fz++L.map λt=>(t.1,t.2.2))++dw o (sZ ss))) (a.put o.dst v) w' c'/\Grow σ c w (wr σ (kD (Fz++L.map λt=>(t.1,t.2.2))++dw o (sZ ss))) c' w'/\jK σ c c':=by
 obtain⟨xn,_,xf⟩:=enter h5 hh;let D:aE (aN×Obj):=Fz++L.map λt=>(t.1,t.2.2)
 have U:∀n x,(n,x)∈D->(n,x)∈Fz\/∃t,(n,t,x)∈L:=by
  intro n x hm;rcases a_.1 hm with h|h
  ·exact .inl h
  ·obtain⟨⟨n',t,ob⟩,h1,h2⟩:=cU.1 h;cases h2;exact .inr ⟨t,h1⟩
 have xa:∀n t ob,(n,t,ob)∈L->(n,ob)∈D:=λn t ob h=>bR _ (cU.2 ⟨_,h,rfl⟩);have xp:∀n,n∈ps.flatMap (·.uT)->u_ D n:=λn f=>by obtain⟨t,ob,h⟩:=xk n f;exact⟨ob,xa n t ob h⟩
 have x4:∀b,Own (inj (jO ps x0)) (qZ σ c ps) b->kh (u_ D) σ c b:=λb A=>by obtain⟨n,f,ob,h1,h2⟩:=xf b A;exact⟨n,ob,xp n f,h1,h2⟩
 let K':aN->Prop:=λb=>if ok=ao then Q.K b else c.K b
 let c':gQ:=⟨λm=>match find L m with|some x=>Q.P x|none=>c.P m,λm=>match find L m with|some x=>Q.G x|none=>c.G m,K'⟩
 have at_:∀n x ob,(n,ai x,ob)∈L->c'.P n=Q.P x/\c'.G n=Q.G x:=λn x ob h=>by have:=WA h xt;simp only[c',this];exact⟨trivial,trivial⟩
 have xb:∀n,find L n=ay->c'.P n=c.P n/\c'.G n=c.G n:=λn h=>by simp only[c',h];exact⟨trivial,trivial⟩
 have hA:jK σ c c':=by
  intro m hm;cases O:find L m with
  |none=>exact xb m O
  |some x=>
   obtain⟨ob,hx⟩:=I4 O;obtain⟨e1,e2⟩:=at_ m x ob hx;have he:=hL m _ ob hx;rw[e1,e2];by_cases f:σ (dj m)=.jW
   ·have:=he.new f;rcases hm with h|h
    ·exact cO f h
    ·omega
   ·exact(he.some_ x rfl).1 f
 have X:ok=ao->∀b,K' b↔Q.K b:=λh b=>by simp only[K',h,if_true]
 have x5:ok=aq->∀b,K' b↔c.K b:=λh b=>by simp only[K',h];simp
 have xg:∀b,(qZ σ c ps).K b->Q.K b:=N.K;have xi:∀b,c.K b->(qZ σ c ps).K b:=λb A=>.inl A;have hK:∀b,c.K b->K' b:=λb A=>by
  cases h:ok with
  |true=>exact(X h b).2 (xg b (xi b A))
  |false=>exact(x5 h b).2 A
 have xr:∀b,K' b->c.K b\/kh (u_ D) σ c b\/w.heap.size<=b:=λb A=>by
  cases h:ok with
  |true=>
   rcases N.kn b ((X h b).1 A)with h1|h1|h1
   ·rcases h1 with h1|⟨n,f,ob,h2,h3⟩
    ·exact .inl h1
    ·obtain⟨x,hx⟩:=xq h n f;exact .inr (.inl ⟨n,ob,⟨x,bZ _ hx⟩,h2,h3⟩)
   ·exact .inr (.inl (x4 b h1))
   ·exact .inr (.inr h1)
  |false=>exact .inl ((x5 h b).1 A)
 have xj:∀b,K' b->b<w'.heap.size:=λb A=>by
  cases h:ok with
  |true=>exact R.lt b ((X h b).1 A)
  |false=>exact jV (h5.lt b ((x5 h b).1 A)) N.size
 have Y:∀n x ob b,(n,ai x,ob)∈L->fN c' n ob b->∃o3,n9 (jO ps x0) r (dj x)=.o o3/\fN Q x o3 b:=by
  intro n x ob b hm O;obtain⟨e1,e2⟩:=at_ n x ob hm;rcases((hL n _ ob hm).some_ x rfl).2 with ⟨e,ex,ys,rfl,h3,_⟩|⟨us,V,rfl,h3,_⟩
  ·refine⟨_,h3,?_⟩
   simp only[fN,e1,e2]at O⊢;exact O
  ·refine⟨_,h3,?_⟩
   simp only[fN,e1]at O⊢;exact O
 have ht:∀{v v3:AV} {u:bS},ma ok L v v3->eI E w' Q v3 u->eI E w' c' v u/\∀n∈bP v,u_ D n:=by
  rintro v v3 u (⟨rfl,h⟩|⟨n,x,ob,rfl,rfl,hm⟩) M
  ·cases v with
   |sh e xs=>exact⟨Holds.frame M (λ_ _=>rfl) (λb A=>(X h b).2 A),λn f=>by simp[bP]at f⟩
   |i=>exact⟨M,λn f=>by simp[bP]at f⟩
   |b=>exact⟨M,λn f=>by simp[bP]at f⟩
   |s=>exact⟨M,λn f=>by simp[bP]at f⟩
   |nl=>exact⟨M,λn f=>by simp[bP]at f⟩
   |_=>exact h.elim
  ·refine⟨?_,λm B=> ?_⟩
   ·show u=kX (c'.P n);rw[(at_ n x ob hm).1];exact M
   ·have:m=n:=by simpa [bP]using B
    subst this;exact⟨ob,xa _ _ _ hm⟩
 have xh:∀{v v3:AV} {u:bS},Y3 L v v3->eI E w' Q v3 u->eI E w' c' v u/\∀n∈bP v,u_ D n:=by
  rintro v v3 u ⟨n,x,ob,rfl,rfl,hm⟩ M;refine⟨?_,λm B=> ?_⟩
  ·show u=.pointer (ai (ad (c'.P n).blk 0));rw[(at_ n x ob hm).1];exact M
  ·have:m=n:=by simpa [bP]using B
   subst this;exact⟨ob,xa _ _ _ hm⟩
 have x1:∀{s s3:aZ×aE AV} {u:bS},ArgRel ok L s s3->qG E w' Q s3.1 s3.2 u->qG E w' c' s.1 s.2 u/\∀n∈s.2.flatMap bP,u_ D n:=by
  rintro ⟨g,xs⟩ ⟨g3,h9⟩ u ⟨h1,h2,h3⟩ M;have h1:g=g3:=h1;subst h1;have one:∀(j:aN) (y:AV) (uu:bS),xs[j]? =ai y->(∀y3,h9[j]? =ai y3->eI E w' Q y3 uu)->eI E w' c' y uu/\∀n∈bP y,u_ D n:=by
   intro j y uu C xz;have k:j<h9.length:=by rw[<-h2];exact(aW.1 C).1
   have xd:=h3 j y h9[j] C (by simp[k]);have xo:=xz h9[j] (by simp[k]);rcases xd with h|h
   ·exact ht h xo
   ·exact xh h xo
  replace M:qG E w' Q g h9 u:=M;unfold qG at M;split at M
  ·rename_i y3;obtain⟨y,rfl⟩:=fW.1 (show xs.length=1 from h2);obtain⟨k1,k2⟩:=one 0 y u rfl (λy1 h=>by cases h;exact M);exact⟨k1,λn f=>k2 n (by simpa using f)⟩
  ·obtain⟨hz,rfl,hs,hv⟩:=M;have cell:∀(j:aN) (y:AV),xs[j]? =ai y->∃uu:bS,hz[j]? =ai uu/\eI E w' c' y uu/\∀n∈bP y,u_ D n:=by
    intro j y C;have k:j<h9.length:=by rw[<-h2];exact(aW.1 C).1
    obtain⟨uu,M,ha⟩:=hv j h9[j] (by simp[k]);obtain⟨k1,k2⟩:=one j y uu C (λy1 h=>by simp[k]at h;rw[<-h];exact ha);exact⟨uu,M,k1,k2⟩
   refine⟨⟨hz,rfl,by rw[hs];exact h2.symm,λj y C=> ?_⟩,λn f=> ?_⟩
   ·obtain⟨uu,k1,k2,_⟩:=cell j y C;exact⟨uu,k1,k2⟩
   ·obtain⟨y,hy,f⟩:=bL.1 f;obtain⟨j,C⟩:=b5 hy;obtain⟨uu,_,_,k3⟩:=cell j y C;exact k3 n f
  ·exact M.elim
 have xc:jb E w' c' (sZ ss) v/\∀n∈cX (sZ ss),u_ D n:=by
  obtain⟨hl,hr⟩:=xy;have kz:∀(l l3:aE (aZ×aE AV)),l=ss->l3=lG 500 r.rs->jb E w' Q (.kz l3) v->jb E w' c' (.kz l) v/\∀n∈cX (.kz l),u_ D n:=by
   rintro l l3 rfl rfl ⟨us,rfl,hs,hv⟩;have cell:∀(j:aN) (x:aZ×aE AV),l[j]? =ai x->∃u:bS,us[j]? =ai u/\qG E w' c' x.1 x.2 u/\∀n∈x.2.flatMap bP,u_ D n:=by
    intro j x C;have k:j<(lG 500 r.rs).length:=by rw[<-hl];exact(aW.1 C).1
    have h3:(lG 500 r.rs)[j]? =ai ((lG 500 r.rs)[j].1,(lG 500 r.rs)[j].2):=by simp[k]
    obtain⟨u,M,ha⟩:=hv j _ _ h3;obtain⟨k1,k2⟩:=x1 (hr j x _ C h3) ha;exact⟨u,M,k1,k2⟩
   refine⟨⟨us,rfl,by rw[hs];exact hl.symm,λj g xs C=> ?_⟩,λn f=> ?_⟩
   ·obtain⟨u,k1,k2,_⟩:=cell j (g,xs) C;exact⟨u,k1,k2⟩
   ·obtain⟨x,hx,f⟩:=bL.1 f;obtain⟨j,C⟩:=b5 hx;obtain⟨u,_,_,k3⟩:=cell j x C;exact k3 n f
  unfold Uc at h7;cases h3:lG 500 r.rs with
  |nil=>rw[h3]at h7 hl;have:ss=[]:=eU hl;subst this;exact kz [] [] rfl h3.symm h7
  |cons x l=>
   cases l with
   |nil=>obtain⟨g,xs⟩:=x;rw[h3]at h7 hl;obtain⟨⟨g',y2⟩,rfl⟩:=fW.1 (show ss.length=1 from hl);exact x1 (s3:=(g,xs)) (hr 0 _ _ rfl (by rw[h3];rfl)) h7
   |cons y l=>
    rw[h3]at h7 hl;match ss,hl with
    |s1::s2::st,_=>exact kz _ (x::y::l) rfl h3.symm h7
    |[_],hl=>simp at hl
    |[],hl=>simp at hl
 refine⟨c',?_⟩
 have:=IH h5 xw hd (D:=D) (s:=sZ ss) (v:=v) (w':=w') (c':=c') hA ?_ ?_ ?_ ?_ hK xr xj ?_ N.size N.os N.tape N.output xc.1 (λn f=>.inr (xc.2 n f))
 ·exact⟨this.1,this.2.1,this.2.2,hA⟩
 ·intro n x hm;rcases U n x hm with hm|⟨t,hm⟩
  ·obtain⟨x3,f,el,ex,xs,hg,rfl⟩:=x2 n x hm;have xe:find L n=none:=by
    cases O:find L n with
    |none=>rfl
    |some x=>obtain⟨ob,hx⟩:=I4 O;have:=(hL n _ ob hx).old (by rw[hg];simp);exact cO f (hh.ap n this)
   obtain⟨e1,_⟩:=xb n xe;obtain⟨h1,h2,ti,h3,h4⟩:=lA h5 hg;show Holds E w' K' (kX (c'.P n)) _/\(c'.P n).n=_/\_;rw[e1];refine⟨?_,h1,ti,h3,h4.1⟩
   have:=sK h5 hg (K:=(qZ σ c ps).K) xi (λb A=>.inr ⟨n,f,_,hg,A⟩);exact this.frame (N.Y9 xn) (λb A=>(X x3 b).2 (xg b A))
  ·have he:=hL n t x hm;cases t with
   |none=>rw[he.dead rfl];trivial
   |some y=>
    obtain⟨e1,e2⟩:=at_ n y x hm;rcases(he.some_ y rfl).2 with ⟨el,ex,ys,rfl,h3,xv⟩|⟨us,V,rfl,h3,hl,hc⟩
    ·obtain⟨⟨t2,r1,r2,r3⟩,r4,r5⟩:=R.obj y _ h3;refine⟨⟨t2,r1,by rw[e1];exact r2,r3⟩,?_,λhx=>by rw[e1,e2];exact r5 hx⟩
     rw[e1,e2];refine r4.frame (λ_=>rfl) (λi j yy xx u hy hx hr=> ?_);split at hr
     ·rename_i x9;rw[bm x9];exact hr
     ·rename_i x9;rw[bk x9];have x3:=xv.resolve_left x9;exact hr.frame (λ_ _=>rfl) (λb A=>(X x3 b).2 A)
    ·obtain⟨hz,A,hs,hv⟩:=R.obj y _ h3;refine⟨hz,by rw[e1];exact A,by rw[hs];exact hl.symm,λj yy C=> ?_⟩
     have k:j<V.length:=by rw[<-hl];exact(aW.1 C).1
     obtain⟨u,M,ha⟩:=hv j V[j] (by simp[k]);exact⟨u,M,(ht (hc j yy V[j] C (by simp[k])) ha).1⟩
 ·intro n x b hm O;rcases U n x hm with hm|⟨t,hm⟩
  ·obtain⟨_,_,el,ex,xs,_,rfl⟩:=x2 n x hm;exact O.elim
  ·cases t with
   |none=>rw[(hL n _ x hm).dead rfl]at O;exact O.elim
   |some y=>
    obtain⟨o3,h3,x7⟩:=Y n y x b hm O;have S:kh (u_ D) σ c b\/w.heap.size<=b:=(N.own b ⟨y,o3,h3,x7⟩).imp (x4 b) id;refine⟨S,λhk=> ?_⟩
    cases h:ok with
    |true=>exact R.kk y o3 b h3 x7 ((X h b).1 hk)
    |false=>
     have hk:=(x5 h b).1 hk;rcases S with S|S
     ·exact h5.Hk S.own hk
     ·have:=h5.lt b hk;omega
 ·intro n x n' x' b hm B O x6;rcases U n x hm with hm|⟨t,hm⟩
  ·obtain⟨_,_,el,ex,xs,_,rfl⟩:=x2 n x hm;exact O.elim
  ·rcases U n' x' B with B|⟨t',B⟩
   ·obtain⟨_,_,el,ex,xs,_,rfl⟩:=x2 n' x' B;exact x6.elim
   ·cases t with
    |none=>rw[(hL n _ x hm).dead rfl]at O;exact O.elim
    |some y=>
     cases t' with
     |none=>rw[(hL n' _ x' B).dead rfl]at x6;exact x6.elim
     |some y'=>obtain⟨o3,h3,x7⟩:=Y n y x b hm O;obtain⟨y0,xd,xl⟩:=Y n' y' x' b B x6;have:=R.sep y o3 y' y0 b h3 xd x7 xl;subst this;exact xm n n' y x x' hm B
 ·intro n xs hm y hy m x8;rcases U n _ hm with hm|⟨t,hm⟩
  ·obtain⟨_,_,el,ex,zs,_,h⟩:=x2 n _ hm;cases h
  ·have he:=hL n t _ hm;cases t with
   |none=>have:=he.dead rfl;cases this
   |some z=>
    rcases(he.some_ z rfl).2 with ⟨el,ex,ys,h,_⟩|⟨us,V,h,h3,hl,hc⟩
    ·cases h
    ·cases h;obtain⟨j,C⟩:=b5 hy;have k:j<V.length:=by rw[<-hl];exact(aW.1 C).1
     rcases hc j y V[j] C (by simp[k])with ⟨h1,h2⟩|⟨n',x',ob',h1,_,h2⟩
     ·exfalso;subst h1;cases h:V[j]<;>rw[h]at x8 h2<;>first|(simp[bP]at x8;done)|exact h2
     ·rw[h1]at x8;have:m=n':=by simpa [bP]using x8
      subst this;exact .inr ⟨ob',xa _ _ _ h2⟩
 ·intro b A xu;exact N.same b A (λho=>xu (x4 b ho))
end
end Go.FG
namespace Go.FG
def Mg(a:gD)(xs:aE AA):Prop:=(∃g,a=.v g xs)\/a=.pt xs
inductive Cg (args:aE gD) (r:iO):aN->e9->Prop
 |rb (q xs):r.rs[q]? =ai (.pt xs)->Cg args r (dU (500+q) 900) (.o (.box (gC (dU (500+q) 0) xs)))
 |rr (q a xs j e ex ys):r.rs[q]? =ai a->Mg a xs->xs[j]? =ai (.ow e ex ys)->Cg args r (dU (500+q) j) (.o (.row e ex ys))
 |ob (p xs):args[p]? =ai (.pt xs)->Cg args r (dU p 900) (.o (.box (oz p 0 (r.outs.getD p []))))
 |kp (p a xs j e ex z ys):args[p]? =ai a->Mg a xs->xs[j]? =ai (.ow e ex z)->(r.outs.getD p [])[j]? =ai (.kp ys)->Cg args r (dU p j) (.o (.row e ex ys))
 |nw (p a xs j e ex ys):args[p]? =ai a->Mg a xs->(r.outs.getD p [])[j]? =ai (.ow e ex ys)->Cg args r (dU p (100+j)) (.o (.row e ex ys))
def Jh:∀{l:aE gD} {q:aN} {k:aN} {c:e9},(k,c)∈LB q l↔∃i a,l[i]? =ai a/\(k,c)∈vL (q+i) a:=by
 intro l;induction l with
 |nil=>intro q k c;simp[LB]
 |cons a l ih=>
  intro q k c;simp only[LB,a_,ih];constructor
  ·rintro (h|⟨i,b,h0,h⟩)
   ·exact⟨0,a,rfl,h⟩
   ·exact⟨i+1,b,h0,by rw[show q+(i+1)=q+1+i by omega];exact h⟩
  ·rintro ⟨i,b,h0,h⟩;cases i with
   |zero=>cases h0;exact .inl h
   |succ i=>exact .inr ⟨i,b,h0,by rw[show q+1+i=q+(i+1)by omega];exact h⟩
def Jg:∀{l:aE gD} {p:aN} {os:aE (aE AA)} {k:aN} {c:e9},(k,c)∈Lt p l os↔∃i a,l[i]? =ai a/\(k,c)∈Dh (p+i) a (os.getD i []):=by
 intro l;induction l with
 |nil=>intro p os k c;simp[Lt]
 |cons a l ih=>
  intro p os k c;have h0:os.headD []=os.getD 0 []:=by cases os<;>rfl
  have h1:∀i,os.tail.getD i []=os.getD (i+1) []:=λi=>by cases os<;>simp
  simp only[Lt,a_,ih,h0,h1];constructor
  ·rintro (h|⟨i,b,d,h⟩)
   ·exact⟨0,a,rfl,h⟩
   ·exact⟨i+1,b,d,by rw[show p+(i+1)=p+1+i by omega];exact h⟩
  ·rintro ⟨i,b,d,h⟩;cases i with
   |zero=>cases d;exact .inl h
   |succ i=>exact .inr ⟨i,b,d,by rw[show p+1+i=p+(i+1)by omega];exact h⟩
def Ad:(k,c)∈Jt p j a b↔(∃e ex z d,a=.ow e ex z/\b=.kp d/\k=dj (dU p j)/\c=.o (.row e ex d))\/∃e ex d,b=.ow e ex d/\k=dj (dU p (100+j))/\c=.o (.row e ex d):=by
 cases b with
 |kp d=>
  cases a with
  |ow e ex z=>
   constructor
   ·intro h;have h:=a7.1 h;cases h;exact .inl ⟨e,ex,z,d,rfl,rfl,rfl,rfl⟩
   ·rintro (⟨m,f,r,i,h1,h2,h3,h4⟩|⟨_,_,_,h,_⟩)
    ·cases h1;cases h2;rw[h3,h4];exact a7.2 rfl
    ·cases h
  |_=>simp[Jt]
 |ow e ex d=>
  constructor
  ·intro h;have h:=a7.1 h;cases h;exact .inr ⟨e,ex,d,rfl,rfl,rfl⟩
  ·rintro (⟨_,_,_,_,_,h,_⟩|⟨m,f,i,h2,h3,h4⟩)
   ·cases h
   ·cases h2;rw[h3,h4];exact a7.2 rfl
 |_=>simp[Jt]
def Lc:∀{l:aE AA} {j:aN} {as:aE AA} {k:aN} {c:e9},(k,c)∈uv p j as l↔∃i b,l[i]? =ai b/\(k,c)∈Jt p (j+i) (as.getD i .nl) b:=by
 intro l;induction l with
 |nil=>intro j as k c;simp[uv]
 |cons b l ih=>
  intro j as k c;have h0:as.headD .nl=as.getD 0 .nl:=by cases as<;>rfl
  have h1:∀i,as.tail.getD i .nl=as.getD (i+1) .nl:=λi=>by cases as<;>simp
  simp only[uv,a_,ih,h0,h1];constructor
  ·rintro (h|⟨i,f,d,h⟩)
   ·exact⟨0,b,rfl,h⟩
   ·exact⟨i+1,f,d,by rw[show j+(i+1)=j+1+i by omega];exact h⟩
  ·rintro ⟨i,f,d,h⟩;cases i with
   |zero=>cases d;exact .inl h
   |succ i=>exact .inr ⟨i,f,d,by rw[show j+1+i=j+(i+1)by omega];exact h⟩
def Ha{xs:aE AA}{i e:aN}{ex:aZ}{z:Row}:xs.getD i .nl=.ow e ex z↔xs[i]? =ai (.ow e ex z):=by
 rw[dc];cases h:xs[i]? with
 |none=>simp
 |some x=>simp
def rq{p:aN}{a:gD}{l:aE AA}{k:aN}{c:e9}:(k,c)∈Dh p a l↔(∃xs,a=.pt xs/\k=dj (dU p 900)/\c=.o (.box (oz p 0 l)))\/∃xs,Mg a xs/\((∃j e ex z d,xs[j]? =ai (.ow e ex z)/\l[j]? =ai (.kp d)/\k=dj (dU p j)/\c=.o (.row e ex d))\/∃j e ex d,l[j]? =ai (.ow e ex d)/\k=dj (dU p (100+j))/\c=.o (.row e ex d)):=by
 have cells:∀xs,(k,c)∈uv p 0 xs l↔((∃j e ex z d,xs[j]? =ai (.ow e ex z)/\l[j]? =ai (.kp d)/\k=dj (dU p j)/\c=.o (.row e ex d))\/∃j e ex d,l[j]? =ai (.ow e ex d)/\k=dj (dU p (100+j))/\c=.o (.row e ex d)):=by
  intro xs;rw[Lc];constructor
  ·rintro ⟨i,b,f,h⟩;rw[bV]at h;rcases Ad.1 h with ⟨e,ex,z,d,h1,rfl,h2,h3⟩|⟨e,ex,d,rfl,h2,h3⟩
   ·exact .inl ⟨i,e,ex,z,d,Ha.1 h1,f,h2,h3⟩
   ·exact .inr ⟨i,e,ex,d,f,h2,h3⟩
  ·rintro (⟨i,e,ex,z,d,h1,f,h2,h3⟩|⟨i,e,ex,d,f,h2,h3⟩)
   ·exact⟨i,_,f,Ad.2 (.inl ⟨e,ex,z,d,Ha.2 h1,rfl,by rw[bV];exact h2,h3⟩)⟩
   ·exact⟨i,_,f,Ad.2 (.inr ⟨e,ex,d,rfl,by rw[bV];exact h2,h3⟩)⟩
 cases a with
 |v g xs=>
  simp only[Dh,cells];constructor
  ·intro h;exact .inr ⟨xs,.inl ⟨g,rfl⟩,h⟩
  ·rintro (⟨d,h,_⟩|⟨d,h|h,m⟩)
   ·cases h
   ·obtain⟨r,h⟩:=h;cases h;exact m
   ·cases h
 |pt xs=>
  simp only[Dh,cF,cells,jg];constructor
  ·rintro (⟨h1,h2⟩|h)
   ·exact .inl ⟨xs,rfl,h1,h2⟩
   ·exact .inr ⟨xs,.inr rfl,h⟩
  ·rintro (⟨d,h,h1,h2⟩|⟨d,h|h,m⟩)
   ·exact .inl ⟨h1,h2⟩
   ·obtain⟨r,h⟩:=h;cases h
   ·cases h;exact .inr m
 |fb xs=>
  simp only[Dh,lQ,false_iff];rintro (⟨d,h,_⟩|⟨d,h|h,_⟩)
  ·cases h
  ·obtain⟨r,h⟩:=h;cases h
  ·cases h
def xZ:(dj m,c)∈LB 500 r.rs++Lt 0 args r.outs↔Cg args r m c:=by
 rw[a_,Jh,Jg];constructor
 ·rintro (⟨q,a,h0,h⟩|⟨p,a,h0,h⟩)
  ·rcases iA.1 h with ⟨xs,rfl,h1,rfl⟩|⟨xs,j,e,ex,d,f,i,h1,rfl⟩
   ·rw[j9 h1];exact .rb q xs h0
   ·rw[j9 h1];exact .rr q a xs j e ex d h0 f i
  ·rw[bV]at h;rcases rq.1 h with ⟨xs,rfl,h1,rfl⟩|⟨xs,f,⟨j,e,ex,z,d,h2,h3,h1,rfl⟩|⟨j,e,ex,d,h3,h1,rfl⟩⟩
   ·rw[j9 h1];exact .ob p xs h0
   ·rw[j9 h1];exact .kp p a xs j e ex z d h0 f h2 h3
   ·rw[j9 h1];exact .nw p a xs j e ex d h0 f h3
 ·intro h;cases h with
  |rb q xs h0=>exact .inl ⟨q,_,h0,iA.2 (.inl ⟨xs,rfl,rfl,rfl⟩)⟩
  |rr q a xs j e ex d h0 f i=>exact .inl ⟨q,a,h0,iA.2 (.inr ⟨xs,j,e,ex,d,f,i,rfl,rfl⟩)⟩
  |ob p xs h0=>exact .inr ⟨p,_,h0,rq.2 (.inl ⟨xs,rfl,by rw[bV],by rw[bV]⟩)⟩
  |kp p a xs j e ex z d h0 f h2 h3=>exact .inr ⟨p,a,h0,rq.2 (.inr ⟨xs,f,.inl ⟨j,e,ex,z,d,h2,h3,by rw[bV],rfl⟩⟩)⟩
  |nw p a xs j e ex d h0 f h3=>exact .inr ⟨p,a,h0,rq.2 (.inr ⟨xs,f,.inr ⟨j,e,ex,d,h3,by rw[bV],rfl⟩⟩)⟩
def YC:aG AA->aG e9
 |some (.ow e ex d)=>ai (.o (.row e ex d))|_=>ay
def kpC(a b:aG AA):aG e9:=
 match a,b with|some (.ow e ex _),ai (.kp d)=>ai (.o (.row e ex d))|_,_=>ay
def R7:gD->aE AA|.v _ xs=>xs|.pt xs=>xs|.fb _=>[]
def Mg.eq(h:Mg a xs):R7 a=xs:=by rcases h with ⟨g,rfl⟩|rfl<;>rfl
def EU(args:aE gD)(r:iO)(P J:aN):aG e9:=
 if 500<=P then(match r.rs[P-500]? with
  |some a=>if J=900 then ai (.o (.box (gC (dU P 0) (R7 a))))else YC (R7 a)[J]?
  |none=>ay)
 else(match args[P]? with
  |some a=>if J=900 then ai (.o (.box (oz P 0 (r.outs.getD P []))))else if J<100 then kpC (R7 a)[J]? (r.outs.getD P [])[J]? else YC (r.outs.getD P [])[J-100]?
  |none=>ay)
structure Small (args:aE gD) (r:iO):Prop where
 a:∀(p:aN) (a:gD) (xs:aE AA),args[p]? =ai a->Mg a xs->p<500
 rl:∀(q:aN) (a:gD) (xs:aE AA),r.rs[q]? =ai a->Mg a xs->xs.length<=100
 o:∀p:aN,(r.outs.getD p []).length<=100
def IX(hs:Small args r)(h:Cg args r m c):∃P J,m=dU P J/\J<1000/\EU args r P J=ai c:=by
 cases h with
 |rb q xs h0=>exact⟨500+q,900,rfl,by omega,by simp[EU,h0,R7]⟩
 |rr q a xs j e ex x h0 i u=>
  have:=hs.rl q a xs h0 i;have k:=(aW.1 u).1;refine⟨500+q,j,rfl,by omega,?_⟩
  have:j≠900:=by omega
  simp[EU,h0,i.eq,u,this,YC]
 |ob p xs h0=>
  have:=hs.a p _ xs h0 (.inr rfl);have:¬500<=p:=by omega
  exact⟨p,900,rfl,by omega,by simp[EU,h0,this]⟩
 |kp p a xs j e ex z x h0 i h2 h3=>
  have:=hs.a p _ xs h0 i;have s:¬500<=p:=by omega
  have k:=(aW.1 h3).1;have:=hs.o p;have d:j≠900:=by omega
  have f:j<100:=by omega
  refine⟨p,j,rfl,by omega,?_⟩
  simp only[EU,h0,i.eq,h2,h3,d,f,s,if_false,if_true,kpC]
 |nw p a xs j e ex x h0 i h3=>
  have:=hs.a p _ xs h0 i;have s:¬500<=p:=by omega
  have k:=(aW.1 h3).1;have:=hs.o p;have d:¬100+j=900:=by omega
  have f:¬100+j<100:=by omega
  refine⟨p,100+j,rfl,by omega,?_⟩
  have t:100+j-100=j:=by omega
  simp only[EU,h0,h3,d,f,t,s,if_false,YC]
def Av:∀{l:aE (aN×e9)} {k:aN} {c:e9},(k,c)∈l->(∀c',(k,c')∈l->c'=c)->eW l k=c:=by
 intro l;induction l with
 |nil=>intro k c h;cases h
 |cons d l ih=>
  obtain⟨k',c'⟩:=d;intro k c h m;unfold eW;cases j:bN k k' with
  |true=>have:=aX j;subst this;exact m c' (cQ ..)
  |false=>
   rcases cF.1 h with h|h
   ·cases h;simp at j
   ·exact ih h (λf i=>m f (cK _ i))
def xY(hs:Small args r)(h:Cg args r m c):n9 args r (dj m)=c:=by refine Av (xZ.2 h) (λc' j=> ?_);obtain⟨P,J,h1,h2,h3⟩:=IX hs h;obtain⟨s,k,f,i,d⟩:=IX hs (xZ.1 j);obtain⟨rfl,rfl⟩:=uV h2 i (h1.symm.trans f);rw[h3]at d;cases d;rfl
def q0(h:n9 args r (dj m)=.o o):Cg args r m (.o o):=xZ.1 (oe h (by simp))
def wA:∀{xs:aE AA} {j i:aN},(oz p j xs)[i]? =(xs[i]?).map (ur p (j+i)):=by
 intro xs;induction xs with
 |nil=>intro j i;simp[oz]
 |cons a xs ih=>
  intro j i;cases i with
  |zero=>rfl
  |succ i=>simp only[oz,dQ,ih];congr 2;omega
def vM:∀{xs:aE AA} {j:aN},(oz p j xs).length=xs.length:=by
 intro xs;induction xs with
 |nil=>intro j;rfl
 |cons a xs ih=>intro j;simp[oz,ih]
def Fv:∀{l:aE gD} {q i:aN},(lG q l)[i]? =(l[i]?).map (GR (q+i)):=by
 intro l;induction l with
 |nil=>intro q i;simp[lG]
 |cons a l ih=>
  intro q i;cases i with
  |zero=>rfl
  |succ i=>simp only[lG,dQ,ih];congr 2;omega
def ym:∀{l:aE gD} {q:aN},(lG q l).length=l.length:=by
 intro l;induction l with
 |nil=>intro q;rfl
 |cons a l ih=>intro q;simp[lG,ih]
end Go.FG
namespace Go.FG
def mA(L:aE L_):aE (aN×e9):=kD (L.map λt=>(t.1,t.2.2))
def iP(L R:aE L_):mA (L++R)=mA L++mA R:=by simp[mA,kD]
def QC(ok:aZ)(σ:St)(n:aN)(a:AA):Prop:=
 match a with
 |.ow _ ex _=>(ex=ao\/ok=ao)/\σ (dj n)=.jW/\n<900000000
 |.sh _ _=>ok=ao|.kp _=>False|.fn _ _=>False|_=>True
def PF(n x:aN)(a:AA):aE L_:=match a with|.ow e ex d=>[(n,ai x,.row e ex d)]|_=>[]
def Jf:(m,t,ob)∈PF n x a↔∃e ex d,a=.ow e ex d/\m=n/\t=ai x/\ob=.row e ex d:=by
 cases a with
 |ow e ex d=>
  constructor
  ·intro h;have h:=a7.1 h;cases h;exact⟨e,ex,d,rfl,rfl,rfl,rfl⟩
  ·rintro ⟨j,f,i,h,rfl,rfl,rfl⟩;cases h;exact a7.2 rfl
 |_=>simp[PF]
def ma.mono(h:ma ok L v v3)(hs:∀e∈L,e∈L'):ma ok L' v v3:=h.imp id (λ⟨n,x,ob,h1,h2,h3⟩=>⟨n,x,ob,h1,h2,hs _ h3⟩)
def nW.mono(h:nW ok L v v3)(hs:∀e∈L,e∈L'):nW ok L' v v3:=⟨h.1,λj x y d f=>(h.2 j x y d f).mono hs⟩
section
variable {P:dx} {E:gy} {σ:St} {a:Act} {w:cN} {c:gQ} {o:ia} {nm:aN} {e:tF}
def EK{ok:aZ}{n:aN}{a:AA}{v:AV}{ws:aE (aN×e9)}(h:(sj ok n a).val σ=ai (v,ws)):QC ok σ n a/\v=lF n a/\∀x,ws=mA (PF n x a)/\ma ok (PF n x a) v (lF x a):=by
 cases a with
 |i=>obtain⟨rfl,rfl⟩:=bX (aL h);exact⟨trivial,rfl,λx=>⟨rfl,.inl ⟨rfl,trivial⟩⟩⟩
 |b=>obtain⟨rfl,rfl⟩:=bX (aL h);exact⟨trivial,rfl,λx=>⟨rfl,.inl ⟨rfl,trivial⟩⟩⟩
 |s=>obtain⟨rfl,rfl⟩:=bX (aL h);exact⟨trivial,rfl,λx=>⟨rfl,.inl ⟨rfl,trivial⟩⟩⟩
 |nl=>obtain⟨rfl,rfl⟩:=bX (aL h);exact⟨trivial,rfl,λx=>⟨rfl,.inl ⟨rfl,trivial⟩⟩⟩
 |sh e xs=>obtain⟨h1,h⟩:=cZ h;obtain⟨rfl,rfl⟩:=bX (aL h);exact⟨h1,rfl,λx=>⟨rfl,.inl ⟨rfl,h1⟩⟩⟩
 |ow e ex xs=>obtain⟨h1,h⟩:=cZ h;obtain⟨u,h2,h⟩:=bu h;obtain⟨rfl,rfl⟩:=bX (aL h);obtain⟨d,f⟩:=kW h2;exact⟨⟨by simpa using h1,d,f⟩,rfl,λx=>⟨rfl,.inr ⟨n,x,_,rfl,rfl,a7.2 rfl⟩⟩⟩
 |kp=>simp[sj]at h
 |fn=>simp[sj]at h
def CC{ok:aZ}{P:aN}:∀{xs:aE AA} {n j:aN} {vs:aE AV} {ws:aE (aN×e9)},(BS ok n xs).val σ=ai (vs,ws)->vs=gC n xs/\(∀(i:aN) (a:AA),xs[i]? =ai a->QC ok σ (n+i) a)/\
  ∃L,ws=mA L/\(∀m t ob,(m,t,ob)∈L↔∃i e ex d,xs[i]? =ai (.ow e ex d)/\m=n+i/\t=ai (dU P (j+i))/\ob=.row e ex d)/\∀(i:aN) (v:AV) (a:AA),vs[i]? =ai v->xs[i]? =ai a->ma ok L v (lF (dU P (j+i)) a):=by
 intro xs;induction xs with
 |nil=>intro n j vs ws h;obtain⟨rfl,rfl⟩:=bX (aL h);exact⟨rfl,λi a h=>by simp at h,[],rfl,λm t ob=>by simp,λi v a h=>by simp at h⟩
 |cons a xs ih=>
  intro n j vs ws h;obtain⟨⟨v,w1⟩,h1,h⟩:=bu h;obtain⟨⟨M,N⟩,h2,h⟩:=bu h;obtain⟨rfl,rfl⟩:=bX (aL h);obtain⟨u,rfl,x⟩:=EK h1;obtain⟨rfl,y⟩:=x (dU P j);obtain⟨z,A,L,rfl,B,C⟩:=ih (j:=j+1) h2;refine⟨by rw[z];rfl,λi f hi=> ?_,PF n (dU P j) a++L,by rw[iP],λm t ob=> ?_,λi K f s r=> ?_⟩
  ·cases i with
   |zero=>cases hi;exact u
   |succ i=>have:=A i f hi;rwa[show n+1+i=n+(i+1)by omega]at this
  ·rw[a_,Jf,B];constructor
   ·rintro (⟨e,ex,d,rfl,rfl,rfl,rfl⟩|⟨i,e,ex,d,h1,rfl,rfl,rfl⟩)
    ·exact⟨0,e,ex,d,rfl,rfl,rfl,rfl⟩
    ·exact⟨i+1,e,ex,d,h1,by omega,by rw[show j+1+i=j+(i+1)by omega],rfl⟩
   ·rintro ⟨i,e,ex,d,h1,rfl,rfl,rfl⟩;cases i with
    |zero=>cases h1;exact .inl ⟨e,ex,d,rfl,rfl,rfl,rfl⟩
    |succ i=>exact .inr ⟨i,e,ex,d,h1,by omega,by rw[show j+1+i=j+(i+1)by omega],rfl⟩
  ·cases i with
   |zero=>cases s;cases r;exact y.mono (λe k=>bZ _ k)
   |succ i=>have:=(C i K f s r).mono (L':=PF n (dU P j) a++L) (λe k=>bR _ k);rwa[show j+1+i=j+(i+1)by omega]at this
def Il(σ:St)(ok:aZ)(b P:aN)(x:gD)(L:aE L_)(n:aN)(t:aG aN)(ob:Obj):Prop:=
 (∃xs j e ex d,Mg x xs/\xs[j]? =ai (.ow e ex d)/\n=b+j/\t=ai (dU P j)/\ob=.row e ex d/\(ex=ao\/ok=ao)/\σ (dj n)=.jW/\n<900000000)\/
 ∃xs,x=.pt xs/\n=b+30/\t=ai (dU P 900)/\ob=.box (gC b xs)/\σ (dj n)=.jW/\n<900000000/\nW ok L (gC b xs) (gC (dU P 0) xs)
def Kr{ok:aZ}{b P:aN}{x:gD}{s:aZ×aE AV}{ws:aE (aN×e9)}(h:(GU ok b x).val σ=ai (s,ws)):∃L,ws=mA L/\(∀n t ob,(n,t,ob)∈L->Il σ ok b P x L n t ob)/\ArgRel ok L s (GR P x):=by
 have m:∀j,dU P (0+j)=dU P 0+j:=λj=>by unfold dU;omega
 cases x with
 |v g xs=>
  obtain⟨⟨vs,w1⟩,h1,h⟩:=bu h;obtain⟨rfl,rfl⟩:=bX (aL h);obtain⟨rfl,r,L,rfl,y,z⟩:=CC (P:=P) (j:=0) h1;refine⟨L,rfl,λn t ob hm=> ?_,rfl,by simp[GR,iR],λj v A k d=>.inl ?_⟩
  ·obtain⟨i,e,ex,B,h1,rfl,rfl,rfl⟩:=(y n t ob).1 hm;have:=r i _ h1;exact .inl ⟨xs,i,e,ex,B,.inl ⟨g,rfl⟩,h1,rfl,by rw[bV],rfl,this⟩
  ·have d:(gC (dU P 0) xs)[j]? =ai A:=d;rw[iD]at d;cases f:xs[j]? with
   |none=>rw[f]at d;cases d
   |some a=>rw[f]at d;cases d;have:=z j v a k f;rwa[m]at this
 |pt xs=>
  obtain⟨⟨vs,w1⟩,h1,h⟩:=bu h;obtain⟨u,h2,h⟩:=bu h;obtain⟨rfl,rfl⟩:=bX (aL h);obtain⟨C,K⟩:=kW h2;obtain⟨rfl,r,L,rfl,y,z⟩:=CC (P:=P) (j:=0) h1;have cr:nW ok L (gC b xs) (gC (dU P 0) xs):=by
   refine⟨by rw[iR,iR],λj v A k d=> ?_⟩
   rw[iD]at d;cases f:xs[j]? with
   |none=>rw[f]at d;cases d
   |some a=>rw[f]at d;cases d;have:=z j v a k f;rwa[m]at this
  refine⟨L++[(b+30,ai (dU P 900),.box (gC b xs))],by rw[iP];rfl,λn t ob hm=> ?_,rfl,rfl,λj v A k d=>.inr ?_⟩
  ·rcases a_.1 hm with hm|hm
   ·obtain⟨i,e,ex,B,h1,rfl,rfl,rfl⟩:=(y n t ob).1 hm;have:=r i _ h1;exact .inl ⟨xs,i,e,ex,B,.inr rfl,h1,rfl,by rw[bV],rfl,this⟩
   ·rw[a7]at hm;cases hm;exact .inr ⟨xs,rfl,rfl,rfl,rfl,C,K,cr.mono (λe M=>bZ _ M)⟩
  ·cases j with
   |zero=>cases k;cases d;exact⟨_,_,_,rfl,rfl,bR _ (a7.2 rfl)⟩
   |succ j=>simp at k
 |fb xs=>simp[GU]at h
def ArgRel.mono(h:ArgRel ok L s s3)(hs:∀e∈L,e∈L'):ArgRel ok L' s s3:=⟨h.1,h.2.1,λj x y d f=>(h.2.2 j x y d f).imp (λh=>h.mono hs) (λ⟨n,x,ob,h1,h2,h3⟩=>⟨n,x,ob,h1,h2,hs _ h3⟩)⟩
def Il.mono{ok:aZ}{b P:aN}{x:gD}{L L':aE L_}{n:aN}{t:aG aN}{ob:Obj}(h:Il σ ok b P x L n t ob)(hs:∀e∈L,e∈L'):Il σ ok b P x L' n t ob:=h.imp id (λ⟨xs,h1,h2,h3,h4,d,h6,f⟩=>⟨xs,h1,h2,h3,h4,d,h6,f.mono hs⟩)
def IA{ok:aZ}:∀{l:aE gD} {b P:aN} {i:aE (aZ×aE AV)} {ws:aE (aN×e9)},(CD ok b l).val σ=ai (i,ws)->∃L,ws=mA L/\(∀n t ob,(n,t,ob)∈L->∃q x,l[q]? =ai x/\Il σ ok (b+40*q) (P+q) x L n t ob)/\FL ok L i (lG P l):=by
 intro l;induction l with
 |nil=>intro b P i ws h;obtain⟨rfl,rfl⟩:=bX (aL h);exact⟨[],rfl,λn t ob h=>(by cases h),rfl,λj x C h=>by simp at h⟩
 |cons x l ih=>
  intro b P i ws h;obtain⟨⟨v,w1⟩,h1,h⟩:=bu h;obtain⟨⟨A,B⟩,h2,h⟩:=bu h;obtain⟨rfl,rfl⟩:=bX (aL h);obtain⟨L1,rfl,a1,a2⟩:=Kr (P:=P) h1;obtain⟨k,rfl,m,r,u⟩:=ih (P:=P+1) h2;refine⟨L1++k,by rw[iP],λn t ob hm=> ?_,by simp[lG,r],λj s s3 hs f=> ?_⟩
  ·rcases a_.1 hm with hm|hm
   ·exact⟨0,x,rfl,(a1 n t ob hm).mono (λe d=>bZ _ d)⟩
   ·obtain⟨q,y,hq,z⟩:=m n t ob hm;refine⟨q+1,y,hq,?_⟩
    rw[show b+40*(q+1)=b+40+40*q by omega,show P+(q+1)=P+1+q by omega];exact z.mono (λe d=>bR _ d)
  ·cases j with
   |zero=>cases hs;cases f;exact a2.mono (λe d=>bZ _ d)
   |succ j=>exact(u j s s3 hs f).mono (λe d=>bR _ d)
end
end Go.FG
namespace Go.FG
section
variable {P:dx} {E:gy} {σ:St} {a:Act} {w:cN} {c:gQ} {o:ia} {nm:aN} {e:tF}
def rO(σ:St)(ok f:aZ)(b p j:aN)(k:Pk)(a:AA)(n:aN)(t:aG aN)(ob:Obj):Prop:=
 (∃e ex,k.src=.own n e ex/\t=ay/\ob=.dead)\/
 (∃e ex d,k.src=.own n e ex/\a=.kp d/\t=ai (dU p j)/\ob=.row e ex d/\(ex=ao\/ok=ao))\/
 ∃e ex d,f=ao/\a=.ow e ex d/\n=b+j/\t=ai (dU p (100+j))/\ob=.row e ex d/\(ex=ao\/ok=ao)/\σ (dj n)=.jW/\n<900000000
def T1{ok:aZ}{b p j:aN}{k:Pk}{a:AA}{ws:aE (aN×e9)}(h:(Fs ok k a).val σ=ai ws):∃L,ws=mA L/\(∀n t ob,(n,t,ob)∈L->rO σ ok aq b p j k a n t ob)/\∀n e ex,k.src=.own n e ex->∃t ob,(n,t,ob)∈L:=by
 cases hs:k.src with
 |no=>
  have h:(Rd.ret []:Rd (aE (aN×e9))).val σ=ai ws:=by unfold Fs at h;rw[hs]at h;exact h
  obtain rfl:=aL h;exact⟨[],rfl,λn t ob h=>(by cases h),λn e ex h=>by cases h⟩
 |own n e ex=>
  cases a with
  |kp f=>
   have h:(bif ex||ok then Rd.ret [(dj n,e9.o (.row e ex f))]else .fail).val σ=ai ws:=by unfold Fs at h;rw[hs]at h;exact h
   obtain⟨h1,h⟩:=cZ h;obtain rfl:=aL h;refine⟨[(n,ai (dU p j),.row e ex f)],rfl,λm t ob hm=> ?_,λm i d h=> ?_⟩
   ·rw[a7]at hm;cases hm;exact .inr (.inl ⟨e,ex,f,hs,rfl,rfl,rfl,by simpa using h1⟩)
   ·cases h;exact⟨_,_,a7.2 rfl⟩
  |nl=>
   have h:(Rd.ret [(dj n,e9.o .dead)]:Rd (aE (aN×e9))).val σ=ai ws:=by unfold Fs at h;rw[hs]at h;exact h
   obtain rfl:=aL h;refine⟨[(n,ay,.dead)],rfl,λm t ob hm=> ?_,λm i d h=> ?_⟩
   ·rw[a7]at hm;cases hm;exact .inl ⟨e,ex,hs,rfl,rfl⟩
   ·cases h;exact⟨_,_,a7.2 rfl⟩
  |_=>unfold Fs at h;rw[hs]at h;simp at h
def PQ:∀{r:aE Pk} {l:aE AA} {j:aN} {ws:aE (aN×e9)},(Lv ok r l).val σ=ai ws->∃L,ws=mA L/\(∀n t ob,(n,t,ob)∈L->∃i k,r[i]? =ai k/\rO σ ok aq b p (j+i) k (l.getD i .nl) n t ob)/\
  ∀(i:aN) (k:Pk) (n e:aN) (ex:aZ),r[i]? =ai k->k.src=.own n e ex->∃t ob,(n,t,ob)∈L:=by
 intro r;induction r with
 |nil=>intro l j ws h;obtain rfl:=aL h;exact⟨[],rfl,λn t ob h=>(by cases h),λi k n e ex h=>by simp at h⟩
 |cons k r ih=>
  intro l j ws h;obtain⟨w1,h1,h⟩:=bu h;obtain⟨y,h2,h⟩:=bu h;obtain rfl:=aL h;obtain⟨L1,rfl,a1,a2⟩:=T1 (b:=b) (p:=p) (j:=j) h1;obtain⟨f,rfl,m,s⟩:=ih (j:=j+1) h2;have u:l.headD .nl=l.getD 0 .nl:=by cases l<;>rfl
  have x:∀i,l.tail.getD i .nl=l.getD (i+1) .nl:=λi=>by cases l<;>simp
  refine⟨L1++f,by rw[iP],λn t ob hm=> ?_,λi k' n e ex hk hs=> ?_⟩
  ·rcases a_.1 hm with hm|hm
   ·exact⟨0,k,rfl,by rw[<-u];exact a1 n t ob hm⟩
   ·obtain⟨i,k',hk,d⟩:=m n t ob hm;rw[x]at d;exact⟨i+1,k',hk,by rw[show j+(i+1)=j+1+i by omega];exact d⟩
  ·cases i with
   |zero=>cases hk;obtain⟨t,ob,h⟩:=a2 n e ex hs;exact⟨t,ob,bZ _ h⟩
   |succ i=>obtain⟨t,ob,h⟩:=s i k' n e ex hk hs;exact⟨t,ob,bR _ h⟩
def PN{ok:aZ}{b p j:aN}{k:Pk}{v d:AV}{a:AA}{ws:aE (aN×e9)}(C:∀n e ex,k.src=.own n e ex->v=.own n)(h:(Dg ok (b+j) k v a).val σ=ai (d,ws)):
  ∃L,ws=mA L/\(∀n t ob,(n,t,ob)∈L->rO σ ok ao b p j k a n t ob)/\(∀n e ex,k.src=.own n e ex->∃t ob,(n,t,ob)∈L)/\ma ok L d (ur p j a):=by
 have new:∀{d:AV} {ws:aE (aN×e9)},(sj ok (b+j) a).val σ=ai (d,ws)->∃L,ws=mA L/\(∀n t ob,(n,t,ob)∈L->rO σ ok ao b p j k a n t ob)/\ma ok L d (ur p j a):=by
  intro d ws h;obtain⟨u,rfl,z⟩:=EK h;obtain⟨rfl,A⟩:=z (dU p (100+j));refine⟨_,rfl,λn t ob hm=> ?_,?_⟩
  ·obtain⟨e,ex,r,rfl,rfl,rfl,rfl⟩:=Jf.1 hm;exact .inr (.inr ⟨e,ex,r,rfl,rfl,rfl,rfl,rfl,u⟩)
  ·have:ur p j a=lF (dU p (100+j)) a:=by cases a<;>first|rfl|exact u.elim
   rw[this];exact A
 cases hs:k.src with
 |no=>
  have h:(sj ok (b+j) a).val σ=ai (d,ws):=by unfold Dg at h;rw[hs]at h;exact h
  obtain⟨L,rfl,a1,a2⟩:=new h;exact⟨L,rfl,a1,λm s f h=>(by cases h),a2⟩
 |own n e ex=>
  have i:((sj ok (b+j) a).bind λ(x:AV×aE (aN×e9))=>Rd.ret (x.1,(dj n,e9.o .dead)::x.2)).val σ=ai (d,ws)->∃L,ws=mA L/\(∀n t ob,(n,t,ob)∈L->rO σ ok ao b p j k a n t ob)/\(∀y s f,Src.own n e ex=.own y s f->∃t ob,(y,t,ob)∈L)/\ma ok L d (ur p j a):=by
   intro h;obtain⟨⟨K,w1⟩,h1,h⟩:=bu h;obtain⟨rfl,rfl⟩:=bX (aL h);obtain⟨L,rfl,a1,a2⟩:=new h1;refine⟨(n,ay,.dead)::L,rfl,λm t ob hm=> ?_,λm s f h=> ?_,a2.mono (λe B=>cK _ B)⟩
   ·rcases cF.1 hm with hm|hm
    ·cases hm;exact .inl ⟨e,ex,hs,rfl,rfl⟩
    ·exact a1 m t ob hm
   ·cases h;exact⟨_,_,cQ ..⟩
  cases a with
  |kp r=>
   have h:(bif ex||ok then Rd.ret (v,[(dj n,e9.o (.row e ex r))])else .fail).val σ=ai (d,ws):=by unfold Dg at h;rw[hs]at h;exact h
   obtain⟨h1,h⟩:=cZ h;obtain⟨rfl,rfl⟩:=bX (aL h);refine⟨[(n,ai (dU p j),.row e ex r)],rfl,λm t ob hm=> ?_,λm s f h=> ?_,.inr ⟨n,dU p j,_,C n e ex hs,rfl,a7.2 rfl⟩⟩
   ·rw[a7]at hm;cases hm;exact .inr (.inl ⟨e,ex,r,hs,rfl,rfl,rfl,by simpa using h1⟩)
   ·cases h;exact⟨_,_,a7.2 rfl⟩
  |_=>exact i (by unfold Dg at h;rw[hs]at h;exact h)
def Ls:∀{r:aE Pk} {vs:aE AV} {l:aE AA} {j:aN} {d:aE AV} {ws:aE (aN×e9)},(∀(i:aN) (k:Pk) (n e:aN) (ex:aZ),r[i]? =ai k->k.src=.own n e ex->vs[i]? =ai (.own n))->(sE ok (b+j) r vs l).val σ=ai (d,ws)->
  l.length=r.length/\∃L,ws=mA L/\(∀n t ob,(n,t,ob)∈L->∃i k,r[i]? =ai k/\rO σ ok ao b p (j+i) k (l.getD i .nl) n t ob)/\
  (∀(i:aN) (k:Pk) (n e:aN) (ex:aZ),r[i]? =ai k->k.src=.own n e ex->∃t ob,(n,t,ob)∈L)/\d.length=l.length/\∀(i:aN) (v:AV) (a:AA),d[i]? =ai v->l[i]? =ai a->ma ok L v (ur p (j+i) a):=by
 intro r;induction r with
 |nil=>
  intro vs l j d ws u h;cases vs with
  |cons=>cases l<;>simp[sE]at h
  |nil=>
   cases l with
   |cons=>simp[sE]at h
   |nil=>obtain⟨rfl,rfl⟩:=bX (aL h);exact⟨rfl,[],rfl,λn t ob h=>(by cases h),λi k n e ex h=>by simp at h,rfl,λi v a h=>by simp at h⟩
 |cons k r ih=>
  intro vs l j d ws u h;cases vs with
  |nil=>cases l<;>simp[sE]at h
  |cons v vs=>
   cases l with
   |nil=>simp[sE]at h
   |cons a l=>
    obtain⟨⟨N,w1⟩,h1,h⟩:=bu h;obtain⟨⟨O,Q⟩,h2,h⟩:=bu h;obtain⟨rfl,rfl⟩:=bX (aL h);obtain⟨L1,rfl,a1,a2,a3⟩:=PN (p:=p) (λn e ex hs=>by have:=u 0 k n e ex rfl hs;simpa using this) h1;obtain⟨i0,x,rfl,z,A,B,C⟩:=ih (j:=j+1) (λi k' n e ex hk hs=>u (i+1) k' n e ex hk hs) h2;refine⟨by simp[i0],L1++x,by rw[iP],λn t ob hm=> ?_,λi k' n e ex hk hs=> ?_,by simp[B],λi M y m f=> ?_⟩
    ·rcases a_.1 hm with hm|hm
     ·exact⟨0,k,rfl,a1 n t ob hm⟩
     ·obtain⟨i,k',hk,K⟩:=z n t ob hm;exact⟨i+1,k',hk,by rw[show j+(i+1)=j+1+i by omega];exact K⟩
    ·cases i with
     |zero=>cases hk;obtain⟨t,ob,h⟩:=a2 n e ex hs;exact⟨t,ob,bZ _ h⟩
     |succ i=>obtain⟨t,ob,h⟩:=A i k' n e ex hk hs;exact⟨t,ob,bR _ h⟩
    ·cases i with
     |zero=>cases m;cases f;exact a3.mono (λe s=>bZ _ s)
     |succ i=>have:=(C i M y m f).mono (L':=L1++x) (λe s=>bR _ s);rwa[show j+1+i=j+(i+1)by omega]at this
def Ij(σ:St)(ok:aZ)(b p:aN)(pa:Pa)(l:aE AA)(L:aE L_)(n:aN)(t:aG aN)(ob:Obj):Prop:=
 (∃i k,pa.cs[i]? =ai k/\rO σ ok pa.box.isSome b p i k (l.getD i .nl) n t ob)\/∃xs d,pa.box=ai (n,xs)/\t=ai (dU p 900)/\ob=.box d/\nW ok L d (oz p 0 l)
def TZ(z:Bd T σ w c pb pa v)(h:(TY ok b pa l).val σ=ai ws):
  ∃L,ws=mA L/\(∀n t ob,(n,t,ob)∈L->Ij σ ok b p pa l L n t ob)/\∀n∈pa.uT,∃t ob,(n,t,ob)∈L:=by
 have cs:∀n,n∈pa.cs.flatMap (·.uT)->∃(i:aN) (k:Pk) (e:aN) (ex:aZ),pa.cs[i]? =ai k/\k.src=.own n e ex:=by
  intro n s;obtain⟨k,hk,s⟩:=bL.1 s;obtain⟨i,hi⟩:=b5 hk;unfold Pk.uT at s;split at s
  ·rename_i m e ex hs;have:=a7.1 s;subst this;exact⟨i,k,e,ex,hi,hs⟩
  ·cases s
 unfold TY at h;split at h
 ·rename_i n xs f;obtain⟨⟨r,w1⟩,h1,h⟩:=bu h;obtain rfl:=aL h;obtain⟨_,_,_,hl,_,x⟩:=z.box n xs f;obtain⟨i0,L,rfl,a1,a2,a3,a4⟩:=Ls (b:=b) (p:=p) (j:=0) x (by rw[BJ];exact h1);have cr:nW ok L r (oz p 0 l):=by
   refine⟨by rw[vM,a3],λi v K C d=> ?_⟩
   rw[wA]at d;cases A:l[i]? with
   |none=>rw[A]at d;cases d
   |some y=>rw[A]at d;cases d;exact a4 i v y C A
  refine⟨L++[(n,ai (dU p 900),.box r)],by rw[iP];rfl,λm t ob hm=> ?_,λm hm=> ?_⟩
  ·rcases a_.1 hm with hm|hm
   ·obtain⟨i,k,hk,u⟩:=a1 m t ob hm;rw[bV]at u;exact .inl ⟨i,k,hk,by rw[f];exact u⟩
   ·rw[a7]at hm;cases hm;exact .inr ⟨xs,r,f,rfl,rfl,cr.mono (λe B=>bZ _ B)⟩
  ·unfold Pa.uT at hm;rw[f]at hm;rcases a_.1 hm with hm|hm
   ·have:=a7.1 hm;subst this;exact⟨_,_,bR _ (a7.2 rfl)⟩
   ·obtain⟨i,k,e,ex,hk,hs⟩:=cs m hm;obtain⟨t,ob,h⟩:=a2 i k m e ex hk hs;exact⟨t,ob,bZ _ h⟩
 ·rename_i f;obtain⟨L,rfl,a1,a2⟩:=PQ (b:=b) (p:=p) (j:=0) h;refine⟨L,rfl,λm t ob hm=> ?_,λm hm=> ?_⟩
  ·obtain⟨i,k,hk,u⟩:=a1 m t ob hm;rw[bV]at u;exact .inl ⟨i,k,hk,by rw[f];exact u⟩
  ·unfold Pa.uT at hm;rw[f,eR]at hm;obtain⟨i,k,e,ex,hk,hs⟩:=cs m hm;exact a2 i k m e ex hk hs
def Ij.mono(h:Ij σ ok b p pa l L n t ob)(hs:∀e∈L,e∈L'):Ij σ ok b p pa l L' n t ob:=
 h.imp id (λ⟨xs,d,h1,h2,h3,h4⟩=>⟨xs,d,h1,h2,h3,h4.mono hs⟩)
def PO:∀{ps:aE Pa} {b p:aN} {os:aE (aE AA)} {ws:aE (aN×e9)},(∀(q:aN) (pa:Pa),ps[q]? =ai pa->∃v,Bd T σ w c pb pa v)->(Lu ok b ps os).val σ=ai ws->
  ∃L,ws=mA L/\(∀n t ob,(n,t,ob)∈L->∃q pa,ps[q]? =ai pa/\Ij σ ok (b+40*q) (p+q) pa (os.getD q []) L n t ob)/\∀n∈ps.flatMap (·.uT),∃t ob,(n,t,ob)∈L:=by
 intro ps;induction ps with
 |nil=>intro b p os ws _ h;obtain rfl:=aL h;exact⟨[],rfl,λn t ob h=>(by cases h),λn h=>(by cases h)⟩
 |cons pa ps ih=>
  intro b p os ws j h;obtain⟨w1,h1,h⟩:=bu h;obtain⟨A,h2,h⟩:=bu h;obtain rfl:=aL h;obtain⟨v,m⟩:=j 0 pa rfl;obtain⟨L1,rfl,a1,a2⟩:=TZ (p:=p) m h1;obtain⟨s,rfl,u,x⟩:=ih (p:=p+1) (λq d hq=>j (q+1) d hq) h2;have y:os.headD []=os.getD 0 []:=by cases os<;>rfl
  have z:∀i,os.tail.getD i []=os.getD (i+1) []:=λi=>by cases os<;>simp
  refine⟨L1++s,by rw[iP],λn t ob hm=> ?_,λn f=> ?_⟩
  ·rcases a_.1 hm with hm|hm
   ·exact⟨0,pa,rfl,by rw[<-y];exact(a1 n t ob hm).mono (λe k=>bZ _ k)⟩
   ·obtain⟨q,d,hq,r⟩:=u n t ob hm;rw[z]at r;refine⟨q+1,d,hq,?_⟩
    rw[show b+40*(q+1)=b+40+40*q by omega,show p+(q+1)=p+1+q by omega];exact r.mono (λe k=>bR _ k)
  ·rw[zd]at f;rcases a_.1 f with f|f
   ·obtain⟨t,ob,h⟩:=a2 n f;exact⟨t,ob,bZ _ h⟩
   ·obtain⟨t,ob,h⟩:=x n f;exact⟨t,ob,bR _ h⟩
def SD:∀{l:aE aN} {ws:aE (aN×e9)},(SC l).val σ=ai ws->∃Fz:aE (aN×Obj),ws=kD Fz/\(∀n x,(n,x)∈Fz->n∈l/\∃el ex xs,σ (dj n)=.o (.row el ex xs)/\x=.f_ el xs)/\∀n∈l,∃x,(n,x)∈Fz:=by
 intro l;induction l with
 |nil=>intro ws h;obtain rfl:=aL h;exact⟨[],rfl,λn x h=>(by cases h),λn h=>(by cases h)⟩
 |cons m l ih=>
  intro ws h;obtain⟨ob,hg,h⟩:=bu h;have hg:=dF hg;cases ob with
  |row el ex xs=>
   obtain⟨w1,h1,h⟩:=bu h;obtain rfl:=aL h;obtain⟨Fz,rfl,a1,a2⟩:=ih h1;refine⟨(m,.f_ el xs)::Fz,rfl,λn x hm=> ?_,λn d=> ?_⟩
   ·rcases cF.1 hm with hm|hm
    ·cases hm;exact⟨cQ ..,el,ex,xs,hg,rfl⟩
    ·obtain⟨h1,h2⟩:=a1 n x hm;exact⟨cK _ h1,h2⟩
   ·rcases cF.1 d with rfl|d
    ·exact⟨_,cQ ..⟩
    ·obtain⟨x,h⟩:=a2 n d;exact⟨x,cK _ h⟩
  |_=>simp at h
end
end Go.FG
namespace Go.FG
section
variable {P:dx} {E:gy} {σ:St} {a:Act} {w:cN} {c:gQ} {o:ia} {nm:aN} {e:tF}
def ajK(h:Bd T σ w c pb pa v):∃xs,Mg pa.arg xs/\xs=pa.cs.map (·.a)/\∀(j:aN) (k:Pk),pa.cs[j]? =ai k->∃u,we T σ w c pb k u:=by
 have h1:Mg pa.arg (pa.cs.map (·.a)):=by
  cases d:pa.box with
  |none=>obtain⟨g,h1,_⟩:=h.val d;exact .inl ⟨g,h1⟩
  |some f=>obtain⟨n,xs⟩:=f;exact .inr (h.box n xs d).1
 exact⟨_,h1,rfl,(T4 h h1).2⟩
def WE{l:aE AA}{i:aN}{f:Row}(h:l.getD i .nl=.kp f):l[i]? =ai (.kp f):=by
 rw[dc]at h;cases d:l[i]? with
 |none=>rw[d]at h;cases h
 |some x=>rw[d]at h;rw[<-h];rfl
def Fx{f:aN}{fn:Func}{vs d:eN bS}{cl:Call}{j:fB}(t:o.op=.call cl)(k:cl.callee=.value j)(r:P.funcs[f]? =ai fn)(u:fn.body.isSome=ao)(s:(fn.name== "runtime.NumGoroutine")=aq)(m:a.eval j=.func (.func f) #[] d):
  (execOp a.eval o).run P w=.ok (.enter f (cl.args.map a.eval++d)) w:=by
 have i:fn.body.isNone=false:=by cases h:fn.body<;>simp_all
 unfold execOp;rw[t];simp only[resolve,k,m,Deferred.ofValue,cx,c8,bI,invoke,callFunc,program,nu,r,s,i,dq,if_false,Array.empty_append]
def nameOf(nm:aN)(ps:aE Pa)(P J:aN):aG aN:=
 if 500<=P then ai (if J=900 then nm+1+40*(P-500)+30 else nm+1+40*(P-500)+J)
 else if J<100\/J=900 then loc ps (dU P J)else ai (nm+400+40*P+(J-100))
def o7:∀{l r:aE aN},sg l r=ao->∀n∈l,n∉r
 |[],_,_,n,h=>by cases h
 |m::l,r,h,n,d=>by
  simp only[sg,aM,di]at h;rcases cF.1 d with rfl|d
  ·exact qM h.1
  ·exact o7 h.2 n d
def Jl(hE:eB P E)(hF:∀g,lI P E g (E.call g))(x5:Ok E σ w c)(xh:fw E σ a w c)(hd:∀d,o.dst=ai d->d<a.tmps.size){cl:Call}{fx:fB}(ho:o.op=.call cl)(hb:cl.callee=.value fx){f:aN}{z:aE (aE CV)}(ef:eI E w c (.fn f z) (a.eval fx)){y3:aG (aE aN)}(h:(GX E nm o f cl.args.toList y3 z).val σ=ai e)(hc:e.cond=ao):hN P E σ a w c o e.ws:=by
  obtain⟨x7,he,xf,x2⟩:=ef;unfold GX at h;obtain⟨ps,h2,h⟩:=bu h;obtain⟨h3,h⟩:=cZ h;simp only[aM]at h3;obtain⟨C,xw⟩:=R_ x5 xh h2;split at h
  ·rename_i xn r x1;obtain⟨h4,h⟩:=cZ h;simp only[aM]at h4;obtain⟨w0,h5,h⟩:=bu h;obtain⟨w1,h6,h⟩:=bu h;obtain⟨⟨ss,w2⟩,h7,h⟩:=bu h;obtain⟨h8,h⟩:=cZ h;obtain rfl:=aL h;have hc:xn=true:=hc;subst hc;have y5:=b8 h4.1.1;have xi:∀{q:aN} {pa:Pa},ps[q]? =ai pa->∀n∈pa.pb,n∈ps.flatMap (·.pb):=λhq n y=>bL.2 ⟨_,aU hq,y⟩;have hh:Handed E σ w c ps z (cl.args.map a.eval++x7):=by
    refine⟨by simp[xf,C],λq pa hq=> ?_,λq cs hq=> ?_,ry h3.1,o7 h3.2⟩
    ·obtain⟨x,s,hp⟩:=xw q pa hq;rw[da]at s;have xg:=(dD.1 s).1;exact⟨a.eval x,by rw[Et (by simpa using xg),OJ,s];rfl,hp.mono (xi hq)⟩
    ·obtain⟨b,xq,Y⟩:=x2 q cs hq;refine⟨b,?_,Y⟩
     rw[Array.getElem?_append_right (by simp[C]),<-xq];congr 1;simp[C]
   have U:∀(q:aN) (pa:Pa),ps[q]? =ai pa->∃v,Bd E σ w c (ps.flatMap (·.pb)) pa v:=λq pa hq=>by obtain⟨v,_,h⟩:=hh.at_ q pa hq;exact⟨v,h⟩
   obtain⟨xc,xj,_⟩:=enter x5 hh;have xz:(cl.args.map a.eval++x7).size=(jO ps z).length:=by simp[jO,xf,C]
   have h9:E.call f (jO ps z)=ai (ao,r):=x1;obtain⟨⟨fn,g1,g2,g3⟩,hr⟩:=hF f _ r h9 w (qZ σ c ps) _ xc xz xj;obtain⟨Fz,rfl,z1,z2⟩:=SD h5;obtain⟨Lo,rfl,l1,l2⟩:=PO (p:=0) U h6;obtain⟨Lr,rfl,m1,m2⟩:=IA (P:=500) h7;generalize hz:(E.tk nm||(ps.flatMap (·.pb)).isEmpty)=ok at l1 m1 m2;have M:Small (jO ps z) r:=by
    refine⟨λp x xs hp s=> ?_,λq x xs hq s=> ?_,λp=> ?_⟩
    ·rcases wo hp with ⟨pa,hq,_⟩|⟨_,cs,_,rfl⟩
     ·have:=(aW.1 hq).1;omega
     ·rcases s with ⟨g,s⟩|s<;>cases s
    ·have:=bE.1 h4.1.2 x (aU hq);have:=b8 this;rcases s with ⟨g,rfl⟩|rfl<;>(simp only[nB]at this;omega)
    ·rw[dc];cases s:r.outs[p]? with
     |none=>simp
     |some l=>have:=bE.1 h4.2 l (aU s);exact b8 this
   have A:∀{q:aN} {pa:Pa},ps[q]? =ai pa->(jO ps z)[q]? =ai pa.arg:=λ{q} {pa} hq=>by have:=(aW.1 hq).1;unfold jO;rw[dz (by simpa using this),bJ,hq];rfl
   have V:∀{q:aN} {pa:Pa} {n:aN},ps[q]? =ai pa->n∈pa.uT->n∈ps.flatMap (·.uT):=λhp y=>bL.2 ⟨_,aU hp,y⟩;have hy:∀{q i n e:aN} {ex:aZ} {pa:Pa} {k:Pk},ps[q]? =ai pa->pa.cs[i]? =ai k->k.src=.own n e ex->n∈ps.flatMap (·.uT):=λhq hk hs=>V hq (bR _ (bL.2 ⟨_,aU hk,by simp[Pk.uT,hs]⟩));have x8:∀{q i:aN} {pa:Pa} {k:Pk},ps[q]? =ai pa->pa.cs[i]? =ai k->i<100:=λhq hk=>by obtain⟨v,hv⟩:=U _ _ hq;have:=(aW.1 hk).1;have:=hv.len;omega
   unfold hN;intro K Q hK;unfold OP;rw[Fx (vs:=cl.args.map a.eval++x7) ho hb g1 g2 g3 he,Vn];refine Calls.mono hr (λen xm hR=> ?_);cases en with
   |panicked=>exact hR.elim
   |outgrown=>exact hR.elim
   |returned v=>
    obtain⟨c3,xd,xt,xp,xy⟩:=hR;have x9:∀m,inj (jO ps z) (dj m)≠ .jW->c3.P m=(qZ σ c ps).P m/\c3.G m=(qZ σ c ps).G m:=xp;have hL:∀n t ob,(n,t,ob)∈Lo++Lr->Y6 σ (n9 (jO ps z) r) c c3 ok (ps.flatMap (·.uT)) (Lo++Lr) n t ob/\∀x,t=ai x->∃PP J,x=dU PP J/\J<1000/\nameOf nm ps PP J=ai n:=by
     intro n t ob hm;rcases a_.1 hm with hm|hm
     ·obtain⟨q,pa,hq,xb⟩:=l1 n t ob hm;obtain⟨v0,xk⟩:=U q pa hq;obtain⟨xs,x6,xl,ht⟩:=ajK xk;have xg:=(aW.1 hq).1;rw[bV]at xb;rcases xb with ⟨i,k,hk,xr⟩|⟨ys,y4,O,rfl,rfl,x4⟩
      ·have hi:=x8 hq hk;rcases xr with ⟨X,ex,hs,rfl,rfl⟩|⟨X,ex,ys,hs,ha,rfl,rfl,R⟩|⟨X,ex,ys,O,ha,rfl,rfl,rfl,R,Y,S⟩
       ·refine⟨⟨λ_=>hy hq hk hs,λy=> ?_,λ_=>rfl,λx s=>(by cases s)⟩,λx s=>(by cases s)⟩
        obtain⟨u,hu⟩:=ht i k hk;unfold we at hu;rw[hs]at hu;obtain⟨zs,hg,_⟩:=hu;rw[hg]at y;cases y
       ·obtain⟨u,hu⟩:=ht i k hk;unfold we at hu;rw[hs]at hu;obtain⟨zs,hg,xa,_⟩:=hu;refine⟨⟨λ_=>hy hq hk hs,λy=>(by rw[hg]at y;cases y),λs=>(by cases s),λx s=> ?_⟩,λx s=> ?_⟩
        ·cases s;refine⟨λ_=> ?_,.inl ⟨X,ex,ys,rfl,?_,R⟩⟩
         ·obtain⟨q1,q2⟩:=x9 (dU q i) ((rj (A hq)).2 xs i X ex zs x6 (by rw[xl,bJ,hk];simp[xa]));obtain⟨q3,q4⟩:=uO (σ:=σ) (c:=c) (Hg hq hk hs (by omega));exact⟨q1.trans q3,q2.trans q4⟩
         ·exact xY M (.kp q pa.arg xs i X ex zs ys (A hq) x6 (by rw[xl,bJ,hk];simp[xa]) (WE ha))
        ·cases s;refine⟨q,i,rfl,by omega,?_⟩
         unfold nameOf;rw[bk (by omega),bm (.inl hi)];exact Hg hq hk hs (by omega)
       ·have xu:=Ha.1 ha;refine⟨⟨λy=>cO Y y,λ_=>S,λs=>(by cases s),λx s=> ?_⟩,λx s=> ?_⟩
        ·cases s;exact⟨λy=>cO Y y,.inl ⟨X,ex,ys,rfl,xY M (.nw q pa.arg xs i X ex ys (A hq) x6 xu),R⟩⟩
        ·cases s;refine⟨q,100+i,rfl,by omega,?_⟩
         unfold nameOf;rw[bk (by omega),bk (by omega)];congr 1;omega
      ·obtain⟨p1,p2,p3,_⟩:=xk.box n ys O;refine⟨⟨λ_=>V hq (by simp[Pa.uT,O]),λy=>(by rw[p3]at y;cases y),λs=>(by cases s),λx s=> ?_⟩,λx s=> ?_⟩
       ·cases s;refine⟨λ_=> ?_,.inr ⟨y4,_,rfl,xY M (.ob q _ (by rw[A hq,p1])),x4.mono (λe he=>bZ _ he)⟩⟩
        obtain⟨q1,q2⟩:=x9 (dU q 900) ((rj (A hq)).1 _ p1);obtain⟨q3,q4⟩:=uO (σ:=σ) (c:=c) (B8 hq O);exact⟨q1.trans q3,q2.trans q4⟩
       ·cases s;refine⟨q,900,rfl,by omega,?_⟩
        unfold nameOf;rw[bk (by omega),bm (.inr rfl)];exact B8 hq O
     ·obtain⟨q,x0,hq,xx⟩:=m1 n t ob hm;rcases xx with ⟨xs,j,X,ex,ys,s,hj,rfl,rfl,rfl,R,Y,S⟩|⟨xs,rfl,rfl,rfl,rfl,Y,S,x4⟩
      ·have y6:=(aW.1 hj).1;have:=M.rl q x0 xs hq s;refine⟨⟨λy=>cO Y y,λ_=>S,λs=>(by cases s),λx B=> ?_⟩,λx B=> ?_⟩
       ·cases B;exact⟨λy=>cO Y y,.inl ⟨X,ex,ys,rfl,xY M (.rr q x0 xs j X ex ys hq s hj),R⟩⟩
       ·cases B;refine⟨500+q,j,rfl,by omega,?_⟩
        unfold nameOf;rw[bm (by omega),bk (by omega),show 500+q-500=q by omega]
      ·refine⟨⟨λy=>cO Y y,λ_=>S,λs=>(by cases s),λx B=> ?_⟩,λx B=> ?_⟩
       ·cases B;exact⟨λy=>cO Y y,.inr ⟨_,_,rfl,xY M (.rb q xs hq),x4.mono (λe he=>bR _ he)⟩⟩
       ·cases B;refine⟨500+q,900,rfl,by omega,?_⟩
        unfold nameOf;rw[bm (by omega),bm rfl,show 500+q-500=q by omega]
    have xv:((Lo++Lr).map (·.1)).Nodup:=by
     have:=ry h8;rw[<-iP]at this;unfold mA kD at this;rw[jL,jL]at this;have e1:(Lo++Lr).map (((λx:aN×e9=>x.1)∘λd:aN×Obj=>(dj d.1,e9.o d.2))∘λt:L_=>(t.1,t.2.2))=((Lo++Lr).map (·.1)).map dj:=by rw[jL];rfl
     rw[e1]at this;exact sA this
    have xe:ok=ao->∀n∈ps.flatMap (·.pb),∃x,(n,x)∈Fz:=by
     intro hk n y;rw[<-hz]at hk;cases N:E.tk nm with
     |true=>rw[N]at z2;exact z2 n y
     |false=>
      rw[N]at hk;have:ps.flatMap (·.pb)=[]:=by simpa using hk
      rw[this]at y;cases y
    have xo:∀n x,(n,x)∈Fz->ok=ao/\n∈ps.flatMap (·.pb)/\∃el ex xs,σ (dj n)=.o (.row el ex xs)/\x=.f_ el xs:=by
     intro n x y;obtain⟨y1,y2⟩:=z1 n x y;cases N:E.tk nm with
     |true=>rw[N]at y1;exact⟨by rw[<-hz,N];rfl,y1,y2⟩
     |false=>rw[N]at y1;cases y1
    have y0:kD Fz++(mA Lo++mA Lr)++dw o (sZ ss)=kD (Fz++(Lo++Lr).map λt=>(t.1,t.2.2))++dw o (sZ ss):=by rw[<-iP];simp only[mA,kD,cT]
    obtain⟨c',k1,k2,k3,k4⟩:=leave x5 xh hd hh xd xt xy (L:=Lo++Lr) (Fz:=Fz) (λn t ob hm=>(hL n t ob hm).1) xv
     (λn n' x ob ob' h1 h2=>by obtain⟨P1,J1,e1,e2,e3⟩:=(hL n _ ob h1).2 x rfl;obtain⟨P2,J2,f1,f2,f3⟩:=(hL n' _ ob' h2).2 x rfl;obtain⟨rfl,rfl⟩:=uV e2 f2 (e1.symm.trans f1);rw[e3]at f3;exact aL f3)
     (λn y=>by obtain⟨t,ob,h⟩:=l2 n y;exact⟨t,ob,bZ _ h⟩) xo xe
     (show FL ok (Lo++Lr) ss (lG 500 r.rs)from⟨m2.1,λj x x3 s ht=>(m2.2 j x x3 s ht).mono (λe he=>bR _ he)⟩)
    show K (a.put o.dst v) xm;rw[<-y0]at k1 k2 k3;exact hK v xm c' k1 k2 k3 k4.w
  ·simp at h
def Hu(j:Ok E σ w c)(S:fw E σ a w c)(hd:∀d,o.dst=ai d->d<a.tmps.size)
  (X:σ (dj nm)=.o ob) (O:qf E w' c nm ob') (t:∀b,fN c nm ob' b->fN c nm ob b)
  (C:∀xs,ob'=.box xs->∀a∈xs,jm σ a)
  (U:jb E w' c s v) (K:mN σ s)
  (hW:∀b,b<w.heap.size->¬fN c nm ob b->w'.heap[b]? =w.heap[b]?) (z:w.heap.size<=w'.heap.size) (Q:w'.os=w.os) (V:w'.tape=w.tape) (R:w'.output=w.output):
  Ok E (wr σ ([(dj nm,.o ob')]++dw o s)) w' c/\fw E (wr σ ([(dj nm,.o ob')]++dw o s)) (a.put o.dst v) w' c/\Grow σ c w (wr σ ([(dj nm,.o ob')]++dw o s)) c w':=by
 let σ1:=p_ σ (dj nm) (.o ob');obtain⟨s1,Y,s3⟩:=sN σ1 o s;have key:∀m,wr σ1 (dw o s) (dj m)=if m=nm then .o ob' else σ (dj m):=λm=>by rw[s3];exact qv _ _ _ _
 have k:∀m,σ (dj m)≠ .jW->wr σ1 (dw o s) (dj m)≠ .jW:=λm hm=>by rw[key];split<;>simp_all
 have u:∀b,fN c nm ob b->kh (λm=>m=nm) σ c b:=λb r=>⟨nm,ob,rfl,X,r⟩
 have B:=j.change (σ':=wr σ1 (dw o s)) (w':=w') (c':=c) (λm=>m=nm) (λm hm=>by rw[key,bk hm]) k (jK.refl _ _)
  (λb r N=>hW b r (λA=>N (u b A))) z (λ_ h=>h) (λ_ h=>.inl h) (λb r=>jV (j.lt b r) z)
  (λm x hm f=>by subst hm;rw[key,bm rfl]at f;cases f;exact O)
  (λm x b hm f A=>by subst hm;rw[key,bm rfl]at f;cases f;exact⟨.inl (u b (t b A)),j.kk _ _ b X (t b A)⟩)
  (λm x m' x' b hm M _ _ _ _=>by rw[hm,M])
  (λm xs hm f y hy n i=>by subst hm;rw[key,bm rfl]at f;cases f;exact k n (C xs rfl y hy n i)) Q V R
 refine⟨B.1,?_,B.2⟩
 refine S.change j B.2 (jK.refl _ _) k o v (λn i=>by rw[s1 n i];exact jv _ _ _ _) (λd f=>⟨hd d f,?_,?_⟩)
 ·rw[Y d f];exact U
 ·rw[Y d f];intro n i;rw[key];split
  ·simp
  ·exact K n i
def Ln(hE:eB P E)(hF:∀g,lI P E g (E.call g))(B:Ok E σ w c)(xg:fw E σ a w c)(hd:∀d,o.dst=ai d->d<a.tmps.size)(ho:o.op=.call cl)(hb:cl.callee=.value fx)(X:cl.args.toList=[x,y])
  (ef:eI E w c (.fn f []) (a.eval fx)) (hx:eI E w c (.mK n i j) (a.eval x)) (h:(C0 E o f n i j y).val σ=ai e) (hc:e.cond=ao):hN P E σ a w c o e.ws:=by
 unfold C0 at h;obtain⟨⟨k,m⟩,h1,h⟩:=bu h;have ey:=qq xg h1;obtain⟨ob,h2,h⟩:=bu h;have hg:=dF h2;split at h
 ·rename_i el xs;obtain⟨te,h3,h⟩:=bu h;have h6:=dZ h3;split at h
  ·rename_i U x2;split at h
   ·rename_i xi r A;split at h
    ·rename_i k2 m2 t xf xe;obtain rfl:=aL h;have hc:xi=true:=hc;subst hc;obtain⟨⟨hi,xh⟩,_⟩:=hx;obtain⟨zs,yy,t2,r1,r2,r3,r4,r5,r6,r7,r8⟩:=B7 B hg h6 x2 hi;rw[fF r1 r2]at A;simp only[jd]at A;obtain⟨⟨t1,q1,xu,kJ⟩,ht,h7⟩:=B.obj n _ hg;obtain rfl:te=t1:=aL (h6.symm.trans q1);have xm:i<xs.length:=(aW.1 r1).1;obtain⟨N,pv,xy⟩:=ht.pos hi;have M:gn xs i j:=⟨yy,_,r1,r2,rfl⟩
     generalize hq:c.G n i j=p at r5 r7 r8 xh;let c1:gQ:=⟨λ_=>p,λ_ _ _=>⟨ao,0,0,0,0,0⟩,c.K⟩
     let args:aE gD:=[.v aq [.ow U ao zs],.v aq [.i k m]]
     have hO:∀q o',inj args (dj q)=.o o'->q=dU 0 0/\o'=.row U ao zs:=by
      intro q o' xr;have hm:=oe xr (by simp);simp only[args,KZ,sW,vL,ug,Fb,cF,d_,eR,gG,lQ,or_false,jg]at hm;rcases hm with ⟨hm,_⟩|⟨hm,h⟩|⟨hm,_⟩
      ·exact cO hm (mq _ _)
      ·exact⟨j9 hm,e9.o.inj h⟩
      ·exact cO hm (mq _ _)
     have hX:inj args (dj (dU 0 0))=.o (.row U ao zs):=rfl;have C:∀i j,¬gn zs i j:=by rintro i j ⟨y,x,h1,h2,h3⟩;rw[im r4 (r6 y (aU h1)) h2]at h3;cases h3
     have Y:∀b,fN c1 (dU 0 0) (.row U ao zs) b->p.nil=aq/\b=p.blk:=by
      rintro b (⟨h1,h2⟩|⟨_,i,j,h,_⟩)
      ·exact⟨h1,h2⟩
      ·exact cO h (C i j)
     have xb:p.nil=aq->fN c n (.row el ao xs) p.blk:=λz=>.inr ⟨rfl,i,j,M,by rw[hq];exact z,by rw[hq]⟩;have x9:Ok E (inj args) w c1:=by
      refine⟨?_,?_,?_,?_,?_,B.gp⟩
      ·intro q o' h;obtain⟨rfl,rfl⟩:=hO q o' h;exact⟨⟨t2,r3,r5,r6⟩,r7.frame (λ_=>rfl) (λi j y x u h1 h2 hr=>by rw[bm rfl];exact uZ (im r4 (r6 y (aU h1)) h2) hr),λ_=>⟨λi j h=>cO h (C i j),λi j i' j' h=>cO h (C i j)⟩⟩
      ·intro q o' q' xv b h h' _ _;rw[(hO q o' h).1,(hO q' xv h').1]
      ·intro q o' b h hf hk;obtain⟨rfl,rfl⟩:=hO q o' h;obtain⟨z,rfl⟩:=Y b hf;exact B.kk _ _ _ hg (xb z) hk
      ·exact B.lt
      ·intro q bs h;obtain⟨_,h⟩:=hO q _ h;cases h
     have xz:(cl.args.map a.eval).size=args.length:=by
      have:cl.args.size=2:=by rw[<-dM,X];rfl
      simp[args,this]
     have xl:cl.args.map a.eval= #[a.eval x,a.eval y]:=by apply tw;rw[A5,X];rfl
     obtain⟨xw,he,xq,_⟩:=ef;have xd:xw= #[]:=A3 (by simpa using xq);subst xd;obtain⟨⟨fn,g1,S,g3⟩,h9⟩:=hF f args r A w c1 #[a.eval x,a.eval y] x9 rfl (by
      intro q arg x4;match q with
      |0=>cases x4;exact⟨_,rfl,xh⟩
      |1=>cases x4;exact⟨_,rfl,ey⟩
      |q+2=>cases x4)
     unfold hN;intro K Q hK;unfold OP;rw[Fx (vs:= #[a.eval x,a.eval y]) ho hb g1 S g3 he,xl,Array.append_empty,Vn];refine Calls.mono h9 (λen w' hR=> ?_);cases en with
     |panicked=>exact hR.elim
     |outgrown=>exact hR.elim
     |returned v=>
      obtain⟨c3,xa,h5,xk,xt⟩:=hR;obtain⟨rs,outs⟩:=r;simp only at xf xe;subst xf;subst xe;have hv:v=.int k2 m2:=xt;have xp:c3.P (dU 0 0)=p:=(xk (dU 0 0) (by rw[hX];simp)).1;have xj:n9 args ⟨[.v aq [.i k2 m2]],[[.kp t]]⟩ (dj (dU 0 0))=.o (.row U ao t):=rfl;obtain⟨⟨t3,u1,u2,u3⟩,u4,_⟩:=xa.obj _ _ xj;obtain rfl:t2=t3:=aL (r3.symm.trans u1);rw[xp]at u2 u4;have x6:jq w' p t (λ_ _ u x=>Sc u x):=u4.frame (λ_=>rfl) (λi j y x u h1 h2 hr=>by rw[bm rfl]at hr;exact u7 hr (im r4 (u3 y (aU h1)) h2));have O:∀b,b<w.heap.size->¬(p.nil=aq/\b=p.blk)->w'.heap[b]? =w.heap[b]? :=λb hb xn=>h5.same b hb (by rintro ⟨q,o',h1,h2⟩;obtain⟨rfl,rfl⟩:=hO q o' h1;exact xn (Y b h2));have xx:j<te.ks.length:=(aW.1 x2).1;have x8:[CV.l U t].map CV.kd=(te.ks.drop j).take [CV.l U t].length:=by rw[bz,List.take_one,List.head?_drop,x2];rfl
      have hj:=yH (i:=i) (j:=j) (cs:=[CV.l U t]) kJ x8 (by simp;omega) xm;have x7:=ly kJ;have x0:=ly hj;have same:∀i' j',gn (eH xs i j [CV.l U t]) i' j'->gn xs i' j':=λi' j' hx=>(x7 i' j').2 (by have:=(x0 i' j').1 hx;rwa[jt]at this);have x3:∀b,fN c n (.row el ao xs) b->b<w.heap.size:=λb hb=>Own.lt B ⟨n,_,hg,hb⟩;have xc:p.nil=aq->(c.P n).blk≠p.blk:=λz e=>(h7 rfl).out i j M (by rw[hq];exact z) N (by rw[hq];exact e.symm);have x5:jq w' (c.P n) (eH xs i j [CV.l U t]) (λV R u1 x1=>if ao=ao then XC E w' (c.G n) V R u1 x1 else Holds E w' c.K u1 x1):=by
       obtain⟨vs,k1,k2,k3,k4,k5⟩:=ht.mem N;refine⟨by rw[jt];exact ht.n,λz=>(by rw[N]at z;cases z),λ_=>⟨vs,k1.frame (O _ (x3 _ (.inl ⟨N,rfl⟩)) (λh=>xc h.1 h.2)),k2,k3,k4,λV y1 R x1 g1 S=> ?_⟩⟩
       rw[yG r1]at g1;simp only[if_true]at k5⊢;by_cases hy:V=i
       ·subst hy;rw[bm rfl]at g1;cases g1;have y0:yy.length=te.ks.length:=by rw[<-kJ yy (aU r1)];simp
        rw[pO (by simp;omega)]at S;by_cases ha:j<=R/\R<j+[CV.l U t].length
        ·rw[bm ha]at S;have:R=j:=by simp at ha;omega
         subst this;simp at S;subst S;obtain⟨u,hu,hr⟩:=k5 _ _ _ _ r1 r2;refine⟨u,hu,hr.1,t2,r3,r4,by rw[hq];exact r5,u3,by rw[hq];exact x6⟩
        ·rw[bk ha]at S;obtain⟨u,hu,hr⟩:=k5 _ _ _ _ r1 S;refine⟨u,hu,hr.frame (λhl z=>O _ (x3 _ (.inr ⟨rfl,_,_,⟨yy,x1,r1,S,hl⟩,z,rfl⟩)) (λe=> ?_))⟩
         have:=((h7 rfl).one _ _ _ _ ⟨yy,x1,r1,S,hl⟩ M z (by rw[hq];exact e.1) (by rw[hq];exact e.2)).2;simp at ha;omega
       ·rw[bk hy]at g1;obtain⟨u,hu,hr⟩:=k5 _ _ _ _ g1 S;exact⟨u,hu,hr.frame (λhl z=>O _ (x3 _ (.inr ⟨rfl,_,_,⟨y1,x1,g1,S,hl⟩,z,rfl⟩)) (λe=>hy ((h7 rfl).one _ _ _ _ ⟨y1,x1,g1,S,hl⟩ M z (by rw[hq];exact e.1) (by rw[hq];exact e.2)).1))⟩
      obtain⟨z1,z2,z3⟩:=Hu B xg hd hg (ob':=.row el ao (eH xs i j [CV.l U t])) (w':=w') (s:=.v aq [.i k2 m2]) (v:=v)
       ⟨⟨te,q1,xu,hj⟩,x5,λhx=>⟨λV R hh=>(h7 hx).out V R (same V R hh),λV R i2 j2 h1 h2=>(h7 hx).one V R i2 j2 (same V R h1) (same i2 j2 h2)⟩⟩
       (by
        rintro b (hb|⟨hx,V,R,hh,z⟩)
        ·exact .inl hb
        ·exact .inr ⟨hx,V,R,same V R hh,z⟩)
       (λzs hz=>by cases hz) hv (λn z=>by simp[cX,bP]at z)
       (λb hb xo=>O b hb (λe=>xo (by rw[e.2];exact xb e.1))) h5.size h5.os h5.tape h5.output
      exact hK v w' c z1 z2 z3 (jK.refl _ _).w
    ·simp at h
   ·simp at h
  ·simp at h
 ·simp at h
def HW{α:Type}{x y:Rd α}{σ:St}{e:α}(h:(x.or y).val σ=ai e):x.val σ=ai e\/y.val σ=ai e:=by
 induction x with
 |ret a=>exact .inl h
 |fail=>exact .inr h
 |get k f ih=>
  have d:((f (σ k)).or y).val σ=ai e:=by rw[<-h];unfold Rd.val;simp only[Rd.or,Rd.run];rw[lD,lD]
  rcases ih (σ k) d with h|h
  ·refine .inl ?_;rw[<-h];unfold Rd.val;simp only[Rd.run];rw[lD,lD]
  ·exact .inr h
def Db(hE:eB P E)(r:∀g,lI P E g (E.call g))(j:Ok E σ w c)(k:fw E σ a w c)(hd:∀d,o.dst=ai d->d<a.tmps.size)(u:o.op=.call cl)(s:cl.callee=.value x)(m:eI E w c (.fn f i) (a.eval x))(h:(M6 E nm o f cl.args.toList y i).val σ=ai e)(t:e.cond=ao):hN P E σ a w c o e.ws:=by
 rcases HW h with h|h
 ·exact Jl hE r j k hd u s m h t
 ·exact Jl hE r j k hd u s m h t
def Yu(hE:eB P E)(z:∀g,lI P E g (E.call g))(m:Ok E σ w c)(k:fw E σ a w c)(hd:∀d,o.dst=ai d->d<a.tmps.size)(t:o.op=.call cl)(s:cl.callee=.value C)(h:(mg E nm o).val σ=ai e)(A:e.cond=ao):hN P E σ a w c o e.ws:=by
 simp only[mg,t,s]at h;obtain⟨fv,h1,h⟩:=bu h;have u:=(i7 k h1).1;cases fv with
 |fn f B=>
  simp only at h;split at h
  ·rename_i x y r;obtain⟨K,h2,h⟩:=bu h;split at h
   ·rename_i n i j;cases hm:E.mode f 0 with
    |true=>rw[hm,au]at h;exact Ln hE z m k hd t s r u (mr k h2).1 h A
    |false=>rw[hm,ax]at h;exact Db hE z m k hd t s u h A
   ·exact Db hE z m k hd t s u h A
  ·exact Db hE z m k hd t s u h A
 |_=>simp at h
end
end Go.FG
namespace Go.FG
section
variable {P:dx} {E:gy} {σ:St} {a:Act} {w:cN} {c:gQ} {o:ia} {nm:aN} {e:tF}
def ajF(hE:eB P E)(C:∀g,lI P E g (E.call g))(j:Ok E σ w c)(k:fw E σ a w c)(hd:∀d,o.dst=ai d->d<a.tmps.size)(h:(mg E nm o).val σ=ai e)(u:e.cond=ao):hN P E σ a w c o e.ws:=by
 cases r:o.op with
 |move x=>exact NX j k hd (.inl r) h
 |assign x=>exact NX j k hd (.inr r) h
 |nilCheck x=>exact Jn j k hd r h
 |pick x y z=>exact Yw j k hd r h u
 |alloc t=>exact TN hE j k hd r h
 |box t x=>exact aeX j k hd r h
 |build t ps=>exact TQ hE j k hd r h
 |buildSlice t n ps=>exact El hE j k hd r h u
 |load t p=>exact Yv hE j k hd r h
 |store t p x=>exact TV hE j k hd r h
 |fieldAddr t p f=>exact Hl hE j k hd r h
 |field t x f=>exact TS hE j k hd r h
 |indexAddr t x i=>exact Hm hE j k hd r h u
 |index t x i=>exact TT hE j k hd r h u
 |binOp op t x y ty=>exact TP hE j k hd r h u
 |unOp op t x=>exact Yx j k hd r h
 |convert s d x=>exact Lp hE j k hd r h u
 |makeSlice t l m=>exact Hn hE j k hd r h u
 |slice t x lo hi mx=>exact TU hE j k hd r h u
 |extract x i=>exact Lq j k hd r h
 |makeFunc f first B=>exact Jm j k hd r h
 |call cl=>
  cases A:cl.callee with
  |value f=>exact Yu hE C j k hd r A h u
  |builtin b=>
   cases b with
   |len=>exact aeZ hE j k hd r A h
   |cap=>exact aeY hE j k hd r A h
   |min=>exact Fq aq j k hd r A h
   |max=>exact Fq ao j k hd r A h
   |clear=>exact TR hE j k hd r A h
   |append=>exact PJ hE j k hd r A h u
   |_=>simp[mg,r,A]at h
  |_=>simp[mg,r,A]at h
 |_=>simp[mg,r]at h
end
end Go.FG
namespace Go.FG
def DG(h:σ k=c):p_ σ k c=σ:=by
 funext n;by_cases d:n=k
 ·subst d;rw[uE,h]
 ·rw[Ax σ c d]
def Vk(c c':gQ):Prop:=∀m,900000000<=m->c'.P m=c.P m/\c'.G m=c.G m
def Vk.refl(c:gQ):Vk c c:=λ_ _=>⟨rfl,rfl⟩
def Vk.trans(h:Vk c d)(k:Vk d c2):Vk c c2:=λm hm=>⟨(k m hm).1.trans (h m hm).1,(k m hm).2.trans (h m hm).2⟩
def WN(h:900000000<=m):z7 m=false:=by
 unfold z7;cases d:oE m 900000000 with
 |true=>have:m<900000000:=by simpa [tz]using d
        omega
 |false=>simp
def rN.aga(h:rN σ c c'):Vk c c':=λm hm=>⟨(h m (.inr hm)).1,(h m (.inr hm)).2 (WN hm)⟩
def mu(h:eN ia)(o:ia)(σ:St):aG aZ:=
 match o.guard with
 |none=>ai ao
 |some (g,f)=>match (h.getD g default).dst with
  |none=>ay
  |some d=>match σ (qP d)with|.v (.v aq [.b x])=>ai (x==f)|.v (.kz [])=>ai aq|_=>ay
def qm(f:eN ia)(o:ia):aE aN:=
 match o.guard with
 |none=>[]
 |some (g,_)=>match (f.getD g default).dst with|none=>[]|some d=>[qP d]
def vI(E:gy)(d:eN ia)(nm:aN)(o:ia)(σ:St)(ws:aE (aN×e9))(f:Lg):Prop:=
 (mu d o σ=ai ao/\∃e l,(mg E nm o).run σ []=ai (e,l)/\e.cond=ao/\ws=e.ws/\f=⟨qm d o++l,e.ws.map (·.1)⟩)\/
 (mu d o σ=ai aq/\ws=dw o (.kz [])/\f=⟨qm d o,(dw o (.kz [])).map (·.1)⟩)
def Lh(d i:aN):aN:=(d+1)*1000000+i*1000
abbrev Tr:=aE (aE (aN×e9)×Lg)
def wS(E:gy)(d:eN ia)(f:aN):aN->aE ia->St->Tr->St->Prop
 |_,[],σ,j,σ'=>j=[]/\σ'=σ
 |i,o::os,σ,j,σ'=>∃ws k h,j=(ws,k)::h/\vI E d (Lh f i) o σ ws k/\wS E d f (i+1) os (wr σ ws) h σ'
def PK(E:gy)(f:eN ia)(j:aN):∀(os:aE ia) (i:aN) (σ:St) (s:aE Lg) (K:St->aE Lg->aG R) (r:R),ops E f j i os σ s K=ai r->
  ∃k σ',wS E f j i os σ k σ'/\K σ' ((k.map (·.2)).reverse++s)=ai r:=by
 intro os;induction os with
 |nil=>intro i σ s K r h;exact⟨[],σ,⟨rfl,rfl⟩,by simpa [ops]using h⟩
 |cons o os ih=>
  intro i σ s K r h;have next:∀ws l,vI E f (Lh j i) o σ ws l->ops E f j (i+1) os (wr σ ws) (l::s) K=ai r->∃k σ',wS E f j i (o::os) σ k σ'/\K σ' ((k.map (·.2)).reverse++s)=ai r:=by intro ws l hs h;obtain⟨k,σ',h1,h2⟩:=ih _ _ _ _ _ h;exact⟨(ws,l)::k,σ',⟨ws,l,k,rfl,hs,h1⟩,by simpa using h2⟩
  have y:∀rs,rs=qm f o->mu f o σ=ai ao->(match (mg E (Lh j i) o).run σ []with
    |some (e,l)=>bif e.cond then ops E f j (i+1) os (wr σ e.ws) (⟨rs++l,e.ws.map (·.1)⟩::s) K else ay
    |none=>ay)=ai r->∃k σ',wS E f j i (o::os) σ k σ'/\K σ' ((k.map (·.2)).reverse++s)=ai r:=by
   intro rs M hw h
   cases C:(mg E (Lh j i) o).run σ []with
   |none=>rw[C]at h;cases h
   |some el=>
    obtain⟨e,l⟩:=el;rw[C]at h;cases B:e.cond with
    |false=>simp[B]at h
    |true=>simp only[B,au]at h;exact next e.ws _ (.inl ⟨hw,e,l,C,B,rfl,by rw[M]⟩) h
  unfold ops at h;simp(config:={zeta:=false}) only[EZ]at h;cases hg:o.guard with
  |none=>rw[hg]at h;exact y [] (by simp[qm,hg]) (by simp[mu,hg]) h
  |some O=>
   obtain⟨g,u⟩:=O;rw[hg]at h;dsimp only at h;cases hd:(f.getD g default).dst with
   |none=>rw[hd]at h;cases h
   |some d=>
    rw[hd]at h;dsimp only at h;have z:qm f o=[qP d]:=by unfold qm;rw[hg];dsimp only;rw[hd]
    cases hs:σ (qP d)with
    |v Q=>
     rw[hs]at h;cases Q with
     |v agg xs=>
      cases agg with
      |true=>cases h
      |false=>
       match xs with
       |[]=>cases h
       |_::_::_=>simp at h
       |[N]=>
        cases N with
        |b x=>
         have m:mu f o σ=ai (x==u):=by unfold mu;rw[hg];dsimp only;rw[hd];dsimp only;rw[hs]
         have A:p_ σ (qP d) (.v (.v aq [.b x]))=σ:=DG hs;have skip:mu f o σ=ai aq->ops E f j (i+1) os (wr (p_ σ (qP d) (.v (.v aq [.b x]))) (dw o (.kz []))) (⟨[qP d],(dw o (.kz [])).map (·.1)⟩::s) K=ai r->∃k σ',wS E f j i (o::os) σ k σ'/\K σ' ((k.map (·.2)).reverse++s)=ai r:=by intro hw h;rw[A]at h;exact next (dw o (.kz [])) _ (.inr ⟨hw,rfl,by rw[z]⟩) h
         have t:mu f o σ=ai ao->(match (mg E (Lh j i) o).run (p_ σ (qP d) (.v (.v aq [.b x]))) []with
           |some (e,l)=>bif e.cond then ops E f j (i+1) os (wr (p_ σ (qP d) (.v (.v aq [.b x]))) e.ws) (⟨qP d::l,e.ws.map (·.1)⟩::s) K else ay
           |none=>ay)=ai r->∃k σ',wS E f j i (o::os) σ k σ'/\K σ' ((k.map (·.2)).reverse++s)=ai r:=by
          intro hw h
          rw[A]at h
          exact y [qP d] z.symm hw h
         cases x with
         |true=>
          cases u with
          |true=>exact t (by rw[m];rfl) h
          |false=>exact skip (by rw[m];rfl) h
         |false=>
          cases u with
          |true=>exact skip (by rw[m];rfl) h
          |false=>exact t (by rw[m];rfl) h
        |_=>simp at h
     |kz l=>cases l with
      |nil=>
       have m:mu f o σ=ai false:=by unfold mu;rw[hg];dsimp only;rw[hd];dsimp only;rw[hs]
       exact next (dw o (.kz [])) _ (.inr ⟨m,rfl,by rw[z]⟩) h
      |cons=>simp at h
     |un=>simp at h
    |o x=>rw[hs]at h;cases h
    |jW=>rw[hs]at h;cases h
section
variable {P:dx} {E:gy} {σ:St} {a:Act} {w:cN} {c:gQ} {o:ia} {nm:aN} {e:tF}
def FI(m:fw E σ a w c)(h:mu all o σ=ai x):vF o (yielded all a.tmps)=x:=by
 unfold mu at h;unfold vF;cases hg:o.guard with
 |none=>rw[hg]at h;simp at h;simp[<-h]
 |some s=>
  obtain⟨g,f⟩:=s;rw[hg]at h;simp only at h⊢;cases hd:(all.getD g default).dst with
  |none=>rw[hd]at h;cases h
  |some d=>
   rw[hd]at h;have k:(all[g]?).bind (·.dst)=ai d:=by
    rw[eM]at hd;cases hq:all[g]? with
    |none=>rw[hq]at hd;cases hd
    |some u=>rw[hq]at hd;exact hd
   simp only at h;split at h
   ·rename_i y r;have h1:=m.ok d;have:slot σ d=.v aq [.b y]:=by unfold slot;rw[r]
    rw[this]at h1;have h1:a.eval (.tmp d)=.bool y:=h1;have j:a.tmps[d]? =ai (.bool y):=by
     have h2:a.tmps.getD d undef=.bool y:=h1;rw[eM]at h2;cases hq:a.tmps[d]? with
     |none=>rw[hq]at h2;cases h2
     |some v=>rw[hq]at h2;rw[show v=_ from h2]
    have i:yielded all a.tmps g=ai y:=by unfold yielded;rw[k];simp[j]
    rw[i];simp at h;rw[<-h];cases y<;>cases f<;>rfl
   ·rename_i r;have h1:=m.ok d;have:slot σ d=.kz []:=by unfold slot;rw[r]
    rw[this]at h1;obtain⟨vs,h1,h3,_⟩:=h1;have h4:vs= #[]:=by simpa using h3
    subst h4;have j:a.tmps.getD d undef=.tuple #[]:=h1;have i:yielded all a.tmps g=none:=by
     unfold yielded;rw[k];rw[eM]at j;cases hq:a.tmps[d]? with
     |none=>simp[hq]
     |some v=>rw[hq]at j;simp at j;simp[hq,j]
    rw[i];have t:aq=x:=by simpa using h
    rw[<-t];cases f<;>rfl
   ·cases h
def DL(a:Act)(d:aG Tmp)(v:bS):(a.put d v).tmps.size=a.tmps.size:=by cases d<;>simp[Vl]
def Cb(hE:eB P E)(u:∀g,lI P E g (E.call g))(k:Ok E σ w c)(f:fw E σ a w c)(hd:∀d,o.dst=ai d->d<a.tmps.size)(hi:all[i]? =ai o)(h:vI E all nm o σ ws A)
  (s:∀v w' c',Ok E (wr σ ws) w' c'->fw E (wr σ ws) (a.put o.dst v) w' c'->Grow σ c w (wr σ ws) c' w'->rN σ c c'->K (a.put o.dst v) w'):wpOp P all Q i K a w:=by
 unfold wpOp;rw[hi];simp only;rcases h with ⟨hw,e,l,z,x,rfl,_⟩|⟨hw,rfl,_⟩
 ·rw[bm (FI f hw)];exact .inl (ajF hE u k f hd (Rd.LX z) x K Q s)
 ·rw[bk (by rw[FI f hw];simp)];obtain⟨s1,t,s3⟩:=sN σ o (.kz []);obtain⟨h1,h2⟩:=k.slot s3;refine s undef w c h1 ?_ h2 (jK.refl _ _).w;refine f.change k h2 (jK.refl _ _) (λnm m=>by rw[s3];exact m) o undef s1 (λd r=>⟨hd d r,?_,?_⟩)
  ·rw[t d r];exact⟨#[],rfl,rfl,λj agg xs y=>by simp at y⟩
  ·rw[t d r];intro n m;simp[cX]at m
structure At (P:dx) (E:gy) (N:aN) (σ0:St) (c0:gQ) (w0:cN) (σ:St) (a:Act) (w:cN) (c:gQ):Prop where
 ok:Ok E σ w c
 sl:fw E σ a w c
 sz:a.tmps.size=N
 gr:Grow σ0 c0 w0 σ c w
 ag:Vk c0 c
def At.step(h:At P E N σ0 c0 w0 σ a w c)(h1:Ok E σ' w' c')(h2:fw E σ' (a.put d v) w' c')(h3:Grow σ c w σ' c' w')(h4:rN σ c c'):At P E N σ0 c0 w0 σ' (a.put d v) w' c':=
 ⟨h1,h2,by rw[DL];exact h.sz,h.gr.trans h3,h.ag.trans h4.aga⟩
def KD(hE:eB P E)(y:∀g,lI P E g (E.call g)):∀(os:aE ia) (i:aN) (σ:St) (x:Tr) (σ':St),wS E r A i os σ x σ'->(∀j o,os[j]? =ai o->r[i+j]? =ai o)->(∀o∈os,∀d,o.dst=ai d->d<N)->
  (∀a w c,At P E N σ0 c0 w0 σ' a w c->Q .normal a w)->∀a w c,At P E N σ0 c0 w0 σ a w c->wpOps P r Q (iT i os.length) a w:=by
 intro os;induction os with
 |nil=>intro i σ x σ' h _ _ s a w c f;obtain⟨_,rfl⟩:=h;exact s a w c f
 |cons o os ih=>intro i σ x σ' h k m s a w c f;obtain⟨ws,C,B,rfl,hs,t⟩:=h;have hi:r[i]? =ai o:=k 0 o rfl;rw[bT,List.range'_succ,wpOps_cons];refine Cb hE y f.ok f.sl (λd hd=>by rw[f.sz];exact m o (cQ ..) d hd) hi hs (λv w' c' h1 h2 h3 h4=> ?_);exact ih (i+1) _ _ _ t (λj o' z=>by have:=k (j+1) o' z;rwa[show i+(j+1)=i+1+j by omega]at this) (λo' u=>m o' (cK _ u)) s _ _ _ (f.step h1 h2 h3 h4)
end
end Go.FG
namespace Go.FG
def Rd.YE(m:Rd α):∀{σ:St} {l d:aE aN} {a:α},m.run σ l=ai (a,d)->∀k∈l,k∈d:=by
 induction m with
 |ret a=>intro σ l d b h k hk;cases h;exact hk
 |fail=>intro σ l d b h;cases h
 |get k f ih=>intro σ l d b h k' i;exact ih _ h k' (cK _ i)
def Rd.P_(m:Rd α):∀{σ σ':St} {l d:aE aN} {a:α},m.run σ l=ai (a,d)->(∀k∈d,σ' k=σ k)->m.run σ' l=ai (a,d):=by
 induction m with
 |ret a=>intro σ σ' l d b h _;exact h
 |fail=>intro σ σ' l d b h;cases h
 |get k f ih=>intro σ σ' l d b h hk;have h:(f (σ k)).run σ (k::l)=ai (b,d):=h;have i:σ' k=σ k:=hk k (Rd.YE _ h k (cQ ..));show(f (σ' k)).run σ' (k::l)=ai (b,d);rw[i];exact ih _ h hk
def yN(h:∀k∈qm f o,σ' k=σ k):mu f o σ'=mu f o σ:=by
 unfold mu qm at*
 cases hg:o.guard with
 |none=>rfl
 |some j=>
  obtain⟨g,i⟩:=j;rw[hg]at h;dsimp only at h⊢;cases hd:(f.getD g default).dst with
  |none=>rfl
  |some d=>rw[hd]at h;dsimp only at h⊢;rw[h (qP d) (a7.2 rfl)]
def vI.congr(h:vI E all nm o σ ws f)(hk:∀k∈f.rs,σ' k=σ k):vI E all nm o σ' ws f:=by
 rcases h with ⟨h1,e,l,h2,h3,rfl,rfl⟩|⟨h1,rfl,rfl⟩
 ·refine .inl ⟨by rw[yN (λk d=>hk k (bZ _ d))];exact h1,e,l,Rd.P_ _ h2 (λk d=>hk k (bR _ d)),h3,rfl,rfl⟩
 ·exact .inr ⟨by rw[yN (λk d=>hk k d)];exact h1,rfl,rfl⟩
def vI.keys(h:vI E all nm o σ ws d):d.ws=ws.map (·.1):=by rcases h with ⟨h1,e,l,h2,h3,rfl,rfl⟩|⟨h1,rfl,rfl⟩<;>rfl
def pQ:∀{ws:aE (aN×e9)} {σ:St} {k:aN},k∉ws.map (·.1)->wr σ ws k=σ k:=by
 intro ws;induction ws with
 |nil=>intro σ k _;rfl
 |cons d ws ih=>obtain⟨k',c⟩:=d;intro σ k h;rw[fD,cF,not_or]at h;show wr (p_ σ k' c) ws k=σ k;rw[ih h.2,Ax σ c h.1]
def Vg:∀{ws:aE (aN×e9)} {σ σ':St} {k:aN},k∈ws.map (·.1)->wr σ ws k=wr σ' ws k:=by
 intro ws;induction ws with
 |nil=>intro σ σ' k h;cases h
 |cons d ws ih=>
  obtain⟨k',c⟩:=d;intro σ σ' k h;show wr (p_ σ k' c) ws k=wr (p_ σ' k' c) ws k;by_cases hk:k∈ws.map (·.1)
  ·exact ih hk
  ·have:k=k':=by
    rcases cF.1 h with h|h
    ·exact h
    ·exact cO h hk
   subst this;rw[pQ hk,pQ hk,uE,uE]
def Vf(h:σ k=σ' k):wr σ ws k=wr σ' ws k:=by
 by_cases hk:k∈ws.map (·.1)
 ·exact Vg hk
 ·rw[pQ hk,pQ hk];exact h
def DU:Tr->aN->(aN->aZ)->St->St
 |[],_,_,σ=>σ
 |(ws,_)::d,i,S,σ=>DU d (i+1) S (bif S i then wr σ ws else σ)
def u0:∀{m:Tr} {i:aN} {S f:aN->aZ} {σ σ':St} {k:aN},σ k=σ' k->(∀j ws t,m[j]? =ai (ws,t)->S (i+j)≠f (i+j)->k∉ws.map (·.1))->DU m i S σ k=DU m i f σ' k:=by
 intro m;induction m with
 |nil=>intro i S f σ σ' k h _;exact h
 |cons d m ih=>
  obtain⟨ws,t⟩:=d;intro i S f σ σ' k h hd;refine ih ?_ (λj x u y z=>hd (j+1) x u y (by rwa[show i+(j+1)=i+1+j by omega]));by_cases s:S i=f i
  ·rw[s];cases f i
   ·exact h
   ·exact Vf h
  ·have hk:=hd 0 ws t rfl s;cases hs:S i<;>cases r:f i
   ·exact cO (hs.trans r.symm) s
   ·show σ k=wr σ' ws k;rw[pQ hk];exact h
   ·show wr σ ws k=σ' k;rw[pQ hk];exact h
   ·exact cO (hs.trans r.symm) s
def DD:∀{f:Tr} {i:aN} {S:aN->aZ} {σ:St},(∀j,i<=j->S j=aq)->DU f i S σ=σ:=by
 intro f;induction f with
 |nil=>intro i S σ _;rfl
 |cons d f ih=>obtain⟨ws,m⟩:=d;intro i S σ h;show DU f (i+1) S (bif S i then wr σ ws else σ)=σ;rw[h i (bW _)];exact ih (λj k=>h j (by omega))
def U0:∀{f:Tr} {i j:aN} {S:aN->aZ} {σ:St} {ws:aE (aN×e9)} {m:Lg},f[j]? =ai (ws,m)->S (i+j)=ao->(∀q,i+j<q->S q=aq)->∃τ,DU f i S σ=wr τ ws:=by
 intro f;induction f with
 |nil=>intro i j S σ ws m h;simp at h
 |cons d f ih=>
  obtain⟨k,t⟩:=d;intro i j S σ ws m h s r;cases j with
  |zero=>
   cases h;refine⟨σ,?_⟩
   show DU f (i+1) S (bif S i then wr σ k else σ)=wr σ k;rw[show S i=ao from s];exact DD (λq hq=>r q (by omega))
  |succ j=>exact ih (i:=i+1) h (by rwa[show i+1+j=i+(j+1)by omega]) (λq hq=>r q (by omega))
def Sj:∀{os:aE ia} {i:aN} {σ σ':St} {f:Tr},wS E all s i os σ f σ'->f.length=os.length/\DU f i (λ_=>ao) σ=σ'/\
  ∀(j:aN) (o:ia),os[j]? =ai o->∃ws k,f[j]? =ai (ws,k)/\vI E all (Lh s (i+j)) o (DU f i (λq=>ah (q<i+j)) σ) ws k:=by
 intro os;induction os with
 |nil=>intro i σ σ' f h;obtain⟨rfl,rfl⟩:=h;exact⟨rfl,rfl,λj o h=>by simp at h⟩
 |cons o os ih=>
  intro i σ σ' f h;obtain⟨ws,k,d,rfl,hs,m⟩:=h;obtain⟨h1,h2,h3⟩:=ih m;refine⟨by simp[h1],h2,λj o' u=> ?_⟩
  cases j with
  |zero=>
   cases u;refine⟨ws,k,rfl,?_⟩
   rw[show DU ((ws,k)::d) i (λq=>ah (q<i+0)) σ=σ from DD (λq hq=>by simp;omega)];exact hs
  |succ j=>
   obtain⟨t,r,y,z⟩:=h3 j o' u;refine⟨t,r,y,?_⟩
   have x:DU ((ws,k)::d) i (λq=>ah (q<i+(j+1))) σ=DU d (i+1) (λq=>ah (q<i+1+j)) (wr σ ws):=by show DU d (i+1) (λq=>ah (q<i+(j+1))) (bif ah (i<i+(j+1))then wr σ ws else σ)=_;rw[aA (by omega:i<i+(j+1))];rw[show i+(j+1)=i+1+j by omega];rfl
   rw[x,show i+(j+1)=i+1+j by omega];exact z
def tY(h:CI a b=aq):(∀k∈a.ws,k∉b.ws)/\(∀k∈a.ws,k∉b.rs)/\∀k∈b.ws,k∉a.rs:=by simp only[CI,iw,aM]at h;exact⟨o7 h.1.1,o7 h.1.2,o7 h.2⟩
def Ab(h:mJ n l=ao):n∈l:=by
 induction l with
 |nil=>cases h
 |cons m r ih=>
  simp only[mJ,dN]at h;rcases h with h|h
  ·rw[aX h];exact cQ ..
  ·exact cK _ (ih h)
def Ky:∀{l:aE Lg} {i:aN},BW an j a i l=ao->∀(q:aN) (b:Lg),l[q]? =ai b->i+q∈an\/CI a b=false:=by
 intro l;induction l with
 |nil=>intro i _ q b h;simp at h
 |cons d l ih=>
  intro i h q b hq;simp only[BW,aM,dN,di]at h;cases q with
  |zero=>cases hq;exact h.1.imp Ab id
  |succ q=>have:=ih h.2 q b hq;rwa[show i+1+q=i+(q+1)by omega]at this
def M8:∀{rest:aE Lg} {j:aN} {done:aE Lg},done.length=j->calm j an done rest=ao->∀(i J:aN) (a b:Lg),i<J->j<=J->(done++rest)[i]? =ai b->(done++rest)[J]? =ai a->i∈an.getD J []\/CI a b=false:=by
 intro rest;induction rest with
 |nil=>intro j done hd _ i J a b _ r _ f;rw[d_,ll (by omega)]at f;cases f
 |cons d rest ih=>
  intro j done hd h i J a b m r hi f;simp only[calm,aM]at h;by_cases k:J=j
  ·subst k;rw[de (by omega),hd,qe]at f;cases f;rw[dz (by omega)]at hi;have:=Ky h.1 i b hi;rwa[bV]at this
  ·refine ih (done:=done++[d]) (by simp[hd]) h.2 i J a b m (by omega) ?_ ?_
   ·rw[cg];exact hi
   ·rw[cg];exact f
def Wf:∀{os:aE ia} {acc:aE (aE aN)},∃rest,GP acc os=acc++rest/\rest.length=os.length/\
  ∀(t:aN) (o:ia),os[t]? =ai o->rest[t]? =ai (ddA [] (o.after.toList.flatMap λe=>bif mM .any e then e.on::((acc++rest).take (acc.length+t)).getD e.on []else [])):=by
 intro os;induction os with
 |nil=>intro acc;exact⟨[],by simp[GP],rfl,λt o h=>by simp at h⟩
 |cons o os ih=>
  intro acc;let x:=ddA [] (o.after.toList.flatMap λe=>bif mM .any e then e.on::acc.getD e.on []else []);obtain⟨rest,h1,h2,h3⟩:=ih (acc:=acc++[x]);refine⟨x::rest,?_,by simp[h2],λt o' d=> ?_⟩
  ·show mU x (λx=>GP (acc++[x]) os)=_;rw[o9,h1,cg];rfl
  ·cases t with
   |zero=>cases d;rw[s_,BJ,List.take_append_of_le_length (bW _),cR]
   |succ t=>rw[dQ,h3 t o' d];simp only[bU,bz,cg,vg,show acc.length+1+t=acc.length+(t+1)by omega]
def NY:∀{os:aE ia} {i:aN},Jq i os=ao->∀(t:aN) (o:ia),os[t]? =ai o->∀e∈o.after,mM .any e=ao->e.on<i+t:=by
 intro os;induction os with
 |nil=>intro i _ t o h;simp at h
 |cons o os ih=>
  intro i h t o' j e f d;simp only[Jq,aM]at h;cases t with
  |zero=>
   cases j;have:=bE.1 h.1 e (by simpa using f);rw[d]at this;have:oE e.on i=true:=by simpa using this
   simpa [tz]using this
  |succ t=>have:=ih h.2 t o' j e f d;omega
def Cy{os:aE ia}{S:aN->aZ}(t:∀(j:aN) (o:ia),S j=ao->os[j]? =ai o->∀e∈o.after,mM .any e=ao->S e.on=ao)(k:Jq 0 os=ao):
  ∀j,S j=ao->∀i∈(GP [] os).getD j [],S i=true:=by
 obtain⟨rest,h1,h2,h3⟩:=Wf (os:=os) (acc:=[]);rw[eR]at h1;intro j;induction j using Nat.strongRecOn with
 |_ j ih=>
  intro u i hi;rw[h1,dc]at hi;cases s:os[j]? with
  |none=>rw[ll (by rw[h2];exact List.getElem?_eq_none_iff.1 s)]at hi;cases hi
  |some o=>
   rw[h3 j o s]at hi;simp only[zf,jU,bV,eR]at hi;have hi:=(GY _ _ _ hi).elim (λh=>by cases h) id;obtain⟨e,r,hi⟩:=bL.1 hi;have r:e∈o.after:=by simpa using r
   cases m:mM .any e with
   |false=>rw[m]at hi;cases hi
   |true=>
    rw[m]at hi;have d:=NY k j o s e r m;rw[bV]at d;have f:=t j o u s e r m;rcases cF.1 hi with rfl|hi
    ·exact f
    ·refine ih e.on d f i ?_;rw[h1,dc];rw[dc,ej,bm d]at hi;exact hi
end Go.FG
namespace Go.FG
def IL(hp:p i=ao)(k:p' i=aq)(d:∀j,j≠i->p' j=p j):∀{l:aE aN},l.Nodup->i∈l->l.countP p'+1=l.countP p:=by
 have same:∀{l:aE aN},i∉l->l.countP p'=l.countP p:=by
  intro l;induction l with
  |nil=>intro _;rfl
  |cons m l ih=>intro h;rw[cF,not_or]at h;rw[lK,lK,ih h.2,d m (λe=>h.1 e.symm)]
 intro l;induction l with
 |nil=>intro _ h;cases h
 |cons m l ih=>
  intro f h;rw[kU]at f;rcases cF.1 h with rfl|h
  ·rw[lK,lK,same f.1,hp,k];simp
  ·have hm:m≠i:=λe=>f.1 (e▸h);rw[lK,lK,d m hm,<-ih f.2 h];omega
def qL{f:eN aZ}{i:aN}(h:i<f.size)(d:aZ):(f.setIfInBounds i ao).getD i d=true:=by simp[h]
section
variable {P:dx} {E:gy}
def O3(hE:eB P E)(hF:∀g,lI P E g (E.call g)){N:aN}{σ0:St}{c0:gQ}{w0:cN}{m:eN ia}{x4:aN}{Q:Exit->Act->cN->Prop}{σ σ':St}{M:Tr}(x5:wS E m x4 0 m.toList σ M σ')(U:calm 0 (GP [] m.toList) [] (M.map (·.2))=ao)(X:Jq 0 m.toList=ao)
  (hx:∀o∈m.toList,∀d,o.dst=ai d->d<N) (hQ:∀a w c,At P E N σ0 c0 w0 σ' a w c->Q .normal a w):
  ∀(A:aN) (f:eN aZ) (a:Act) (w:cN) (c:gQ),f.size=m.size->(∀(j:aN) (o:ia),f.getD j aq=ao->m.toList[j]? =ai o->∀e∈o.after,mM .any e=ao->f.getD e.on aq=ao)->
   (c7 m.size).countP (λj=> !f.getD j aq)<=A->At P E N σ0 c0 w0 (DU M 0 (λj=>f.getD j aq) σ) a w c->wpAny P .any m Q A f a w:=by
 obtain⟨t1,t2,t3⟩:=Sj x5;have x0:m.toList.length=m.size:=dM;have done:∀(f:eN aZ) (a:Act) (w:cN) (c:gQ),(∀j,j<m.size->f.getD j aq=ao)->At P E N σ0 c0 w0 (DU M 0 (λj=>f.getD j aq) σ) a w c->Q .normal a w:=by
  intro f a w c K z;refine hQ a w c ?_;have:DU M 0 (λj=>f.getD j aq) σ=σ':=by
   rw[<-t2];funext k;refine u0 rfl (λj ws lg u s=> ?_);have ha:j<m.size:=by rw[<-x0,<-t1];exact(aW.1 u).1
   rw[bV]at s;exact cO (K j ha) s
  rw[<-this];exact z
 have R:∀(f:eN aZ) (j:aN),f.size=m.size->j<m.size->f.getD j ao=f.getD j false:=by
  intro f j hs u;rw[eM,eM];have:j<f.size:=by omega
  simp[this]
 have hu:∀f:eN aZ,f.size=m.size->xB .any m f=[]->∀j,j<m.size->f.getD j aq=true:=by
  intro f hs hr j;induction j using Nat.strongRecOn with
  |_ j ih=>
   intro u;cases h:f.getD j aq with
   |true=>rfl
   |false=>
    have ho:m[j]? =ai m[j]:=by simp[u]
    have:j∈xB .any m f:=by
     rw[mem_ready];refine⟨by rw[R f j hs u];exact h,m[j],ho,λe he hb=> ?_⟩
     have:=NY X j m[j] (by rw[da];exact ho) e he hb;rw[bV]at this;exact ih e.on this (by omega)
    rw[hr]at this;cases this
 intro A;induction A with
 |zero=>
  intro f a w c hs _ h9 z;have K:∀j,j<m.size->f.getD j aq=true:=by intro j u;have h0:=List.countP_eq_zero.1 (Nat.le_zero.1 h9) j (by simpa using u);simpa using h0
  refine⟨?_,done f a w c K z⟩
  cases hr:xB .any m f with
  |nil=>rfl
  |cons i r=>
   have:i∈xB .any m f:=by rw[hr];exact cQ ..
   obtain⟨h0,o,ho,_⟩:=mem_ready.1 this;have hi:i<m.size:=(dD.1 ho).1;rw[R f i hs hi,K i hi]at h0;cases h0
 |succ A ih=>
  intro f a w c hs hv h9 z;refine⟨λhr=>done f a w c (hu f hs hr) z,λi hi=> ?_⟩
  obtain⟨h0,o,ho,x2⟩:=mem_ready.1 hi;have hy:i<m.size:=(dD.1 ho).1;rw[R f i hs hy]at h0;have hh:m.toList[i]? =ai o:=by rw[da];exact ho
  obtain⟨ws,lg,q1,q2⟩:=t3 i o hh;rw[bV]at q2;have C:∀{j:aN} {x:aE (aN×e9)} {t:Lg},M[j]? =ai (x,t)->(M.map (·.2))[j]? =ai t/\t.ws=x.map (·.1):=by
   intro j x t u;have ha:j<m.toList.length:=by rw[<-t1];exact(aW.1 u).1
   obtain⟨x9,x8,r1,r2⟩:=t3 j m.toList[j] (by simp[ha]);rw[u]at r1;cases r1;exact⟨by rw[bJ,u];rfl,r2.keys⟩
  obtain⟨x3,x7⟩:=C q1;have h7:∀(j:aN) (o':ia),(f.setIfInBounds i ao).getD j aq=ao->m.toList[j]? =ai o'->∀e∈o'.after,mM .any e=ao->(f.setIfInBounds i ao).getD e.on aq=true:=by
   intro j o' u hf e he hb;by_cases y:i=j
   ·subst y;rw[hh]at hf;cases hf;exact getD_set_true (x2 e he hb)
   ·rw[getD_set_ne aq y]at u;exact getD_set_true (hv j o' u hf e he hb)
  have Y:∀j,j<i->f.getD j aq=aq->∀{x:aE (aN×e9)} {t:Lg},M[j]? =ai (x,t)->CI lg t=false:=by
   intro j u V x t hc;rcases M8 (done:=[]) rfl U j i lg t u (bB _) (C hc).1 x3 with h|h
   ·have:=Cy h7 X i (qL (by omega) aq) j h;rw[getD_set_ne aq (by omega:i≠j)]at this;rw[V]at this;cases this
   ·exact h
  have O:∀j,i<j->f.getD j aq=ao->∀{x:aE (aN×e9)} {t:Lg},M[j]? =ai (x,t)->CI t lg=false:=by
   intro j u V x t hc;rcases M8 (done:=[]) rfl U i j t lg u (bB _) x3 (C hc).1 with h|h
   ·have:=Cy hv X j V i h;rw[h0]at this;cases this
   ·exact h
  have ht:vI E m (Lh x4 i) o (DU M 0 (λj=>f.getD j aq) σ) ws lg:=by
   refine q2.congr (λk hk=>u0 rfl (λj x t u s B=> ?_));rw[bV]at s;rw[<-(C u).2]at B;by_cases y:j<i
   ·rw[aA y]at s;have V:f.getD j aq=false:=by simpa using s
    exact(tY (Y j y V u)).2.2 k B hk
   ·rw[aD y]at s;have V:f.getD j aq=true:=by simpa using s
    have hz:i<j:=by
     rcases rL i j with h|h
     ·exact h
     ·have:j=i:=by omega
      subst this;rw[h0]at V;cases V
    exact(tY (O j hz V u)).2.1 k B hk
  have x1:wr (DU M 0 (λj=>f.getD j aq) σ) ws=DU M 0 (λj=>(f.setIfInBounds i ao).getD j aq) σ:=by
   funext k;by_cases hk:k∈ws.map (·.1)
   ·have e1:DU M 0 (λj=>(f.setIfInBounds i ao).getD j aq) σ k=DU M 0 (λj=>(f.setIfInBounds i ao).getD j aq&&ah (j<=i)) σ k:=by
     refine u0 rfl (λj x t u s B=> ?_);rw[bV]at s;rw[<-(C u).2]at B;have y:i<j:=by
      rcases rL i j with h|h
      ·exact h
      ·rw[aA h,gE]at s;exact cO rfl s
     rw[aD (by omega:¬j<=i),wQ,getD_set_ne aq (by omega:i≠j)]at s;have V:f.getD j aq=true:=by simpa using s
     rw[<-x7]at hk;exact(tY (O j y V u)).1 k B hk
    obtain⟨τ,hτ⟩:=U0 (i:=0) (S:=λj=>(f.setIfInBounds i ao).getD j aq&&ah (j<=i)) (σ:=σ) q1 (by rw[bV,qL (by omega) aq];simp) (λq hq=>by rw[aD (by omega:¬q<=i),wQ]);rw[e1,hτ];exact Vg hk
   ·rw[pQ hk];refine u0 rfl (λj x t u s B=> ?_);rw[bV]at s;by_cases y:i=j
    ·subst y;rw[q1]at u;cases u;exact hk B
    ·rw[getD_set_ne aq y]at s;exact cO rfl s
  refine Cb hE hF z.ok z.sl (λd x6=>by rw[z.sz];exact hx o (aU hh) d x6) ho ht (λv w' c' h1 h2 h3 h4=> ?_);have h5:=z.step h1 h2 h3 h4;rw[x1]at h5;refine ih (f.setIfInBounds i ao) _ _ c' (by simp[hs]) h7 ?_ h5;have:=IL (p:=λj=> !f.getD j aq) (p':=λj=> !(f.setIfInBounds i ao).getD j aq) (i:=i) (by rw[h0];rfl) (by rw[qL (by omega) aq];rfl) (λj u=>by rw[getD_set_ne aq (λe=>u e.symm)]) (l:=c7 m.size) List.nodup_range (by simpa using hy);omega
def At.drawn(h:At P E N σ0 c0 w0 σ a w c)(n:aN):At P E N σ0 c0 w0 σ a {w with drawn:=n} c:=by have d:=h.ok.change (σ':=σ) (w':={w with drawn:=n}) (c':=c) (λ_=>False) (λ_ _=>rfl) (λ_ h=>h) (jK.refl _ _) (λ_ _ _=>rfl) (bW _) (λ_ h=>h) (λ_ h=>.inl h) h.ok.lt (λ_ _ h=>h.elim) (λ_ _ _ h=>h.elim) (λ_ _ _ _ _ h=>h.elim) (λ_ _ h=>h.elim) rfl rfl rfl;refine⟨d.1,⟨λf=>(h.sl.ok f).frame (λ_ _=>rfl) (λ_ h=>h) (λ_ _=>⟨rfl,rfl⟩),h.sl.kn,h.sl.df⟩,h.sz,h.gr.trans d.2,h.ag⟩
def PY(hE:eB P E)(y:∀g,lI P E g (E.call g))(hm:P.follows .mixedOrders=ao){R:Type}{N:aN}{σ0:St}{c0:gQ}{w0:cN}{os:eN ia}{k:aN}{f:aZ}{Q:Exit->Act->cN->Prop}{σ:St}{K:Ex->St->aG R}{r:R}
  (h:ops E os k 0 os.toList σ [] (λσ A=>bif !f||(Jq 0 os.toList&&M7 (GP [] os.toList) A.reverse)then K .normal σ else ay)=ai r) (i:∀o∈os.toList,∀d,o.dst=ai d->d<N)
  (z:∀σ' a w c,K .normal σ'=ai r->At P E N σ0 c0 w0 σ' a w c->Q .normal a w) {a:Act} {w:cN} {c:gQ} (m:At P E N σ0 c0 w0 σ a w c):(Code.region k os f).wp P Q a w:=by
 obtain⟨x,σ',t,hk⟩:=PK E os k _ _ _ _ _ _ h;simp only[d_,List.reverse_reverse,Sg]at hk;cases f with
 |false=>simp only[bH,OK,au]at hk;refine wp_region ?_;rw[V5,<-dM];exact KD hE y os.toList 0 σ x σ' t (λj o u=>by rw[bV,<-da];exact u) i (λa w c h=>z σ' a w c hk h) a w c m
 |true=>
  cases s:(Jq 0 os.toList&&calm 0 (GP [] os.toList) [] (x.map (·.2)))with
  |false=>simp[s]at hk
  |true=>
   simp only[s,Kd,au]at hk;simp only[aM]at s;refine wp_region_any hm ?_;refine O3 hE y t s.2 s.1 i (λa w c h=>z σ' a w c hk h) os.size _ a _ c (by simp) (λj o u=> ?_) ?_ ?_
   ·exfalso;rw[eM,Eu]at u;split at u<;>cases u
   ·exact ca (List.countP_le_length) (by simp)
   ·have:DU x 0 (λj=>(Bt os.size aq).getD j aq) σ=σ:=DD (λj _=>by rw[eM,Eu];split<;>rfl);rw[this];exact m.drawn _
end
end Go.FG
namespace Go.FG
def SK:∀{l:aE aN} {n i:aN},n∈l->∃k,idx n i l=ai k/\i<=k/\k<i+l.length/\l[k-i]? =ai n:=by
 intro l;induction l with
 |nil=>intro n i h;cases h
 |cons m l ih=>
  intro n i h;unfold idx;cases d:bN n m with
  |true=>have:=aX d;subst this;exact⟨i,rfl,bW _,by simp,by simp⟩
  |false=>
   rcases cF.1 h with rfl|h
   ·simp at d
   ·obtain⟨k,h1,h2,h3,h4⟩:=ih (i:=i+1) h;refine⟨k,h1,by omega,by simp;omega,?_⟩
    rw[show k-i=(k-(i+1))+1 by omega,dQ];exact h4
def WK:∀{l:aE aN} {n i k:aN},idx n i l=ai k->i<=k/\k<i+l.length/\l[k-i]? =ai n:=by
 intro l;induction l with
 |nil=>intro n i k h;cases h
 |cons m l ih=>
  intro n i k h;unfold idx at h;cases d:bN n m with
  |true=>rw[d]at h;have:=aX d;subst this;cases h;exact⟨bW _,by simp,by simp⟩
  |false=>
   rw[d]at h;obtain⟨h2,h3,h4⟩:=ih h;refine⟨by omega,by simp;omega,?_⟩
   rw[show k-i=(k-(i+1))+1 by omega,dQ];exact h4
def KJ(h:k<900):enc f k<900000000:=by unfold enc;cases f<;>simp<;>omega
def WO(h:k<900):z7 (enc f k)=f:=by
 cases f with
 |false=>
  show(bN (k%1000) 999&&oE k 900000000)=aq;have:bN (k%1000) 999=false:=by
   cases d:bN (k%1000) 999 with
   |false=>rfl
   |true=>have:=aX d;omega
  rw[this];rfl
 |true=>show(bN ((k*1000+999)%1000) 999&&oE (k*1000+999) 900000000)=ao;rw[show(k*1000+999)%1000=999 by omega,show oE (k*1000+999) 900000000=ao from wc (by omega)];rfl
def Ws(h:k<900)(i:k'<900)(d:enc f k=enc f' k'):k=k':=by unfold enc at d;cases f<;>cases f'<;>simp at d<;>omega
def T'(h:n∈l):∃k,wC l n=ai k:=by
 unfold wC;cases e6 900000000 n with
 |true=>exact⟨n,by simp[Je h]⟩
 |false=>obtain⟨k,hk,_⟩:=SK (i:=0) h;exact⟨enc (z7 n) k,by simp[hk]⟩
def yv(h:wC l n=ai k):n∈l/\((900000000<=n/\k=n)\/(n<900000000/\∃f,k=enc (z7 n) f/\f<l.length/\l[f]? =ai n)):=by
 unfold wC at h;cases d:e6 900000000 n with
 |true=>
  rw[d]at h;cases hm:mJ n l with
  |true=>simp only[hm,au]at h;cases h;exact⟨Ab hm,.inl ⟨b8 d,rfl⟩⟩
  |false=>simp[hm]at h
 |false=>
  rw[d,ax]at h;cases hi:idx n 0 l with
  |none=>rw[hi]at h;cases h
  |some f=>
   rw[hi]at h;cases h;obtain⟨_,h3,h4⟩:=WK hi;rw[H2]at h4;refine⟨aU h4,.inr ⟨?_,f,rfl,by simpa using h3,h4⟩⟩
   rcases rL n 900000000 with h|h
   ·exact h
   ·rw[wc h]at d;cases d
def N0(hl:l.length<=900)(h:wC l n=ai k):z7 k=z7 n:=by
 obtain⟨_,⟨_,rfl⟩|⟨_,d,rfl,h3,_⟩⟩:=yv h
 ·rfl
 ·exact WO (by omega)
def YA(hl:l.length<=900)(h:wC l n=ai k)(u:wC l j=ai k):n=j:=by
 obtain⟨_,h1⟩:=yv h;obtain⟨_,h2⟩:=yv u;rcases h1 with ⟨a,b⟩|⟨a,s,b,d,e⟩<;>rcases h2 with ⟨t,m⟩|⟨t,i,m,x,r⟩
 ·omega
 ·have:=KJ (f:=z7 j) (k:=i) (by omega);omega
 ·have:=KJ (f:=z7 n) (k:=s) (by omega);omega
 ·have:=Ws (f:=z7 n) (f':=z7 j) (k:=s) (k':=i) (by omega) (by omega) (b.symm.trans m);subst this;rw[e]at r;cases r;rfl
def inv(l:aE aN)(m:aN):aG aN:=l.find? λn=>ah (wC l n=ai m)
def ad2(hl:l.length<=900)(h:wC l n=ai k):inv l k=ai n:=by
 unfold inv;cases d:l.find? (λn=>ah (wC l n=ai k))with
 |none=>have:=V1.1 d n (yv h).1;simp[h]at this
 |some f=>have:=FY d;rw[YA hl h (cB this)]
def SP(h:inv l m=ai n):wC l n=ai m:=cB (FY (p:=λn=>ah (wC l n=ai m)) h)
def Ff(h:z_ l ns=ao):∀n∈ns,n∈l:=λn d=>Ab (bE.1 h n d)
def sw:∀{r:aE aN} {k:aN} {x:e9},(k,x)∈wy σ l r↔∃n∈r,∃m,wC l n=ai m/\k=dj m/\x=PZ l (σ (dj n)):=by
 intro r;induction r with
 |nil=>intro k x;simp[wy]
 |cons n r ih=>
  intro k x;unfold wy;cases f:wC l n with
  |none=>
   simp only;rw[ih];constructor
   ·rintro ⟨d,h1,h2⟩;exact⟨d,cK _ h1,h2⟩
   ·rintro ⟨d,h1,m,h2,h3⟩;rcases cF.1 h1 with rfl|h1
    ·rw[f]at h2;cases h2
    ·exact⟨d,h1,m,h2,h3⟩
  |some m=>
   simp only[cF,ih];constructor
   ·rintro (h|⟨d,h1,h2⟩)
    ·cases h;exact⟨n,.inl rfl,m,f,rfl,rfl⟩
    ·exact⟨d,.inr h1,h2⟩
   ·rintro ⟨d,h1|h1,i,h2,rfl,rfl⟩
    ·subst h1;rw[f]at h2;cases h2;exact .inl rfl
    ·exact .inr ⟨d,h1,i,h2,rfl,rfl⟩
section
variable {P:dx} {E:gy} {σ:St} {a:Act} {w:cN} {c:gQ} {o:ia} {nm:aN} {e:tF}
def yt(c:gQ)(l:aE aN):gQ:=
 ⟨λm=>match inv l m with|some n=>c.P n|none=>c.P m,λm=>match inv l m with|some n=>c.G n|none=>c.G m,c.K⟩
def yu(hl:l.length<=900)(h:wC l n=ai m):(yt c l).P m=c.P n/\(yt c l).G m=c.G n:=by have:=ad2 hl h;unfold yt;simp only[this];exact⟨trivial,trivial⟩
def ux(hl:l.length<=900)(f:eI T w c x u)(hk:∀n∈bP x,n∈l):eI T w (yt c l) (qt l x) u/\∀m∈bP (qt l x),∃n∈l,wC l n=ai m:=by
 have d:∀n,n∈bP x->∃k,wC l n=ai k/\(yt c l).P k=c.P n/\(yt c l).G k=c.G n:=λn y=>by obtain⟨k,h⟩:=T' (hk n y);exact⟨k,h,yu hl h⟩
 have nn:∀m,m∈([]:aE aN)->∃n∈l,wC l n=ai m:=λm h=>by cases h
 cases x with
 |i=>exact⟨f,nn⟩
 |b=>exact⟨f,nn⟩
 |s=>exact⟨f,nn⟩
 |nl=>exact⟨f,nn⟩
 |sh=>exact⟨f,nn⟩
 |sp=>exact⟨f,nn⟩
 |fn=>exact⟨f,nn⟩
 |fp=>exact⟨f,nn⟩
 |own n=>obtain⟨k,h,r,t⟩:=d n (by simp[bP]);simp only[qt,h];exact⟨by simp only[eI,r]at f⊢;exact f,λm hm=>⟨n,hk n (by simp[bP]),by rw[show m=k by simpa [bP]using hm];exact h⟩⟩
 |vw n lo hi=>obtain⟨k,h,r,t⟩:=d n (by simp[bP]);simp only[qt,h];exact⟨by simp only[eI,r]at f⊢;exact f,λm hm=>⟨n,hk n (by simp[bP]),by rw[show m=k by simpa [bP]using hm];exact h⟩⟩
 |bp n j=>obtain⟨k,h,r,t⟩:=d n (by simp[bP]);simp only[qt,h];exact⟨by simp only[eI,r]at f⊢;exact f,λm hm=>⟨n,hk n (by simp[bP]),by rw[show m=k by simpa [bP]using hm];exact h⟩⟩
 |rp n i j=>obtain⟨k,h,r,t⟩:=d n (by simp[bP]);simp only[qt,h];exact⟨by simp only[eI,r]at f⊢;exact f,λm hm=>⟨n,hk n (by simp[bP]),by rw[show m=k by simpa [bP]using hm];exact h⟩⟩
 |mK n i j=>obtain⟨k,h,r,t⟩:=d n (by simp[bP]);simp only[qt,h];exact⟨by simp only[eI,r,t,N0 hl h]at f⊢;exact f,λm hm=>⟨n,hk n (by simp[bP]),by rw[show m=k by simpa [bP]using hm];exact h⟩⟩
 |ip n i j z A=>obtain⟨k,h,r,t⟩:=d n (by simp[bP]);simp only[qt,h];exact⟨by simp only[eI,r,t,N0 hl h]at f⊢;exact f,λm hm=>⟨n,hk n (by simp[bP]),by rw[show m=k by simpa [bP]using hm];exact h⟩⟩
def LA(hl:l.length<=900)(h:qG T w c g xs u)(hk:∀n∈xs.flatMap bP,n∈l):qG T w (yt c l) g (xs.map (qt l)) u/\∀m∈(xs.map (qt l)).flatMap bP,∃n∈l,wC l n=ai m:=by
 have s:∀x∈xs,∀n∈bP x,n∈l:=λx h n A=>hk n (bL.2 ⟨x,h,A⟩);unfold qG at h;split at h
 ·rename_i y;obtain⟨h1,h2⟩:=ux hl h (s y (by simp));exact⟨h1,λm hm=>h2 m (by simpa using hm)⟩
 ·obtain⟨k,rfl,hs,z⟩:=h;refine⟨⟨k,rfl,by simp[hs],λj y f=> ?_⟩,λm hm=> ?_⟩
  ·rw[bJ]at f;cases d:xs[j]? with
   |none=>rw[d]at f;cases f
   |some x=>rw[d]at f;cases f;obtain⟨u,t,r⟩:=z j x d;exact⟨u,t,(ux hl r (s x (aU d))).1⟩
  ·obtain⟨y,B,hm⟩:=bL.1 hm;obtain⟨x,i,rfl⟩:=cU.1 B;obtain⟨j,f⟩:=b5 i;obtain⟨u,t,r⟩:=z j x f;exact(ux hl r (s x i)).2 m hm
 ·exact h.elim
def Jw(hl:l.length<=900)(i:jb T w c s u):jb T w (yt c l) (Fu l s) u/\∀m∈cX (Fu l s),∃n∈l,wC l n=ai m:=by
 unfold Fu;cases hk:z_ l (cX s)with
 |false=>exact⟨trivial,λm hm=>by simp[cX]at hm⟩
 |true=>
  have hk:=Ff hk;simp only[au];cases s with
  |un=>exact⟨trivial,λm hm=>by simp[cX]at hm⟩
  |v g xs=>exact LA hl i hk
  |kz r=>
   obtain⟨vs,rfl,hs,z⟩:=i;have A:∀x∈r,∀n∈x.2.flatMap bP,n∈l:=λx i n B=>hk n (bL.2 ⟨x,i,B⟩);refine⟨⟨vs,rfl,by simp[hs],λj g xs f=> ?_⟩,λm hm=> ?_⟩
   ·rw[bJ]at f;cases d:r[j]? with
    |none=>rw[d]at f;cases f
    |some x=>rw[d]at f;cases f;obtain⟨u,t,k⟩:=z j x.1 x.2 d;exact⟨u,t,(LA hl k (A x (aU d))).1⟩
   ·obtain⟨y,C,hm⟩:=bL.1 hm;obtain⟨x,h,rfl⟩:=cU.1 C;obtain⟨j,f⟩:=b5 h;obtain⟨u,t,k⟩:=z j x.1 x.2 f;exact(LA hl k (A x h)).2 m hm
def T_:PZ l x≠ .jW:=by
 unfold PZ;split
 ·intro h;revert h;cases z_ l _<;>simp
 ·simp
 ·simp
def O2(h:At P E N σ0 c0 w0 σ a w c):∃c',At P E N σ0 c0 w0 (eW (mU (KA keep σ) λl=>Kz keep σ l)) a w c':=by
 rw[o9];generalize KA keep σ=l;unfold Kz;cases ht:e6 l.length 900 with
 |false=>
  simp only[ax];have z:∀k,eW [] k=.jW:=λk=>rfl;have no:∀{k:aN} {x:Obj},eW [] k≠ .o x:=λh=>by rw[z]at h;cases h
  refine⟨c,⟨λnm o i=>cO i no,λnm o x2 o' b i=>cO i no,λnm o b i=>cO i no,h.ok.lt,λnm xs i=>cO i no,h.ok.gp⟩,⟨λn=>trivial,λn m hm=>(by simp[slot,eW,cX]at hm),h.sl.df⟩,h.sz,h.gr.trans ⟨rfl,rfl,rfl,bW _,λ_ h=>h,λ_ _ _=>rfl,λb hb=> ?_,λ_ h=>.inl h⟩,h.ag⟩
  obtain⟨nm,o,i,_⟩:=hb;exact cO i no
 |true=>
  have hl:=b8 ht;simp only[au];generalize hT:keep.map (λn=>(qP n,e9.v (Fu l (slot σ n))))++wy σ l l=T;have h7:∀d∈T,d.2≠ .jW:=by
   rintro ⟨k,x⟩ hd;rw[<-hT]at hd;rcases a_.1 hd with hd|hd
   ·obtain⟨n,_,hd⟩:=cU.1 hd;cases hd;simp
   ·obtain⟨n,_,m,_,_,rfl⟩:=sw.1 hd;exact T_
  have h9:∀{m:aN} {ob:Obj},eW T (dj m)=.o ob->∃n∈l,wC l n=ai m/\PZ l (σ (dj n))=.o ob:=by
   intro m ob i;have:=oe i (by simp);rw[<-hT]at this;rcases a_.1 this with hd|hd
   ·obtain⟨n,_,hd⟩:=cU.1 hd;injection hd with h1 h2;exact cO h1 (sM n m)
   ·obtain⟨n,z,m',s,h1,h2⟩:=sw.1 hd;have:=j9 h1;subst this;exact⟨n,z,s,h2.symm⟩
  have t:∀{m n:aN},n∈l->wC l n=ai m->eW T (dj m)≠ .jW:=λz s=>sO (l:=T) (by rw[<-hT];exact bR _ (sw.2 ⟨_,z,_,s,rfl,rfl⟩)) h7;have C:∀n,slot (eW T) n=Fu l (slot σ n)\/slot (eW T) n=.un:=by
   intro n;unfold slot;cases hs:eW T (qP n)with
   |v x=>
    have:=oe hs (by simp);rw[<-hT]at this;rcases a_.1 this with hd|hd
    ·obtain⟨n',_,hd⟩:=cU.1 hd;injection hd with h1 h2;have:=HG h1;subst this;cases h2;exact .inl rfl
    ·obtain⟨n',z,m',s,h1,h2⟩:=sw.1 hd;exact cO h1 (sM _ _)
   |o=>exact .inr rfl
   |jW=>exact .inr rfl
  have Y:∀{m:aN} {ob:Obj},eW T (dj m)=.o ob->ob=.dead\/∃n∈l,wC l n=ai m/\((σ (dj n)=.o ob/\∀xs,ob≠ .box xs)\/∃xs,σ (dj n)=.o (.box xs)/\ob=.box (xs.map (qt l))/\∀k∈xs.flatMap bP,k∈l):=by
   intro m ob i;obtain⟨n,z,s,M⟩:=h9 i;unfold PZ at M;split at M
   ·rename_i xs O;cases hk:z_ l (xs.flatMap bP)with
    |true=>rw[hk]at M;cases M;exact .inr ⟨n,z,s,.inr ⟨xs,O,rfl,Ff hk⟩⟩
    |false=>rw[hk]at M;cases M;exact .inl rfl
   ·rename_i x hz O;cases M;exact .inr ⟨n,z,s,.inl ⟨O,λxs e=>hz xs e⟩⟩
   ·cases M;exact .inl rfl
  have r:∀{m:aN} {ob:Obj} {b:aN},eW T (dj m)=.o ob->fN (yt c l) m ob b->∃n o,wC l n=ai m/\σ (dj n)=.o o/\fN c n o b:=by
   intro m ob b i B;rcases Y i with rfl|⟨n,z,s,⟨h1,_⟩|⟨xs,h1,rfl,_⟩⟩
   ·exact B.elim
   ·obtain⟨A,e2⟩:=yu (c:=c) hl s;refine⟨n,ob,s,h1,?_⟩
    cases ob<;>simp only[fN,A,e2]at B⊢ <;>exact B
   ·obtain⟨A,e2⟩:=yu (c:=c) hl s;refine⟨n,_,s,h1,?_⟩
    simp only[fN,A]at B⊢;exact B
  refine⟨yt c l,⟨?_,?_,?_,h.ok.lt,?_,h.ok.gp⟩,⟨?_,?_,h.sl.df⟩,h.sz,h.gr.trans ⟨rfl,rfl,rfl,bW _,λ_ h=>h,λ_ _ _=>rfl,?_,λ_ h=>.inl h⟩,h.ag.trans ?_⟩
  ·intro m ob i;rcases Y i with rfl|⟨n,z,s,⟨h1,h2⟩|⟨xs,h1,rfl,hk⟩⟩
   ·trivial
   ·obtain⟨A,e2⟩:=yu (c:=c) hl s;have V:=h.ok.obj n ob h1;cases ob with
    |box xs=>exact cO rfl (h2 xs)
    |dead=>trivial
    |ov cs=>show FB E w c.K ((yt c l).P m).blk cs;rw[A];exact V
    |f_ e' xs=>show Holds E w c.K (kX ((yt c l).P m)) _/\((yt c l).P m).n=_/\_;rw[A];exact V
    |row e' ex xs=>obtain⟨q1,q2,q3⟩:=V;exact⟨by rw[A];exact q1,by rw[A,e2];exact q2,by rw[A,e2];exact q3⟩
   ·obtain⟨A,e2⟩:=yu (c:=c) hl s;obtain⟨Q,hb,hs,hv⟩:=h.ok.obj n _ h1;refine⟨Q,by rw[A];exact hb,by simp[hs],λj y R=> ?_⟩
    rw[bJ]at R;cases O:xs[j]? with
    |none=>rw[O]at R;cases R
    |some x=>rw[O]at R;cases R;obtain⟨u,hu,ha⟩:=hv j x O;exact⟨u,hu,(ux hl ha (λk S=>hk k (bL.2 ⟨x,aU O,S⟩))).1⟩
  ·intro m ob m' ob' b i x0 B hc;obtain⟨n,o1,r1,s1,f1⟩:=r i B;obtain⟨n',o2,r2,s2,f2⟩:=r x0 hc;have:=h.ok.sep n o1 n' o2 b s1 s2 f1 f2;subst this;rw[r1]at r2;cases r2;rfl
  ·intro m ob b i B;obtain⟨n,o1,r1,s1,f1⟩:=r i B;exact h.ok.kk n o1 b s1 f1
  ·intro m xs i y hy k hk;rcases Y i with h'|⟨n,z,s,⟨h1,h2⟩|⟨zs,h1,M,hh⟩⟩
   ·cases h'
   ·exact cO rfl (h2 xs)
   ·cases M;obtain⟨x,h5,rfl⟩:=cU.1 hy;obtain⟨Q,hb,hs,hv⟩:=h.ok.obj n _ h1;obtain⟨j,R⟩:=b5 h5;obtain⟨u,hu,ha⟩:=hv j x R;obtain⟨n',U,X⟩:=(ux hl ha (λk S=>hh k (bL.2 ⟨x,h5,S⟩))).2 k hk;exact t U X
  ·intro n;rcases C n with hs|hs
   ·rw[hs];exact(Jw hl (h.sl.ok n)).1
   ·rw[hs];trivial
  ·intro n m hm;rcases C n with hs|hs
   ·rw[hs]at hm;obtain⟨n',U,X⟩:=(Jw hl (h.sl.ok n)).2 m hm;exact t U X
   ·rw[hs]at hm;simp[cX]at hm
  ·rintro b ⟨m,ob,i,B⟩;obtain⟨n,o1,r1,s1,f1⟩:=r i B;exact .inl ⟨n,o1,s1,f1⟩
  ·intro m hm;unfold yt;cases hi:inv l m with
   |none=>simp only[hi];exact⟨trivial,trivial⟩
   |some n=>
    have:=(yv (SP hi)).2;have:n=m:=by
     rcases this with ⟨_,h⟩|⟨_,k0,h,x1,_⟩
     ·exact h.symm
     ·have:=KJ (f:=z7 n) (k:=k0) (by omega);omega
    subst this;simp only[hi];exact⟨trivial,trivial⟩
def ah_{N:aN}{σ0:St}{c0:gQ}{w0:cN}{nm F j e:aN}{xs:aE AV}{ti:TI}(hx:E.ty e=ai ti)(he:F<900000000)(s:σ (dj nm)=.o (.box xs))(hF:σ (dj F)=.jW)(hc:xs[j]? =ai .nl)(h:At P E N σ0 c0 w0 σ a w c):
  ∃c',At P E N σ0 c0 w0 (p_ (p_ σ (dj nm) (.o (.box (xs.set j (.own F))))) (dj F) (.o (.row e ao []))) a w c':=by
 let c':gQ:=⟨λn=>if n=F then⟨ao,0,0,0,0,ti.ks.length⟩else c.P n,λn=>if n=F then(λ_ _=>⟨ao,0,0,0,0,0⟩)else c.G n,c.K⟩
 have U:c'.P F=⟨ao,0,0,0,0,ti.ks.length⟩:=bm rfl;have hA:jK σ c c':=λm hm=>by
  have:m≠F:=by rintro rfl;rcases hm with h|h;exact h hF;omega
  exact⟨bk this,bk this⟩
 have h9:nm≠F:=by rintro rfl;rw[s]at hF;cases hF
 have V:c'.P nm=c.P nm:=bk h9;let σ':=p_ (p_ σ (dj nm) (.o (.box (xs.set j (.own F))))) (dj F) (.o (.row e ao []));have key:∀m,σ' (dj m)=if m=F then .o (.row e ao [])else if m=nm then .o (.box (xs.set j (.own F)))else σ (dj m):=λm=>by show p_ _ _ _ _=_;rw[qv,qv]
 have Q:∀m,σ (dj m)≠ .jW->σ' (dj m)≠ .jW:=λm hm=>by
  rw[key];by_cases h1:m=F
  ·rw[bm h1];simp
  ·rw[bk h1];by_cases h2:m=nm
   ·rw[bm h2];simp
   ·rw[bk h2];exact hm
 have S:∀i j,¬gn [] i j:=λi j ⟨y,x,A,_⟩=>by simp at A
 have C:∀b,¬fN c' F (.row e ao []) b:=by
  rintro b (⟨h1,_⟩|⟨_,i,j,h1,_⟩)
  ·rw[U]at h1;cases h1
  ·exact S i j h1
 obtain⟨Y,hb,ha,hv⟩:=h.ok.obj nm _ s
 have hh:=h.ok.change (σ':=σ') (w':=w) (c':=c') (λm=>m=F\/m=nm)
  (λm hm=>by rw[key,bk (λe=>hm (.inl e)),bk (λe=>hm (.inr e))]) Q hA (λ_ _ _=>rfl) (bW _) (λ_ h=>h) (λ_ h=>.inl h) h.ok.lt
  (λm o hm r=>by
   rw[key]at r;by_cases f:m=F
   ·rw[bm f]at r;cases r;subst f;refine⟨⟨ti,hx,by rw[U],λy A=>by cases A⟩,⟨by rw[U];rfl,λ_=>⟨rfl,by rw[U]⟩,λO=>by rw[U]at O;cases O⟩,λ_=>⟨λi j hi=>cO hi (S i j),λi j _ _ hi=>cO hi (S i j)⟩⟩
   ·have z:=hm.resolve_left f;subst z;rw[bk f,bm rfl]at r;cases r;refine⟨Y,by rw[V];exact hb,by rw[ch];exact ha,λk y hk=> ?_⟩
    by_cases X:j=k
    ·subst X;have hl:j<xs.length:=(aW.1 hc).1;rw[List.getElem?_set_self hl]at hk;cases hk;obtain⟨u,hu,M⟩:=hv j _ hc;exact⟨u,hu,by show u=kX (c'.P F);rw[U];exact M⟩
    ·rw[List.getElem?_set_ne X]at hk;obtain⟨u,hu,M⟩:=hv k y hk;exact⟨u,hu,M.frame (λ_ _=>rfl) (λ_ h=>h) (λn O=>hA n (.inl (h.ok.kn m xs s y (aU hk) n O)))⟩)
  (λm o b hm r B=>by
   rw[key]at r;by_cases f:m=F
   ·rw[bm f]at r;cases r;subst f;exact cO B (C b)
   ·have z:=hm.resolve_left f;subst z;rw[bk f,bm rfl]at r;cases r;have B:b=(c'.P m).blk:=B;rw[V]at B;exact⟨.inl ⟨m,_,.inr rfl,s,B⟩,λhk=>h.ok.kk m _ b s B hk⟩)
  (λm o m' o' b hm h7 r R B h5=>by
   rw[key]at r R;by_cases f:m=F
   ·rw[bm f]at r;cases r;subst f;exact cO B (C b)
   ·by_cases t:m'=F
    ·rw[bm t]at R;cases R;subst t;exact cO h5 (C b)
    ·rw[hm.resolve_left f,h7.resolve_left t])
  (λm ys hm r y A n O=>by
   rw[key]at r;by_cases f:m=F
   ·rw[bm f]at r;cases r
   ·have z:=hm.resolve_left f;subst z;rw[bk f,bm rfl]at r;cases r;rcases rS A with A|A
    ·exact Q n (h.ok.kn m xs s y A n O)
    ·subst A;rw[show n=F from by simpa [bP]using O,key,bm rfl];simp) rfl rfl rfl
 have sl:=h.sl.change h.ok hh.2 hA Q ({(default:ia)with dst:=none}) undef (λn _=>by show slot (p_ _ _ _) n=_;rw[jv,jv]) (λd hd=>by cases hd);exact⟨c',hh.1,sl,h.sz,h.gr.trans hh.2,h.ag.trans hA.w.aga⟩
def Tm(j:∃ti,E.ty (kTy x)=ai ti)(h:At P E N σ0 c0 w0 σ a w c):∃σ' c',At P E N σ0 c0 w0 σ' a w c'/\∀f:St->α,AW x σ f=f σ':=by
 obtain⟨ti,j⟩:=j;have i:kNm x<900000000:=by unfold kNm;have:=F0 (x/1000) (show 1000000>0 by omega);omega
 have no:(∀f:St->α,AW x σ f=f σ)->∃σ' c',At P E N σ0 c0 w0 σ' a w c'/\∀f:St->α,AW x σ f=f σ':=λe=>⟨σ,c,h,e⟩
 cases hs:slot σ (aaK x)with
 |v g l=>
  by_cases hm:∃nm xs,g=aq/\l=[.bp nm 0]/\σ (dj nm)=.o (.box xs)/\σ (dj (kNm x))=.jW/\xs[S7 x]? =ai .nl
  ·obtain⟨nm,xs,rfl,rfl,d,k,m⟩:=hm;obtain⟨c',r⟩:=ah_ j i d k m h;exact⟨_,c',r,λf=>by unfold AW;rw[hs];simp only[d,k,m,n_]⟩
  ·refine no λf=> ?_;unfold AW;rw[hs];split
   ·rename_i nm s;cases s;split
    ·rename_i xs h1 h2;split
     ·rename_i h3;exact cO ⟨nm,xs,rfl,rfl,h1,h2,h3⟩ hm
     ·rfl
    ·rfl
   ·rfl
 |kz l=>exact no λf=>by unfold AW;rw[hs]
 |un=>exact no λf=>by unfold AW;rw[hs]
def C9:∀(keep:aE aN) (σ:St) (c:gQ) (hk:∀x∈keep,WQ x=ao->∃ti,E.ty (kTy x)=ai ti) (h:At P E N σ0 c0 w0 σ a w c),∃σ' c',At P E N σ0 c0 w0 σ' a w c'/\∀f:St->α,NL keep σ f=f σ'
 |[],σ,c,_,h=>⟨σ,c,h,λ_=>rfl⟩
 |x::r,σ,c,hk,h=>by
  cases i:WQ x with
  |false=>obtain⟨σ',c',d,e⟩:=C9 r σ c (λy j=>hk y (cK _ j)) h;exact⟨σ',c',d,λf=>by show(bif WQ x then _ else _)=_;rw[i];exact e f⟩
  |true=>obtain⟨σ1,k,h1,m⟩:=Tm (α:=α) (hk x (cQ ..) i) h;obtain⟨σ',c',d,e⟩:=C9 r σ1 k (λy j=>hk y (cK _ j)) h1;exact⟨σ',c',d,λf=>by show(bif WQ x then _ else _)=_;rw[i,au,m,e]⟩
def IE(hk:∀x∈keep,WQ x=ao->∃ti,E.ty (kTy x)=ai ti)(h:At P E N σ0 c0 w0 σ a w c):∃c',At P E N σ0 c0 w0 (canon keep σ) a w c':=by obtain⟨σ',d,h1,e⟩:=C9 (α:=aE (aN×e9)) keep σ c hk h;unfold canon KB;rw[e,o9];exact O2 h1
def S_:∀x∈E.AR n,WQ x=ao->∃ti,E.ty (kTy x)=ai ti:=by
 intro x d hk;have:=(dp.1 d).2;rw[hk,au]at this;cases h:E.ty (kTy x)with
 |some ti=>exact⟨ti,rfl⟩
 |none=>rw[h]at this;cases this
end
end Go.FG
namespace Go.FG
def adL:Ex->Exit|.normal=>.normal|.exit id=>.exit id|.ret=>.ret
def tZ(N:aN):Code->aZ
 |.region _ os _=>os.toList.all λo=>match o.dst with|some d=>oE d N|none=>ao
 |.seq a b=>tZ N a&&tZ N b
 |.cond _ a b=>tZ N a&&tZ N b
 |.block _ c=>tZ N c
 |.loop c=>tZ N c
 |_=>ao
def least{p:aN->Prop}(h:∃n,p n):∃n,p n/\∀k,p k->n<=k:=by
 obtain⟨n,d⟩:=h;induction n using Nat.strongRecOn with
 |_ n ih=>
  by_cases hm:∃m,m<n/\p m
  ·obtain⟨m,h1,h2⟩:=hm;exact ih m h1 h2
  ·exact⟨n,d,λk hk=>by
    rcases rL k n with h|h
    ·exact cO ⟨k,h,hk⟩ hm
    ·exact h⟩
section
variable {P:dx} {E:gy}
def b0(E:gy){R:Type}(it:It R)(c:Code):Prop:=∀L K r,it (gL c) (ub E it c) (canon (E.AR (gL c))) L K=ai r->∃n,iter (ub E it c) (canon (E.AR (gL c))) n (eW L) K=ai r
def adK(hE:eB P E)(hF:∀g,lI P E g (E.call g))(hm:P.follows .mixedOrders=ao){R:Type}{N:aN}{σ0:St}{c0:gQ}{w0:cN}{it:It R}{r:R}:∀(z:Code),(∀c∈j8 z,b0 E it c)->∀(σ:St) (K:Ex->St->aG R) (Q:Exit->Act->cN->Prop),ub E it z σ K=ai r->tZ N z=ao->
  (∀e σ' a w c,K e σ'=ai r->At P E N σ0 c0 w0 σ' a w c->Q (adL e) a w)->∀a w c,At P E N σ0 c0 w0 σ a w c->z.wp P Q a w:=by
 intro z;induction z with
 |skip=>intro _ σ K Q h _ u a w c i;exact wp_skip (u .normal σ a w c h i)
 |region id os he=>intro s σ K Q h A u a w c i;refine PY hE hF hm h (λo ho d hd=> ?_) (λσ' a w c hk i=>u .normal σ' a w c hk i) i;have:=bE.1 A o ho;rw[hd]at this;have this:oE d N=true:=this;simpa [tz]using this
 |seq x y M O=>
  intro s σ K Q h A u a w c i;simp only[tZ,aM]at A;refine wp_seq (M (λc C=>s c (bZ _ C)) σ _ _ h A.1 (λe σ' a w c hk i=> ?_) a w c i);cases e with
  |normal=>exact O (λc C=>s c (bR _ C)) σ' K Q hk A.2 u a w c i
  |exit id=>exact u (.exit id) σ' a w c hk i
  |ret=>exact u .ret σ' a w c hk i
 |cond h7 x y M O=>
  intro s σ K Q h A u a w c i;simp only[tZ,aM]at A;cases h7 with
  |tmp t=>
   unfold ub at h;dsimp only at h;split at h
   ·rename_i b hs;have h1:=i.sl.ok t;have:slot σ t=.v aq [.b b]:=by unfold slot;rw[hs]
    rw[this]at h1;have h1:a.eval (.tmp t)=.bool b:=h1;cases b with
    |true=>have h:ub E it x (p_ σ (qP t) (.v (.v aq [.b ao]))) K=ai r:=h;rw[DG hs]at h;exact wp_cond_true h1 (M (λc C=>s c (bZ _ C)) σ K Q h A.1 u a w c i)
    |false=>have h:ub E it y (p_ σ (qP t) (.v (.v aq [.b aq]))) K=ai r:=h;rw[DG hs]at h;exact wp_cond_false h1 (O (λc C=>s c (bR _ C)) σ K Q h A.2 u a w c i)
   ·cases h
  |_=>simp[ub]at h
 |block id x ih=>
  intro s σ K Q h A u a w c i;refine wp_block (ih s σ _ _ h A (λe σ' a w c hk i=> ?_) a w c i);cases e with
  |normal=>exact u .normal σ' a w c hk i
  |ret=>exact u .ret σ' a w c hk i
  |exit j=>
   have hk:(bif bN j id then K .normal σ' else K (.exit j) σ')=ai r:=hk;show Ig id Q (.exit j) a w;cases hj:bN j id with
   |true=>rw[hj]at hk;have h9:=aX hj;have h1:Q .normal a w:=u .normal σ' a w c hk i;simp only[Ig,h9,if_true];exact h1
   |false=>
    rw[hj]at hk;have ha:j≠id:=λe=>by subst e;simp at hj
    have h1:Q (.exit j) a w:=u (.exit j) σ' a w c hk i;simp only[Ig,ha,if_false];exact h1
 |loop x ih=>
  intro s σ K Q h A u a w c i;obtain⟨n,h⟩:∃n,iter (ub E it x) (canon (E.AR (gL x))) n (canon (E.AR (gL x)) σ) K=ai r:=s x (cQ ..) _ K r h;let f:=ub (R:=R) E it x;let cn:=canon (E.AR (gL x));let p:Act->cN->aN->Prop:=λa w m=>∃σ c,iter f cn m σ K=ai r/\At P E N σ0 c0 w0 σ a w c;let S:Act->cN->aN:=λa w=>open Classical in if h:∃m,p a w m then(least h).choose else 0
  have h5:∀a w,(∃m,p a w m)->p a w (S a w)/\∀k,p a w k->S a w<=k:=by
   intro a w h;have:S a w=(least h).choose:=by simp only[S];rw[dif_pos h]
   rw[this];exact(least h).choose_spec
  obtain⟨c1,V⟩:=IE (keep:=E.AR (gL x)) S_ i;refine wp_loop (λa w=>∃m,p a w m) S ⟨n,_,c1,h,V⟩ (λa w hI=> ?_);obtain⟨⟨σ1,c2,h1,X⟩,hf⟩:=h5 a w hI;cases Y:S a w with
  |zero=>rw[Y]at h1;cases h1
  |succ m=>
   rw[Y]at h1;refine ih (λc C=>s c (cK _ C)) σ1 _ _ h1 A (λe σ' a' w' c' hk U=> ?_) a w c2 X;obtain⟨c3,B⟩:=IE (keep:=E.AR (gL x)) S_ U;cases e with
   |normal=>
    have hp:p a' w' m:=⟨_,c3,hk,B⟩
    refine⟨⟨m,hp⟩,?_⟩
    have:=(h5 a' w' ⟨m,hp⟩).2 m hp;omega
   |exit id=>exact u (.exit id) _ a' w' c3 hk B
   |ret=>exact u .ret _ a' w' c3 hk B
 |exit id=>intro _ σ K Q h _ u a w c i;exact wp_exit (u (.exit id) σ a w c h i)
 |ret=>intro _ σ K Q h _ u a w c i;exact wp_ret (u .ret σ a w c h i)
 |_=>intro _ σ K Q h;simp[ub]at h
end
end Go.FG
namespace Go.FG
structure kR where
 aa:AA
 tk:aE aN
 fz:aE aN
 p:Pl
 g:aN->aN->Pl
 u:bS
section
variable {P:dx} {E:gy} {σ:St} {a:Act} {w:cN} {c:gQ}
def jY(T:Tab)(σ:St)(w:cN)(c:gQ)(r:kR):Prop:=
 (∃e ex d te,r.aa=.ow e ex d/\r.fz=[]/\T.ty e=ai te/\r.u=kX r.p/\r.p.sz=te.ks.length/\(∀y∈d,y.map CV.kd=te.ks)/\jq w r.p d (λi j u x=>if ex=ao then XC T w r.g i j u x else Holds T w c.K u x)/\(ex=ao->FW r.p r.g d)/\
  (r.p.nil=aq->∃n ob,n∈r.tk/\σ (dj n)=.o ob/\fN c n ob r.p.blk)/\(ex=ao->∀i j,gn d i j->(r.g i j).nil=aq->∃n ob,n∈r.tk/\σ (dj n)=.o ob/\fN c n ob (r.g i j).blk))\/
 (r.tk=[]/\(∀n∈r.fz,∃el ex xs,σ (dj n)=.o (.row el ex xs))/\(∀e ex xs,r.aa≠ .ow e ex xs)/\(∀xs,r.aa≠ .kp xs)/\∀f:gQ,(∀b,K1r σ c r.fz b->f.K b)->∀nm,eI T w f (lF nm r.aa) r.u)
def I2(z:Ok E σ w c)(h:AP E om σ k x=ai (aa,tk,fz))(B:eI E w c x u):∃p g,jY E σ w c ⟨aa,tk,fz,p,g,u⟩:=by
 let nl:Pl:=⟨ao,0,0,0,0,0⟩
 have M:∀e ex R tk,(xR e x).val σ=ai (ex,R,tk)->(∃te,E.ty e=ai te)->∃p g,jY E σ w c ⟨.ow e ex R,tk,[],p,g,u⟩:=by rintro e ex R tk d ⟨te,t⟩;obtain⟨p,g,C⟩:=CE z t B d;exact⟨p,g,.inl ⟨e,ex,R,te,rfl,rfl,t,C.v,C.sz,C.sh,C.at_,C.mK,C.own,C.owni⟩⟩
 have A:∀aa fz,(∀n∈fz,∃el ex xs,σ (dj n)=.o (.row el ex xs))->(∀e ex xs,aa≠ .ow e ex xs)->(∀xs,aa≠ .kp xs)->(∀j:gQ,(∀b,K1r σ c fz b->j.K b)->∀nm,eI E w j (lF nm aa) u)->∃p g,jY E σ w c ⟨aa,[],fz,p,g,u⟩:=
  λaa fz h1 h2 h3 h4=>⟨nl,λ_ _=>nl,.inr ⟨rfl,h1,h2,h3,h4⟩⟩
 have f:∀n∈([]:aE aN),∃el ex xs,σ (dj n)=.o (.row el ex xs):=λn Y=>by cases Y
 have U:∀e,AQ E e=ao->∃te,E.ty e=ai te:=λe S=>by
  unfold AQ at S;cases t:E.ty e with
  |none=>rw[t]at S;cases S
  |some te=>exact⟨te,rfl⟩
 have N:∀{n el:aN} {ex:aZ} {xs:Row},σ (dj n)=.o (.row el ex xs)->∀j:gQ,(∀b,K1r σ c [n] b->j.K b)->(∀b,c.K b->j.K b)/\∀b,fN c n (.row el ex xs) b->j.K b:=λhg j h=>⟨λb d=>h b (.inl d),λb d=>h b (.inr ⟨_,a7.2 rfl,_,hg,d⟩)⟩
 have O:∀{n el:aN} {ex:aZ} {xs:Row},σ (dj n)=.o (.row el ex xs)->∀m∈[n],∃el ex xs,σ (dj m)=.o (.row el ex xs):=λhg m hm=>by rw[a7]at hm;subst hm;exact⟨_,_,_,hg⟩
 cases x with
 |i k n=>cases h;exact A _ _ f (λ_ _ _ h=>by cases h) (λ_ h=>by cases h) (λj _ _=>B)
 |b y=>cases h;exact A _ _ f (λ_ _ _ h=>by cases h) (λ_ h=>by cases h) (λj _ _=>B)
 |s y=>cases h;exact A _ _ f (λ_ _ _ h=>by cases h) (λ_ h=>by cases h) (λj _ _=>B)
 |sh e xs=>
  cases om with
  |own=>cases h
  |nat=>cases h;exact A _ _ f (λ_ _ _ h=>by cases h) (λ_ h=>by cases h) (λj h3 _=>Holds.frame B (λ_ _=>rfl) (λb d=>h3 b (.inl d)))
  |sh=>cases h;exact A _ _ f (λ_ _ _ h=>by cases h) (λ_ h=>by cases h) (λj h3 _=>Holds.frame B (λ_ _=>rfl) (λb d=>h3 b (.inl d)))
 |nl=>
  have B:u=.slice ay 0 0:=B;cases om with
  |own e=>
   have h:(bif AQ E e then ai (AA.ow e ao [],([]:aE aN),([]:aE aN))else ay)=ai (aa,tk,fz):=h;cases t:AQ E e with
   |false=>rw[t]at h;cases h
   |true=>rw[t]at h;cases h;exact M e ao [] [] rfl (U e t)
  |sh e=>cases h;exact A _ _ f (λ_ _ _ h=>by cases h) (λ_ h=>by cases h) (λj _ _=>by rw[B];exact Holds.nl _ _ _)
  |nat=>
   cases k with
   |l e=>
    have h:(bif AQ E e then ai (AA.ow e ao [],([]:aE aN),([]:aE aN))else ay)=ai (aa,tk,fz):=h;cases t:AQ E e with
    |false=>rw[t]at h;cases h
    |true=>rw[t]at h;cases h;exact M e ao [] [] rfl (U e t)
   |_=>cases h;exact A _ _ f (λ_ _ _ h=>by cases h) (λ_ h=>by cases h) (λj _ _=>B)
 |own n=>
  unfold AP at h;dsimp only at h;cases r:σ (dj n)with
  |v=>rw[r]at h;cases h
  |jW=>rw[r]at h;cases h
  |o ob=>
   rw[r]at h;have V:u=kX (c.P n):=B;cases ob with
   |row e ex xs=>
    obtain⟨_,_,ti,t,_⟩:=lA z r;have d:(xR e (.own n)).val σ=ai (ex,xs,[n]):=by simp[xR,jP,r]
    cases om with
    |sh X=>cases h;refine A _ _ (O r) (λ_ _ _ h=>by cases h) (λ_ h=>by cases h) (λj h3 _=> ?_);obtain⟨r1,r2⟩:=N r j h3;rw[V];exact sK z r r1 r2
    |nat=>cases h;exact M e ex xs [n] d ⟨ti,t⟩
    |own=>cases h;exact M e ex xs [n] d ⟨ti,t⟩
   |f_ e xs=>
    have Q:Holds E w c.K u (.l e xs):=by rw[V];exact(z.obj n _ r).1
    cases om with
    |own=>cases h
    |nat=>cases h;exact A _ _ f (λ_ _ _ h=>by cases h) (λ_ h=>by cases h) (λj h3 _=>Holds.frame Q (λ_ _=>rfl) (λb d=>h3 b (.inl d)))
    |sh=>cases h;exact A _ _ f (λ_ _ _ h=>by cases h) (λ_ h=>by cases h) (λj h3 _=>Holds.frame Q (λ_ _=>rfl) (λb d=>h3 b (.inl d)))
   |_=>cases h
 |vw n lo hi=>
  unfold AP at h;dsimp only at h;cases r:σ (dj n)with
  |v=>rw[r]at h;cases h
  |jW=>rw[r]at h;cases h
  |o ob=>
   rw[r]at h;cases ob with
   |row e ex xs=>
    obtain⟨_,_,ti,t,_⟩:=lA z r;have d:(xR e (.vw n lo hi)).val σ=ai (ex,ez xs lo hi,[n]):=by simp[xR,jP,r]
    cases om with
    |sh X=>cases h;refine A _ _ (O r) (λ_ _ _ h=>by cases h) (λ_ h=>by cases h) (λj h3 _=> ?_);obtain⟨r1,r2⟩:=N r j h3;exact FH z r r1 r2 B
    |nat=>cases h;exact M e ex _ [n] d ⟨ti,t⟩
    |own=>cases h;exact M e ex _ [n] d ⟨ti,t⟩
   |f_ e xs=>
    have Q:Holds E w c.K u (.l e (ez xs lo hi)):=pG z r B;cases om with
    |own=>cases h
    |nat=>cases h;exact A _ _ f (λ_ _ _ h=>by cases h) (λ_ h=>by cases h) (λj h3 _=>Holds.frame Q (λ_ _=>rfl) (λb d=>h3 b (.inl d)))
    |sh=>cases h;exact A _ _ f (λ_ _ _ h=>by cases h) (λ_ h=>by cases h) (λj h3 _=>Holds.frame Q (λ_ _=>rfl) (λb d=>h3 b (.inl d)))
   |_=>cases h
 |_=>simp[AP]at h
def EV(m:Ok E σ w c):∀{xs:aE AV} {z:aN} {ks:aE Ck} {l:aE AA} {tk fz:aE aN} {d:eN bS},ud E q σ z ks xs=ai (l,tk,fz)->gh E w c d xs->
  ∃cs:aE kR,l=cs.map (·.aa)/\tk=cs.flatMap (·.tk)/\fz=cs.flatMap (·.fz)/\cs.length=xs.length/\∀(j:aN) (r:kR),cs[j]? =ai r->d[j]? =ai r.u/\jY E σ w c r:=by
 intro xs;induction xs with
 |nil=>intro z ks l tk fz d h _;cases h;exact⟨[],rfl,rfl,rfl,rfl,λj r h=>by simp at h⟩
 |cons x xs ih=>
  intro z ks l tk fz d h s;unfold ud at h;split at h
  ·rename_i aa t f as ts fs h1 h2;cases h;obtain⟨u,k,A⟩:=s.2 0 x rfl;obtain⟨p,g,C⟩:=I2 m h1 A;have y:gh E w c (d.extract 1 d.size) xs:=by
    refine⟨by simp;have:=s.1;simp at this;omega,λj b i=> ?_⟩
    obtain⟨u,k,B⟩:=s.2 (j+1) b i;refine⟨u,?_,B⟩
    have:=(dD.1 k).1;rw[et,bm (by omega),i_];exact k
   obtain⟨cs,rfl,rfl,rfl,K,M⟩:=ih h2 y;refine⟨⟨aa,t,f,p,g,u⟩::cs,rfl,rfl,rfl,by simp[K],λj r i=> ?_⟩
   cases j with
   |zero=>cases i;exact⟨k,C⟩
   |succ j=>
    obtain⟨r1,r2⟩:=M j r i;refine⟨?_,r2⟩
    rw[et]at r1;split at r1
    ·rw[i_];exact r1
    ·cases r1
  ·cases h
end
end Go.FG
namespace Go.FG
structure mO where
 box:aG aN
 agg:aZ
 cs:aE kR
 v:bS
def mO.arg(R:mO):gD:=match R.box with|some _=>.pt (R.cs.map (·.aa))|none=>.v R.agg (R.cs.map (·.aa))
def mO.tk(R:mO):aE aN:=R.box.toList++R.cs.flatMap (·.tk)
def mO.fz(R:mO):aE aN:=R.cs.flatMap (·.fz)
def Ai(rv:ResultVar)(d:eN bS):Sem bS:=match rv with|.tmp t=>pure (d.getD t undef)|.cell a t=>do loadVar t (<-asAddr (d.getD a undef))
section
variable {P:dx} {E:gy} {σ:St} {a:Act} {w:cN} {c:gQ}
def Cs(T:Tab)(σ:St)(w:cN)(c:gQ)(R:mO):Prop:=
 (∃nm xs d,R.box=ai nm/\σ (dj nm)=.o (.box xs)/\R.v=.pointer (ai (ad (c.P nm).blk 0))/\og w (c.P nm).blk d/\d.size=R.cs.length/\∀(j:aN) (r:kR),R.cs[j]? =ai r->d[j]? =ai r.u/\jY T σ w c r)\/
 (R.box=ay/\((R.agg=aq/\∃r,R.cs=[r]/\r.u=R.v/\jY T σ w c r)\/(R.agg=ao/\∃d:eN bS,R.v=.agg d/\d.size=R.cs.length/\∀(j:aN) (r:kR),R.cs[j]? =ai r->d[j]? =ai r.u/\jY T σ w c r)))
def I3(j:Ok E σ w c)(h:Nn E q σ ks s=ai (x,tk,fz))(hs:jb E w c s v):∃R:mO,R.arg=x/\R.tk=tk/\R.fz=fz/\R.v=v/\Cs E σ w c R:=by
 have z:∀g xs,s=.v g xs->(match ud E q σ 0 ks xs with|some (l,ns,ms)=>ai (gD.v g l,ns,ms)|none=>ay)=ai (x,tk,fz)->∃R:mO,R.arg=x/\R.tk=tk/\R.fz=fz/\R.v=v/\Cs E σ w c R:=by
  rintro g xs rfl h;cases i:ud E q σ 0 ks xs with
  |none=>rw[i]at h;cases h
  |some t=>
   obtain⟨l,ns,ms⟩:=t;rw[i]at h;cases h;obtain⟨cs,rfl,rfl,rfl,h4,u⟩:=EV j i (qG.cells hs);refine⟨⟨ay,g,cs,v⟩,rfl,by simp[mO.tk],rfl,rfl,.inr ⟨rfl,?_⟩⟩
   replace hs:qG E w c g xs v:=hs;have m:∀y,qG E w c aq [y] v->v.cells= #[v]:=λy K=>EP (eI.one K);unfold qG at hs;split at hs
   ·rename_i y;obtain⟨r,rfl⟩:=fW.1 (h4.trans rfl);obtain⟨h6,A⟩:=u 0 r rfl;rw[m y hs]at h6;exact .inl ⟨rfl,r,rfl,by simpa using h6.symm,A⟩
   ·obtain⟨d,rfl,f,_⟩:=hs;exact .inr ⟨rfl,d,rfl,by rw[f];exact h4.symm,u⟩
   ·exact hs.elim
 unfold Nn at h;split at h
 ·rename_i nm;cases k:σ (dj nm)with
  |v=>rw[k]at h;cases h
  |jW=>rw[k]at h;cases h
  |o ob=>
   rw[k]at h;cases ob with
   |box xs=>
    dsimp only at h;cases i:ud E q σ 0 [] xs with
    |none=>rw[i]at h;cases h
    |some t=>obtain⟨l,ns,ms⟩:=t;rw[i]at h;cases h;obtain⟨d,B,f,C⟩:=j.obj nm _ k;obtain⟨cs,rfl,rfl,rfl,h4,u⟩:=EV j i ⟨f,C⟩;exact⟨⟨ai nm,aq,cs,v⟩,rfl,rfl,rfl,rfl,.inl ⟨nm,xs,d,rfl,k,hs,B,by rw[f];exact h4.symm,u⟩⟩
   |_=>cases h
 ·exact z _ _ rfl h
 ·cases h
def JA(hE:eB P E)(k:E.ty t=ai ti)(f:og w b d)(hl:d.size=ti.ks.length):(loadVar t (ad b 0)).run P w=.ok (if ti.agg=ao then .agg d else d.toList.headD .nilIface) w:=by
 have h:=Dw (P:=P) w hE k (b:=b) (o:=0) (cs:=d.toList) (by simpa using hl) (λj v i=>by rw[bV,f.cell];simpa using i);have e:(zc t (.pointer (ai (ad b 0)))).run P w=(loadVar t (ad b 0)).run P w:=by simp only[zc,va,cx,c8,bI]
 rw[<-e,h]
def Ub(hE:eB P E)(r:Ok E σ w c)(C:fw E σ a w c)(h:Ua E q σ rv t=ai (x,tk,fz)):∃R:mO,R.arg=x/\R.tk=tk/\R.fz=fz/\Cs E σ w c R/\(Ai rv a.tmps).run P w=.ok R.v w:=by
 unfold Ua at h;cases V:E.ty t with
 |none=>rw[V]at h;cases h
 |some ti=>
  rw[V]at h;cases rv with
  |tmp s=>obtain⟨R,h1,h2,h3,h4,O⟩:=I3 r h (C.ok s);exact⟨R,h1,h2,h3,O,by rw[h4];rfl⟩
  |cell b t'=>
   dsimp only at h;split at h
   ·rename_i i nm M hs;split at h
    ·rename_i xs ho;cases S:bN xs.length i.ks.length with
     |false=>rw[S]at h;cases h
     |true=>
      rw[S]at h;have m:=aX S;have hv:a.eval (.tmp b)=.pointer (ai (ad (c.P nm).blk 0)):=by have:=C.ok b;rw[hs]at this;exact this
      obtain⟨f,U,K,A⟩:=r.obj nm _ ho;have B:=JA (P:=P) (w:=w) hE M U (by rw[K];exact m);have N:jb E w c (.v i.agg xs) (if i.agg=ao then .agg f else f.toList.headD .nilIface):=by
       show qG E w c i.agg xs _;cases Q:i.agg with
       |true=>rw[bm rfl];exact⟨f,rfl,K,A⟩
       |false=>
        obtain⟨d,_,_,Y⟩:=hE.desc t' i M;have h1:i.ks.length=1:=by rcases Y Q with ⟨k,h,_⟩|⟨h,_⟩|⟨h,_⟩|⟨e',h,_⟩|⟨h,_⟩<;>simp[h]
        obtain⟨y,rfl⟩:=fW.1 (m.trans h1);obtain⟨u,hu,X⟩:=A 0 y rfl;have j:f.toList[0]? =ai u:=by simpa using hu
        have:f.toList.headD .nilIface=u:=by
         cases hl:f.toList with
         |nil=>rw[hl]at j;cases j
         |cons z l=>rw[hl]at j;cases j;rfl
        rw[bk (by simp),this];exact X
      obtain⟨R,h1,h2,h3,h4,O⟩:=I3 r h N;refine⟨R,h1,h2,h3,O,?_⟩
      rw[h4,<-B];have:a.tmps.getD b undef=.pointer (ai (ad (c.P nm).blk 0)):=hv;simp only[Ai,this,asAddr,cx,c8,bI]
    ·cases h
   ·cases h
def P4(hE:eB P E)(f:Ok E σ w c)(i:fw E σ a w c):∀{rs:aE ResultVar} {q:aN} {ts:aE aN} {as:aE gD} {tk fz:aE aN},Dn E σ q rs ts=ai (as,tk,fz)->∃RL:aE mO,as=RL.map (·.arg)/\tk=RL.flatMap (·.tk)/\fz=RL.flatMap (·.fz)/\(∀R∈RL,Cs E σ w c R)/\RL.length=rs.length/\(rs.mapM (λrv=>Ai rv a.tmps)).run P w=.ok (RL.map (·.v)) w:=by
 intro rs;induction rs with
 |nil=>intro q ts as tk fz h;cases h;exact⟨[],rfl,rfl,rfl,λR h=>(by cases h),rfl,by simp⟩
 |cons rv rs ih=>
  intro q ts as tk fz h;unfold Dn at h;split at h
  ·rename_i x l m j ls ms h1 h2;cases h;obtain⟨R,rfl,rfl,rfl,r4,r5⟩:=Ub hE f i h1;obtain⟨RL,rfl,rfl,rfl,k,r,s⟩:=ih h2;refine⟨R::RL,rfl,rfl,rfl,λR' d=> ?_,by simp[r],?_⟩
   ·rcases cF.1 d with rfl|d
    ·exact r4
    ·exact k R' d
   ·simp only[V3,cx,r5,s,bI,c8,fD]
  ·cases h
def Dp(vs:aE bS):bS:=match vs with|[v]=>v|l=>.tuple l.toArray
def JB(h:(fn.results.toList.mapM (λrv=>Ai rv a.tmps)).run P w=.ok vs w):(results fn a.tmps).run P w=.ok (Dp vs) w:=by
 have e:(fn.results.mapM (λrv=>Ai rv a.tmps)).run P w=.ok vs.toArray w:=by rw[Array.mapM_eq_mapM_toList];simp[h]
 have:results fn a.tmps=(do let vs<-fn.results.mapM (λrv=>Ai rv a.tmps);pure (if h:vs.size=1 then vs[0]else .tuple vs)):=rfl;rw[this];simp only[cx,e,bI,c8];match vs with
 |[]=>rfl
 |[v]=>rfl
 |_::_::_=>rfl
end
end Go.FG
namespace Go.FG
structure n0 where
 box:aZ
 cs:aE kR
def n0.l(O:n0):aE AA:=O.cs.map (·.aa)
def n0.ns(O:n0)(p:aN):aE aN:=(if O.box=ao then [dU p 900]else [])++O.cs.flatMap (·.tk)
def n0.ms(O:n0):aE aN:=O.cs.flatMap (·.fz)
section
variable {P:dx} {E:gy} {σ:St} {a:Act} {w:cN} {c:gQ}
def Kept(σ:St)(p j:aN)(xs:aE AA)(r:kR):Prop:=∃e ex z d,xs[j]? =ai (.ow e ex z)/\r.aa=.kp d/\r.tk=[dU p j]/\r.fz=[]/\σ (dj (dU p j))=.o (.row e ex d)
def Ik(T:Tab)(σ:St)(w:cN)(c:gQ)(p:aN)(x:gD)(O:n0):Prop:=
 (O.box=aq/\(∀xs,x≠ .pt xs)/\(O.cs=[]\/∃g xs,x=.v g xs/\∀(j:aN) (r:kR),O.cs[j]? =ai r->Kept σ p j xs r\/(r.aa=.nl/\r.tk=[]/\r.fz=[])))\/
 (O.box=ao/\∃xs vs d,x=.pt xs/\σ (dj (dU p 900))=.o (.box vs)/\og w (c.P (dU p 900)).blk d/\d.size=O.cs.length/\
  ∀(j:aN) (r:kR),O.cs[j]? =ai r->d[j]? =ai r.u/\((Kept σ p j xs r/\r.u=kX (c.P (dU p j)))\/jY T σ w c r))
def JF{a b:aZ}(h:JE a b=ao):a=b:=by cases a<;>cases b<;>first|rfl|cases h
def Yr(p j i:aN):dU p j+i=dU p (j+i):=by unfold dU;omega
def K8:∀{xs:aE AA} {j:aN},∃cs:aE kR,(qn σ tk (dU p j) xs).1=cs.map (·.aa)/\(qn σ tk (dU p j) xs).2=cs.flatMap (·.tk)/\cs.flatMap (·.fz)=[]/\
  ∀(i:aN) (r:kR),cs[i]? =ai r->((∃e ex z d,xs[i]? =ai (.ow e ex z)/\r.aa=.kp d/\r.tk=[dU p (j+i)]/\r.fz=[]/\σ (dj (dU p (j+i)))=.o (.row e ex d))\/(r.aa=.nl/\r.tk=[]/\r.fz=[])):=by
 intro xs;induction xs with
 |nil=>intro j;exact⟨[],rfl,rfl,rfl,λi r h=>by simp at h⟩
 |cons x xs ih=>
  intro j;obtain⟨cs,h1,h2,h3,h4⟩:=ih (j:=j+1);have s:dU p j+1=dU p (j+1):=Yr p j 1;let pl:Pl:=⟨ao,0,0,0,0,0⟩
  have one:∃r:kR,nD σ tk (dU p j) x=(r.aa,r.tk)/\r.fz=[]/\((∃e ex z d,x=.ow e ex z/\r.aa=.kp d/\r.tk=[dU p j]/\r.fz=[]/\σ (dj (dU p j))=.o (.row e ex d))\/(r.aa=.nl/\r.tk=[]/\r.fz=[])):=by
   have no:nD σ tk (dU p j) x=(.nl,[])->∃r:kR,nD σ tk (dU p j) x=(r.aa,r.tk)/\r.fz=[]/\((∃e ex z d,x=.ow e ex z/\r.aa=.kp d/\r.tk=[dU p j]/\r.fz=[]/\σ (dj (dU p j))=.o (.row e ex d))\/(r.aa=.nl/\r.tk=[]/\r.fz=[])):=
    λh=>⟨⟨.nl,[],[],pl,λ_ _=>pl,undef⟩,h,rfl,.inr ⟨rfl,rfl,rfl⟩⟩
   cases x with
   |ow e ex z=>
    cases hm:mJ (dU p j) tk with
    |true=>exact no (by simp[nD,hm])
    |false=>
     obtain⟨so,f⟩:∃so,σ (dj (dU p j))=so:=⟨_,rfl⟩
     cases so with
     |v=>exact no (by simp[nD,hm,f])
     |jW=>exact no (by simp[nD,hm,f])
     |o ob=>
      cases ob with
      |row u m d=>
       cases k:(bN e u&&JE ex m)with
       |false=>exact no (by simp only[nD,hm,ax,f,k])
       |true=>simp only[aM]at k;have y:=aX k.1;have A:=JF k.2;subst y;subst A;exact⟨⟨.kp d,[dU p j],[],pl,λ_ _=>pl,undef⟩,by simp[nD,hm,f,k.2],rfl,.inl ⟨e,ex,z,d,rfl,rfl,rfl,rfl,f⟩⟩
      |_=>exact no (by simp[nD,hm,f])
   |_=>exact no rfl
  obtain⟨r,t,B,C⟩:=one;refine⟨r::cs,?_,?_,by simp[B,h3],λi N hi=> ?_⟩
  ·show(nD σ tk (dU p j) x).1::(qn σ tk (dU p j+1) xs).1=_;rw[t,s,h1];rfl
  ·show(nD σ tk (dU p j) x).2++(qn σ tk (dU p j+1) xs).2=_;rw[t,s,h2];rfl
  ·cases i with
   |zero=>
    cases hi;rcases C with ⟨e,ex,z,d,K,M⟩|q
    ·exact .inl ⟨e,ex,z,d,by rw[K];rfl,M⟩
    ·exact .inr q
   |succ i=>have:=h4 i N hi;rw[show j+1+i=j+(i+1)by omega]at this;exact this
def O1(Q:Ok E σ w c):∀{xs:aE AV} {j:aN} {m l:aE AA} {tk fz:aE aN} {d:eN bS},GV E q σ j m xs=ai (l,tk,fz)->gh E w c d xs->
  ∃cs:aE kR,l=cs.map (·.aa)/\tk=cs.flatMap (·.tk)/\fz=cs.flatMap (·.fz)/\cs.length=xs.length/\∀(i:aN) (r:kR),cs[i]? =ai r->d[i]? =ai r.u/\
   (((∃e ex z A,m[i]? =ai (.ow e ex z)/\r.aa=.kp A/\r.tk=[dU q (j+i)]/\r.fz=[]/\σ (dj (dU q (j+i)))=.o (.row e ex A))/\r.u=kX (c.P (dU q (j+i))))\/jY E σ w c r):=by
 intro xs;induction xs with
 |nil=>intro j m l tk fz d h _;cases h;exact⟨[],rfl,rfl,rfl,rfl,λi r h=>by simp at h⟩
 |cons x xs ih=>
  intro j m l tk fz d h R;unfold GV at h;split at h
  ·rename_i aa t f as ts fs h1 h2;cases h;obtain⟨u,K,U⟩:=R.2 0 x rfl;have S:gh E w c (d.extract 1 d.size) xs:=by
    refine⟨by simp;have:=R.1;simp at this;omega,λi b hj=> ?_⟩
    obtain⟨u,K,C⟩:=R.2 (i+1) b hj;refine⟨u,?_,C⟩
    have:=(dD.1 K).1;rw[et,bm (by omega),i_];exact K
   obtain⟨cs,rfl,rfl,rfl,i4,i5⟩:=ih h2 S;have one:∃p g,((∃e ex z A,m[0]? =ai (.ow e ex z)/\aa=.kp A/\t=[dU q j]/\f=[]/\σ (dj (dU q j))=.o (.row e ex A))/\u=kX (c.P (dU q j)))\/jY E σ w c ⟨aa,t,f,p,g,u⟩:=by
    have y:∀{om k},AP E om σ k x=ai (aa,t,f)->∃p g,((∃e ex z A,m[0]? =ai (.ow e ex z)/\aa=.kp A/\t=[dU q j]/\f=[]/\σ (dj (dU q j))=.o (.row e ex A))/\u=kX (c.P (dU q j)))\/jY E σ w c ⟨aa,t,f,p,g,u⟩:=λhh=>by obtain⟨p,g,N⟩:=I2 Q hh U;exact⟨p,g,.inr N⟩
    unfold ZI at h1;split at h1
    ·rename_i e ex z n _ C;cases O:bN n (dU q j)with
     |false=>rw[O]at h1;exact y (k:=.o) h1
     |true=>
      rw[O]at h1;have:=aX O;subst this;obtain⟨so,B⟩:∃so,σ (dj (dU q j))=so:=⟨_,rfl⟩
      cases so with
      |v=>simp[B]at h1
      |jW=>simp[B]at h1
      |o ob=>
       cases ob with
       |row V M A=>
        simp only[B,au]at h1;cases s:(bN e V&&JE ex M)with
        |false=>rw[s]at h1;cases h1
        |true=>
         rw[s]at h1;cases h1;simp only[aM]at s;have Y:=aX s.1;have hx:=JF s.2;subst Y;subst hx;refine⟨⟨ao,0,0,0,0,0⟩,λ_ _=>⟨ao,0,0,0,0,0⟩,.inl ⟨⟨e,ex,z,A,?_,rfl,rfl,rfl,B⟩,U⟩⟩
         cases m with
         |nil=>cases C
         |cons b m=>rw[show b=_ from C];rfl
       |_=>simp[B]at h1
    ·exact y (k:=.o) h1
   obtain⟨p,g,N⟩:=one;refine⟨⟨aa,t,f,p,g,u⟩::cs,rfl,rfl,rfl,by simp[i4],λi r hi=> ?_⟩
   cases i with
   |zero=>cases hi;exact⟨K,N⟩
   |succ i=>
    obtain⟨r1,r2⟩:=i5 i r hi;refine⟨?_,?_⟩
    ·rw[et]at r1;split at r1
     ·rw[i_];exact r1
     ·cases r1
    ·rw[show j+1+i=j+(i+1)by omega]at r2;have X:m.tail[i]? =m[i+1]? :=by cases m<;>simp
     rw[X]at r2;exact r2
  ·cases h
end
end Go.FG
namespace Go.FG
section
variable {P:dx} {E:gy} {σ:St} {a:Act} {w:cN} {c:gQ}
def PR(d:Ok E σ w c):∀{args:aE gD} {p:aN} {l:aE (aE AA)} {ns ms:aE aN},Di E σ tk p args=ai (l,ns,ms)->
  ∃OL:aE n0,l=OL.map (·.l)/\OL.length=args.length/\ns=(OL.zipIdx p).flatMap (λt=>t.1.ns t.2)/\ms=OL.flatMap (·.ms)/\∀(i:aN) (O:n0) (x:gD),OL[i]? =ai O->args[i]? =ai x->Ik E σ w c (p+i) x O:=by
 intro args;induction args with
 |nil=>intro p l ns ms h;cases h;exact⟨[],rfl,rfl,rfl,rfl,λi O x h=>by simp at h⟩
 |cons x args ih=>
  intro p l ns ms h;unfold Di at h;split at h
  ·cases h
  ·rename_i l' h5 X h1;obtain⟨OL,rfl,N,rfl,rfl,Q⟩:=ih h1;have put:∀O:n0,Ik E σ w c p x O->l=O.l::OL.map (·.l)->ns=O.ns p++(OL.zipIdx (p+1)).flatMap (λt=>t.1.ns t.2)->ms=O.ms++OL.flatMap (·.ms)->∃OL:aE n0,l=OL.map (·.l)/\OL.length=(x::args).length/\ns=(OL.zipIdx p).flatMap (λt=>t.1.ns t.2)/\ms=OL.flatMap (·.ms)/\∀(i:aN) (O:n0) (y:gD),OL[i]? =ai O->(x::args)[i]? =ai y->Ik E σ w c (p+i) y O:=by
    intro O C h1 h2 h3;refine⟨O::OL,h1,by simp[N],by rw[h2,List.zipIdx_cons,zd],h3,λi B y hi A=> ?_⟩
    cases i with
    |zero=>cases hi;cases A;exact C
    |succ i=>have:=Q i B y hi A;rwa[show p+1+i=p+(i+1)by omega]at this
   cases x with
   |v g xs=>
    dsimp only at h;cases u:SG xs with
    |false=>rw[u]at h;cases h;exact put ⟨aq,[]⟩ (.inl ⟨rfl,(λ_ h=>by cases h),.inl rfl⟩) rfl rfl rfl
    |true=>rw[u]at h;cases h;obtain⟨cs,R,S,U,k4⟩:=K8 (σ:=σ) (tk:=tk) (p:=p) (xs:=xs) (j:=0);refine put ⟨aq,cs⟩ (.inl ⟨rfl,(λ_ h=>by cases h),.inr ⟨g,xs,rfl,λj r s=> ?_⟩⟩) (by rw[R];rfl) (by rw[S];rfl) (by simp[n0.ms,U]);have:=k4 j r s;rw[bV]at this;exact this
   |pt xs=>
    dsimp only at h;split at h
    ·rename_i vs z;split at h
     ·rename_i as h7 Y K;cases h;obtain⟨k,m,f,M⟩:=d.obj _ _ z;obtain⟨cs,rfl,rfl,rfl,k4,V⟩:=O1 d K ⟨f,M⟩;refine put ⟨ao,cs⟩ (.inr ⟨rfl,xs,vs,k,rfl,z,m,by rw[f];exact k4.symm,λj r s=> ?_⟩) rfl (by simp[n0.ns]) rfl;obtain⟨r1,r2⟩:=V j r s;rw[bV]at r2;exact⟨r1,r2⟩
     ·cases h
    ·cases h
   |fb xs=>cases h;exact put ⟨aq,[]⟩ (.inl ⟨rfl,(λ_ h=>by cases h),.inl rfl⟩) rfl rfl rfl
def AL:∀{l:aE (aE AA)} {p:aN},(uP l).getD p []=l.getD p []:=by
 intro l;induction l with
 |nil=>intro p;rfl
 |cons x l ih=>
  intro p;unfold uP;split
  ·rename_i h;cases p with
   |zero=>rfl
   |succ p=>rw[v_,<-ih,h];rfl
  ·rename_i f d _;cases p with
   |zero=>rfl
   |succ p=>rw[v_,v_,ih]
end
end Go.FG
namespace Go.FG
structure Sp where
 res:aZ
 i:aN
 j:aG aN
def pN(RL:aE mO)(OL:aE n0)(s:Sp):aE aN:=
 match s.res,s.j with
 |true,ay=>match RL[s.i]? with|some R=>R.box.toList|none=>[]
 |true,ai j=>match RL[s.i]? with|some R=>(match R.cs[j]? with|some r=>r.tk|none=>[])|none=>[]
 |false,ay=>match OL[s.i]? with|some O=>(if O.box=ao then [dU s.i 900]else [])|none=>[]
 |false,ai j=>match OL[s.i]? with|some O=>(match O.cs[j]? with|some r=>r.tk|none=>[])|none=>[]
def nE{α:Type}{l:aE α}{i:aN}{x:α}{p:aN}(h:l[i]? =ai x):(l.zipIdx p)[i]? =ai (x,p+i):=by rw[List.getElem?_zipIdx,h];rfl
def YP{RL:aE mO}{OL:aE n0}(hn:(RL.flatMap (·.tk)++(OL.zipIdx 0).flatMap (λt=>t.1.ns t.2)).Nodup){s S:Sp}{n:aN}(h:n∈pN RL OL s)(N:n∈pN RL OL S):s=S:=by
 obtain⟨n1,n2,n3⟩:=eK.1 hn;obtain⟨a1,a2⟩:=lY n1;obtain⟨b1,b2⟩:=lY n2;have M:∀{i:aN} {j:aG aN},n∈pN RL OL ⟨ao,i,j⟩->∃R,RL[i]? =ai R/\n∈R.tk/\((j=ay/\n∈R.box.toList)\/∃q r,j=ai q/\R.cs[q]? =ai r/\n∈r.tk):=by
  intro i j h;cases j with
  |none=>
   unfold pN at h;dsimp only at h;cases m:RL[i]? with
   |none=>rw[m]at h;cases h
   |some R=>rw[m]at h;exact⟨R,rfl,bZ _ h,.inl ⟨rfl,h⟩⟩
  |some q=>
   unfold pN at h;dsimp only at h;cases m:RL[i]? with
   |none=>rw[m]at h;cases h
   |some R=>
    rw[m]at h;dsimp only at h;cases u:R.cs[q]? with
    |none=>rw[u]at h;cases h
    |some r=>rw[u]at h;exact⟨R,rfl,bR _ (bL.2 ⟨r,aU u,h⟩),.inr ⟨q,r,rfl,u,h⟩⟩
 have K:∀{i:aN} {j:aG aN},n∈pN RL OL ⟨aq,i,j⟩->∃O,OL[i]? =ai O/\n∈O.ns i/\((j=ay/\n∈(if O.box=ao then [dU i 900]else []))\/∃q r,j=ai q/\O.cs[q]? =ai r/\n∈r.tk):=by
  intro i j h;cases j with
  |none=>
   unfold pN at h;dsimp only at h;cases m:OL[i]? with
   |none=>rw[m]at h;cases h
   |some R=>rw[m]at h;exact⟨R,rfl,bZ _ h,.inl ⟨rfl,h⟩⟩
  |some q=>
   unfold pN at h;dsimp only at h;cases m:OL[i]? with
   |none=>rw[m]at h;cases h
   |some R=>
    rw[m]at h;dsimp only at h;cases u:R.cs[q]? with
    |none=>rw[u]at h;cases h
    |some r=>rw[u]at h;exact⟨R,rfl,bR _ (bL.2 ⟨r,aU u,h⟩),.inr ⟨q,r,rfl,u,h⟩⟩
 have mK:∀{A:aE aN} {cs:aE kR} {j z:aG aN},(A++cs.flatMap (·.tk)).Nodup->((j=ay/\n∈A)\/∃q r,j=ai q/\cs[q]? =ai r/\n∈r.tk)->((z=ay/\n∈A)\/∃q r,z=ai q/\cs[q]? =ai r/\n∈r.tk)->j=z:=by
  intro A cs j z Q k k';obtain⟨m1,m2,Y⟩:=eK.1 Q;have y:∀{q:aN} {r:kR},cs[q]? =ai r->n∈r.tk->n∈cs.flatMap (·.tk):=λhq u=>bL.2 ⟨_,aU hq,u⟩;rcases k with ⟨rfl,k⟩|⟨q,r,rfl,V,X⟩<;>rcases k' with ⟨rfl,k'⟩|⟨q',r',rfl,B,C⟩
  ·rfl
  ·exact cO rfl (Y n k n (y B C))
  ·exact cO rfl (Y n k' n (y V X))
  ·rw[(lY m2).1 q q' r r' n V B X C]
 obtain⟨b,i,j⟩:=s;obtain⟨b',U,z⟩:=S;cases b<;>cases b'
 ·obtain⟨O,h1,h2,h3⟩:=K h;obtain⟨O',d,f,x⟩:=K N;have:=b1 i U _ _ n (nE (p:=0) h1) (nE (p:=0) d) (by rw[bV];exact h2) (by rw[bV];exact f);subst this;rw[h1]at d;cases d;have:=b2 _ (aU (nE (p:=0) h1));rw[bV]at this;rw[mK this h3 x]
 ·obtain⟨O,h1,h2,h3⟩:=K h;obtain⟨R,d,f,_⟩:=M N;exact cO rfl (n3 n (bL.2 ⟨R,aU d,f⟩) n (bL.2 ⟨_,aU (nE (p:=0) h1),by rw[bV];exact h2⟩))
 ·obtain⟨R,h1,h2,_⟩:=M h;obtain⟨O,d,f,_⟩:=K N;exact cO rfl (n3 n (bL.2 ⟨R,aU h1,h2⟩) n (bL.2 ⟨_,aU (nE (p:=0) d),by rw[bV];exact f⟩))
 ·obtain⟨R,h1,h2,h3⟩:=M h;obtain⟨R',d,f,x⟩:=M N;have:=a1 i U _ _ n h1 d h2 f;subst this;rw[h1]at d;cases d;have:=a2 _ (aU h1);rw[mK this h3 x]
end Go.FG
namespace Go.FG
def M4(c:gQ)(RL:aE mO)(OL:aE n0)(m:aN):aG (Pl×(aN->aN->Pl)):=
 if m<900000000 then ay
 else if 500<=(m-900000000)/1000 then(match RL[(m-900000000)/1000-500]? with
  |none=>ay
  |some R=>if(m-900000000)%1000=900 then R.box.map (λn=>(c.P n,c.G n))else(R.cs[(m-900000000)%1000]?).map λr=>(r.p,r.g))
 else if 100<=(m-900000000)%1000/\(m-900000000)%1000≠900 then(match OL[(m-900000000)/1000]? with
  |none=>ay
  |some O=>(O.cs[(m-900000000)%1000-100]?).map λr=>(r.p,r.g))
 else ay
def nC(σ:St)(c:gQ)(RL:aE mO)(OL:aE n0):gQ:=
 ⟨λm=>match M4 c RL OL m with|some pg=>pg.1|none=>c.P m,λm=>match M4 c RL OL m with|some pg=>pg.2|none=>c.G m,K1r σ c (RL.flatMap (·.fz)++OL.flatMap (·.ms))⟩
def BV(h:M4 c RL OL m=ai (p,g)):(nC σ c RL OL).P m=p/\(nC σ c RL OL).G m=g:=by unfold nC;simp only[h];exact⟨trivial,trivial⟩
def BU(h:M4 c RL OL m=ay):(nC σ c RL OL).P m=c.P m/\(nC σ c RL OL).G m=c.G m:=by unfold nC;simp only[h];exact⟨trivial,trivial⟩
section
variable {c:gQ} {RL:aE mO} {OL:aE n0}
def Sa(h:RL[q]? =ai R)(d:R.box=ai n):M4 c RL OL (dU (500+q) 900)=ai (c.P n,c.G n):=by obtain⟨h1,h2⟩:=uU (p:=500+q) (j:=900) (by omega);have h0:=C' (500+q) 900;unfold M4;rw[bk (by omega),h1,h2,bm (by omega),show 500+q-500=q by omega,h];simp[d]
def GS(h:RL[q]? =ai R)(d:R.cs[j]? =ai r)(hl:j<900):M4 c RL OL (dU (500+q) j)=ai (r.p,r.g):=by obtain⟨h1,h2⟩:=uU (p:=500+q) (j:=j) (by omega);have h0:=C' (500+q) j;unfold M4;rw[bk (by omega),h1,h2,bm (by omega),show 500+q-500=q by omega,h];dsimp only;rw[bk (by omega),d];rfl
def BR(hp:p<500)(hl:j<100\/j=900):M4 c RL OL (dU p j)=none:=by obtain⟨h1,h2⟩:=uU (p:=p) (j:=j) (by omega);have h0:=C' p j;unfold M4;rw[bk (by omega),h1,h2,bk (by omega),bk (by omega)]
def M5(hp:p<500)(h:OL[p]? =ai O)(d:O.cs[j]? =ai r)(hl:j<=100):M4 c RL OL (dU p (100+j))=ai (r.p,r.g):=by obtain⟨h1,h2⟩:=uU (p:=p) (j:=100+j) (by omega);have h0:=C' p (100+j);unfold M4;rw[bk (by omega),h1,h2,bk (by omega),bm (by omega),h];dsimp only;rw[show 100+j-100=j by omega,d];rfl
end
end Go.FG
namespace Go.FG
def ah9(OL:aE n0)(s:Sp):aN:=
 match s.res,s.j with
 |true,ay=>dU (500+s.i) 900
 |true,ai j=>dU (500+s.i) j
 |false,ay=>dU s.i 900
 |false,ai j=>match OL[s.i]? with|some O=>(match O.cs[j]? with|some r=>(match r.aa with|.kp _=>dU s.i j|_=>dU s.i (100+j))|none=>0)|none=>0
section
variable {P:dx} {E:gy} {σ:St} {a:Act} {w:cN} {c:gQ} {RL:aE mO} {OL:aE n0}
def BX(h:jY E σ w c r)(i:∀n∈r.fz,n∈RL.flatMap (·.fz)++OL.flatMap (·.ms))(m:M4 c RL OL x=ai (r.p,r.g)):eI E w (nC σ c RL OL) (lF x r.aa) r.u:=by
 rcases h with ⟨e,ex,s,te,h1,h2,h3,h4,_⟩|⟨h1,h2,h3,h4,d⟩
 ·rw[h1];show r.u=kX ((nC σ c RL OL).P x);rw[(BV m).1];exact h4
 ·exact d _ (λb f=>f.imp id (λ⟨n,k,j⟩=>⟨n,i n k,j⟩)) x
def IG(h:jY E σ w c r)(A:r.aa=.ow e ex B)(Q:M4 c RL OL x=ai (r.p,r.g)):
  qf E w (nC σ c RL OL) x (.row e ex B)/\∀b,fN (nC σ c RL OL) x (.row e ex B) b->∃n ob,n∈r.tk/\σ (dj n)=.o ob/\fN c n ob b:=by
 obtain⟨k,m⟩:=BV (σ:=σ) Q;rcases h with ⟨U,C,S,te,h1,h2,h3,h4,K,h6,M,h8,N,s⟩|⟨_,_,h3,_⟩
 ·rw[A]at h1;cases h1;refine⟨⟨⟨te,h3,by rw[k];exact K,h6⟩,?_,λd=>by rw[k,m];exact h8 d⟩,λb t=> ?_⟩
  ·rw[k,m];refine M.frame (λ_=>rfl) (λi j y X u V R z=> ?_);split at z
   ·rename_i d;rw[bm d];exact z
   ·rename_i d;rw[bk d];exact z.frame (λ_ _=>rfl) (λb t=>.inl t)
  ·rcases t with ⟨f,rfl⟩|⟨d,i,j,O,f,rfl⟩
   ·rw[k]at f⊢;exact N f
   ·rw[m]at f⊢;exact s d i j O f
 ·exact cO A (h3 _ _ _)
structure Ew (T:Tab) (σ:St) (w:cN) (c:gQ) (RL:aE mO) (OL:aE n0) (args:aE gD) (r:iO):Prop where
 rl:∀R∈RL,Cs T σ w c R
 ol:∀(i:aN) (O:n0) (x:gD),OL[i]? =ai O->args[i]? =ai x->Ik T σ w c i x O
 len:OL.length=args.length
 nd:(RL.flatMap (·.tk)++(OL.zipIdx 0).flatMap (λt=>t.1.ns t.2)).Nodup
 ap:∀n∈RL.flatMap (·.tk)++(OL.zipIdx 0).flatMap (λt=>t.1.ns t.2),n∉RL.flatMap (·.fz)++OL.flatMap (·.ms)
 sm:Small args r
 rs:r.rs=RL.map (·.arg)
 outs:∀p,r.outs.getD p []=(OL.map (·.l)).getD p []
def R8{R:mO}{xs:aE AA}(h:Mg R.arg xs):xs=R.cs.map (·.aa):=by
 unfold mO.arg at h;split at h
 ·rcases h with ⟨g,h⟩|h<;>cases h;rfl
 ·rcases h with ⟨g,h⟩|h<;>cases h;rfl
def xX(hv:Ok E σ w c){args:aE gD}{r:iO}(hE:Ew E σ w c RL OL args r){x:aN}{ob:Obj}(h:Cg args r x (.o ob)):
  qf E w (nC σ c RL OL) x ob/\∃s,x=ah9 OL s/\∀b,fN (nC σ c RL OL) x ob b->∃n o,n∈pN RL OL s/\σ (dj n)=.o o/\fN c n o b:=by
 have ha:∀{q:aN} {y:gD},r.rs[q]? =ai y->∃R,RL[q]? =ai R/\y=R.arg:=by
  intro q y hq;rw[hE.rs,bJ]at hq;cases B:RL[q]? with
  |none=>rw[B]at hq;cases hq
  |some R=>rw[B]at hq;cases hq;exact⟨R,rfl,rfl⟩
 have ho:∀{q:aN} {R:mO} {j:aN} {t:kR},RL[q]? =ai R->R.cs[j]? =ai t->∀n∈t.fz,n∈RL.flatMap (·.fz)++OL.flatMap (·.ms):=λB k n hn=>bZ _ (bL.2 ⟨_,aU B,bL.2 ⟨_,aU k,hn⟩⟩);have hf:∀{q:aN} {O:n0} {j:aN} {t:kR},OL[q]? =ai O->O.cs[j]? =ai t->∀n∈t.fz,n∈RL.flatMap (·.fz)++OL.flatMap (·.ms):=λB k n hn=>bR _ (bL.2 ⟨_,aU B,bL.2 ⟨_,aU k,hn⟩⟩);have Y:∀{p:aN} {y:gD},args[p]? =ai y->∃O,OL[p]? =ai O/\Ik E σ w c p y O/\r.outs.getD p []=O.cs.map (·.aa):=by
  intro p y hp;have hz:p<OL.length:=by rw[hE.len];exact(aW.1 hp).1
  have K:OL[p]? =ai OL[p]:=by simp[hz]
  refine⟨OL[p],K,hE.ol p _ y K hp,?_⟩
  rw[hE.outs,dc,bJ,K];rfl
 have U:∀{cs:aE kR} {j:aN} {y:AA},(cs.map (·.aa))[j]? =ai y->∃t,cs[j]? =ai t/\t.aa=y:=by
  intro cs j y k;rw[bJ]at k;cases d:cs[j]? with
  |none=>rw[d]at k;cases k
  |some t=>rw[d]at k;cases k;exact⟨t,rfl,rfl⟩
 have hu:∀p j,dU p 0+j=dU p j:=λp j=>by unfold dU;omega
 cases h with
 |rb q xs h0=>
  obtain⟨R,B,hy⟩:=ha h0;rcases hE.rl R (aU B)with ⟨nm,zs,A,h1,h2,h3,h4,h5,h6⟩|⟨h1,_⟩
  ·have N:=R8 (R:=R) (xs:=xs) (.inr hy.symm);obtain⟨e1,e2⟩:=BV (σ:=σ) (Sa (c:=c) (OL:=OL) B h1);refine⟨⟨A,by rw[e1];exact h4,by rw[iR,N,bK];exact h5,λj y k=> ?_⟩,⟨ao,q,ay⟩,rfl,λb S=>⟨nm,_,?_,h2,?_⟩⟩
   ·rw[iD,N]at k;cases m:(R.cs.map (·.aa))[j]? with
    |none=>rw[m]at k;cases k
    |some z=>
     rw[m]at k;cases k;obtain⟨t,d,rfl⟩:=U m;obtain⟨k1,k2⟩:=h6 j t d;have M:j<900:=by have:=hE.sm.rl q _ xs h0 (.inr rfl);have h7:=(aW.1 d).1;rw[N,bK]at this;omega
     rw[hu];exact⟨t.u,k1,BX k2 (ho B d) (GS B d M)⟩
   ·show nm∈(match RL[q]? with|some R=>R.box.toList|none=>[]);rw[B];dsimp only;rw[h1];exact a7.2 rfl
   ·rw[show b=_ from S,e1];rfl
  ·unfold mO.arg at hy;rw[h1]at hy;cases hy
 |rr q y xs j e ex ys h0 m k=>
  obtain⟨R,B,rfl⟩:=ha h0;have N:=R8 m;rw[N]at k;obtain⟨t,d,f⟩:=U k;have M:j<900:=by have:=hE.sm.rl q _ xs h0 m;have h7:=(aW.1 d).1;rw[N,bK]at this;omega
  have hc:jY E σ w c t:=by
   rcases hE.rl R (aU B)with ⟨nm,zs,A,_,_,_,_,_,h6⟩|⟨_,⟨_,t',h1,_,h2⟩|⟨_,A,_,_,h6⟩⟩
   ·exact(h6 j t d).2
   ·rw[h1]at d;cases j with
    |zero=>cases d;exact h2
    |succ j=>simp at d
   ·exact(h6 j t d).2
  obtain⟨k1,k2⟩:=IG (RL:=RL) (OL:=OL) hc f (GS B d M);refine⟨k1,⟨ao,q,ai j⟩,rfl,λb S=> ?_⟩
  obtain⟨n,o,h1,h2⟩:=k2 b S;refine⟨n,o,?_,h2⟩
  show n∈(match RL[q]? with|some R=>(match R.cs[j]? with|some r=>r.tk|none=>[])|none=>[]);rw[B];dsimp only;rw[d];exact h1
 |ob p xs h0=>
  obtain⟨O,K,V,hl⟩:=Y h0;have hp:=hE.sm.a p _ xs h0 (.inr rfl);rcases V with ⟨_,h1,_⟩|⟨h1,Q,vs,A,C,h2,h3,h4,h5⟩
  ·exact cO rfl (h1 xs)
  ·cases C;obtain⟨e1,e2⟩:=BU (σ:=σ) (BR (c:=c) (RL:=RL) (OL:=OL) hp (.inr rfl));have h9:O.cs.length<=100:=by have:=hE.sm.o p;rw[hl,bK]at this;exact this
   rw[hl];refine⟨⟨A,by rw[e1];exact h3,by rw[vM,bK];exact h4,λj y k=> ?_⟩,⟨aq,p,ay⟩,rfl,λb S=>⟨dU p 900,_,?_,h2,?_⟩⟩
   ·rw[wA,bV]at k;cases m:(O.cs.map (·.aa))[j]? with
    |none=>rw[m]at k;cases k
    |some z=>
     rw[m]at k;cases k;obtain⟨t,d,rfl⟩:=U m;obtain⟨k1,k2⟩:=h5 j t d;have M:=(aW.1 d).1;refine⟨t.u,k1,?_⟩
     rcases k2 with ⟨⟨e,ex,z,ys,_,q2,_⟩,q6⟩|k2
     ·rw[q2];show t.u=kX ((nC σ c RL OL).P (dU p j));rw[(BU (BR hp (.inl (by omega)))).1];exact q6
     ·have hk:∀ys,t.aa≠ .kp ys:=by
       rcases k2 with ⟨_,_,_,_,q,_⟩|⟨_,_,_,q,_⟩
       ·intro ys hh;rw[q]at hh;cases hh
       ·exact q
      have:ur p j t.aa=lF (dU p (100+j)) t.aa:=by cases hq:t.aa<;>first|rfl|exact cO hq (hk _)
      rw[this];exact BX k2 (hf K d) (M5 hp K d (by omega))
   ·show dU p 900∈(match OL[p]? with|some O=>(if O.box=ao then [dU p 900]else [])|none=>[]);rw[K];dsimp only;rw[bm h1];exact a7.2 rfl
   ·rw[show b=_ from S,e1];rfl
 |kp p y xs j e ex z ys h0 m h2 h3=>
  obtain⟨O,K,V,hl⟩:=Y h0;have hp:=hE.sm.a p _ xs h0 m;rw[hl]at h3;obtain⟨t,d,f⟩:=U h3;have h9:O.cs.length<=100:=by have:=hE.sm.o p;rw[hl,bK]at this;exact this
  have M:=(aW.1 d).1;have he:Kept σ p j xs t:=by
   rcases V with ⟨_,_,h1|⟨g,Q,C,h1⟩⟩|⟨_,Q,vs,A,C,_,_,_,h5⟩
   ·rw[h1]at d;simp at d
   ·have:Q=xs:=by rw[C]at m;rcases m with ⟨g',m⟩|m<;>cases m;rfl
    subst this;rcases h1 j t d with h|⟨h,_⟩
    ·exact h
    ·rw[f]at h;cases h
   ·have:Q=xs:=by rw[C]at m;rcases m with ⟨g',m⟩|m<;>cases m;rfl
    subst this;rcases(h5 j t d).2 with ⟨h,_⟩|h
    ·exact h
    ·rcases h with ⟨_,_,_,_,q,_⟩|⟨_,_,_,q,_⟩
     ·rw[f]at q;cases q
     ·exact cO f (q _)
  obtain⟨e',x0,z',x2,q1,q2,q3,q4,q5⟩:=he;rw[h2]at q1;cases q1;rw[f]at q2;cases q2;obtain⟨e1,e2⟩:=BU (σ:=σ) (BR (c:=c) (RL:=RL) (OL:=OL) (p:=p) (j:=j) hp (.inl (by omega)));obtain⟨⟨te,r1,r2,r3⟩,r4,r5⟩:=hv.obj _ _ q5;refine⟨⟨⟨te,r1,by rw[e1];exact r2,r3⟩,?_,λX=>by rw[e1,e2];exact r5 X⟩,⟨aq,p,ai j⟩,?_,λb S=>⟨dU p j,_,?_,q5,?_⟩⟩
  ·rw[e1,e2];refine r4.frame (λ_=>rfl) (λi j y xx u hy x1 hr=> ?_);split at hr
   ·rename_i X;rw[bm X];exact hr
   ·rename_i X;rw[bk X];exact hr.frame (λ_ _=>rfl) (λb S=>.inl S)
  ·show dU p j=(match OL[p]? with|some O=>(match O.cs[j]? with|some r=>(match r.aa with|.kp _=>dU p j|_=>dU p (100+j))|none=>0)|none=>0)
   rw[K];dsimp only;rw[d];dsimp only;rw[f]
  ·show dU p j∈(match OL[p]? with|some O=>(match O.cs[j]? with|some r=>r.tk|none=>[])|none=>[]);rw[K];dsimp only;rw[d];dsimp only;rw[q3];exact a7.2 rfl
  ·rw[mn (c:=c) (c':=nC σ c RL OL) ⟨e1,e2⟩]at S;exact S
 |nw p y xs j e ex ys h0 m h3=>
  obtain⟨O,K,V,hl⟩:=Y h0;have hp:=hE.sm.a p _ xs h0 m;rw[hl]at h3;obtain⟨t,d,f⟩:=U h3;have h9:O.cs.length<=100:=by have:=hE.sm.o p;rw[hl,bK]at this;exact this
  have M:=(aW.1 d).1;have hc:jY E σ w c t:=by
   rcases V with ⟨_,_,h1|⟨g,Q,C,h1⟩⟩|⟨_,Q,vs,A,C,_,_,_,h5⟩
   ·rw[h1]at d;simp at d
   ·rcases h1 j t d with ⟨_,_,_,_,_,h,_⟩|⟨h,_⟩<;>(rw[f]at h;cases h)
   ·rcases(h5 j t d).2 with ⟨⟨_,_,_,_,_,h,_⟩,_⟩|h
    ·rw[f]at h;cases h
    ·exact h
  obtain⟨k1,k2⟩:=IG (RL:=RL) (OL:=OL) hc f (M5 hp K d (by omega));refine⟨k1,⟨aq,p,ai j⟩,?_,λb S=> ?_⟩
  ·show dU p (100+j)=(match OL[p]? with|some O=>(match O.cs[j]? with|some r=>(match r.aa with|.kp _=>dU p j|_=>dU p (100+j))|none=>0)|none=>0)
   rw[K];dsimp only;rw[d];dsimp only;rw[f]
  ·obtain⟨n,o,h1,h2⟩:=k2 b S;refine⟨n,o,?_,h2⟩
   show n∈(match OL[p]? with|some O=>(match O.cs[j]? with|some r=>r.tk|none=>[])|none=>[]);rw[K];dsimp only;rw[d];exact h1
end
end Go.FG
namespace Go.FG
def wq(h:Cg args r m (.o o)):n9 args r (dj m)≠ .jW:=by
 refine sO (xZ.2 h) ?_;rintro ⟨k,d⟩ hd;rcases a_.1 hd with hd|hd
 ·obtain⟨i,a,_,hd⟩:=Jh.1 hd;rcases iA.1 hd with ⟨_,_,_,h⟩|⟨_,_,_,_,_,_,_,_,h⟩<;>rw[h]<;>simp
 ·obtain⟨i,a,_,hd⟩:=Jg.1 hd;rcases rq.1 hd with ⟨_,_,_,h⟩|⟨_,_,⟨_,_,_,_,_,_,_,_,h⟩|⟨_,_,_,_,_,_,h⟩⟩<;>rw[h]<;>simp
section
variable {P:dx} {E:gy} {σ:St} {a:Act} {w:cN} {c c0:gQ} {RL:aE mO} {OL:aE n0}
def T3(h:n∈pN RL OL s):n∈RL.flatMap (·.tk)++(OL.zipIdx 0).flatMap (λt=>t.1.ns t.2):=by
 obtain⟨b,i,j⟩:=s;have k:∀{O:n0},OL[i]? =ai O->n∈O.ns i->n∈(OL.zipIdx 0).flatMap (λt=>t.1.ns t.2):=λd u=>bL.2 ⟨_,aU (nE (p:=0) d),by rw[bV];exact u⟩;have m:∀{R:mO},RL[i]? =ai R->n∈R.tk->n∈RL.flatMap (·.tk):=λx u=>bL.2 ⟨_,aU x,u⟩;cases b<;>cases j<;>unfold pN at h<;>dsimp only at h
 ·cases d:OL[i]? with
  |none=>rw[d]at h;cases h
  |some O=>rw[d]at h;exact bR _ (k d (bZ _ h))
 ·rename_i j;cases d:OL[i]? with
  |none=>rw[d]at h;cases h
  |some O=>
   rw[d]at h;dsimp only at h;cases f:O.cs[j]? with
   |none=>rw[f]at h;cases h
   |some r=>rw[f]at h;exact bR _ (k d (bR _ (bL.2 ⟨r,aU f,h⟩)))
 ·cases d:RL[i]? with
  |none=>rw[d]at h;cases h
  |some O=>rw[d]at h;exact bZ _ (m d (bZ _ h))
 ·rename_i j;cases d:RL[i]? with
  |none=>rw[d]at h;cases h
  |some O=>
   rw[d]at h;dsimp only at h;cases f:O.cs[j]? with
   |none=>rw[f]at h;cases h
   |some r=>rw[f]at h;exact bZ _ (m d (bR _ (bL.2 ⟨r,aU f,h⟩)))
def Ud(hE:Ew E σ w c RL OL args r)(i:RL[q]? =ai R):qG E w (nC σ c RL OL) (GR (500+q) R.arg).1 (GR (500+q) R.arg).2 R.v:=by
 have k:∀{j:aN} {t:kR},R.cs[j]? =ai t->j<900:=by
  intro j t d;have h0:r.rs[q]? =ai R.arg:=by rw[hE.rs,bJ,i];rfl
  have A:Mg R.arg (R.cs.map (·.aa)):=by
   unfold mO.arg;split
   ·exact .inr rfl
   ·exact .inl ⟨_,rfl⟩
  have:=hE.sm.rl q _ _ h0 A;have K:=(aW.1 d).1;rw[bK]at this;omega
 have x:∀{j:aN} {t:kR},R.cs[j]? =ai t->∀n∈t.fz,n∈RL.flatMap (·.fz)++OL.flatMap (·.ms):=λh n z=>bZ _ (bL.2 ⟨_,aU i,bL.2 ⟨_,aU h,z⟩⟩);have s:∀p j,dU p 0+j=dU p j:=λp j=>by unfold dU;omega
 rcases hE.rl R (aU i)with ⟨nm,zs,f,h1,h2,h3,h4,m,h6⟩|⟨h1,⟨h2,t,h3,h4,m⟩|⟨h2,f,h3,h4,m⟩⟩
 ·have:R.arg=.pt (R.cs.map (·.aa)):=by unfold mO.arg;rw[h1]
  rw[this];show R.v=.pointer (ai (ad ((nC σ c RL OL).P (dU (500+q) 900)).blk 0));rw[(BV (Sa i h1)).1];exact h3
 ·have:R.arg=.v aq [t.aa]:=by unfold mO.arg;rw[h1,h2,h3];rfl
  rw[this,<-h4];have d:R.cs[0]? =ai t:=by rw[h3];rfl
  have:=BX (OL:=OL) m (x d) (GS i d (by omega));exact this
 ·have:R.arg=.v ao (R.cs.map (·.aa)):=by unfold mO.arg;rw[h1,h2]
  rw[this];refine⟨f,h3,by show f.size=(gC _ _).length;rw[iR,bK];exact h4,λj y h=> ?_⟩
  replace h:(gC (dU (500+q) 0) (R.cs.map (·.aa)))[j]? =ai y:=h;rw[iD,bJ]at h;cases d:R.cs[j]? with
  |none=>rw[d]at h;cases h
  |some t=>
   rw[d]at h;cases h;obtain⟨B,C⟩:=m j t d;refine⟨t.u,B,?_⟩
   rw[s];exact BX C (x d) (GS i d (k d))
def CO(h0:r.rs[q]? =ai y)(k:Mg y xs)(i:v∈gC (dU (500+q) 0) xs):jm (n9 args r) v:=by
 intro m hm;obtain⟨j,d⟩:=b5 i;rw[iD]at d;cases f:xs[j]? with
 |none=>rw[f]at d;cases d
 |some z=>
  rw[f]at d;cases d;obtain⟨rfl,e,ex,s,rfl⟩:=um hm;have h:dU (500+q) 0+j=dU (500+q) j:=by unfold dU;omega
  rw[h];exact wq (.rr q y xs j e ex s h0 k f)
def Ww(d:Ok E σ w c)(hE:Ew E σ w c RL OL args r):Ok E (n9 args r) w (nC σ c RL OL) where
 obj nm o h:=(xX d hE (q0 h)).1
 gp:=E.gp.fr d.gp (λ_ _=>rfl) (λb x=>.inl x)
 sep nm o h9 o' b h h' M N:=by
  obtain⟨s,X,S⟩:=(xX d hE (q0 h)).2;obtain⟨s',C,U⟩:=(xX d hE (q0 h')).2;obtain⟨n,ob,h1,h2,h3⟩:=S b M;obtain⟨V,ob',K,k,u⟩:=U b N;have:=d.sep n ob V ob' b h2 k h3 u;subst this;rw[X,C,YP hE.nd h1 K]
 kk nm o b h M hk:=by
  obtain⟨s,X,S⟩:=(xX d hE (q0 h)).2;obtain⟨n,ob,h1,h2,h3⟩:=S b M;rcases hk with hk|⟨V,O,ob',k,u⟩
  ·exact d.kk n ob b h2 h3 hk
  ·have:=d.sep n ob V ob' b h2 k h3 u;subst this;exact hE.ap n (T3 h1) O
 lt b x:=by
  rcases x with x|⟨n,hn,ob,h1,h2⟩
  ·exact d.lt b x
  ·exact Own.lt d ⟨n,ob,h1,h2⟩
 kn nm xs h v hv:=by
  have hx:=q0 h;cases hx with
  |rb q xs h0=>exact CO h0 (.inr rfl) hv
  |ob p xs h0=>
   intro m hm;obtain⟨j,y⟩:=b5 hv;rw[wA,bV]at y;cases i:(r.outs.getD p [])[j]? with
   |none=>rw[i]at y;cases y
   |some z=>
    rw[i]at y;cases y;cases z with
    |kp B=>
     have hm:m=dU p j:=by simpa [ur,bP]using hm
     subst hm;have Q:p<OL.length:=by rw[hE.len];exact(aW.1 h0).1
     have Y:OL[p]? =ai OL[p]:=by simp[Q]
     have hl:r.outs.getD p []=OL[p].cs.map (·.aa):=by rw[hE.outs,dc,bJ,Y];rfl
     rw[hl,bJ]at i;cases A:OL[p].cs[j]? with
     |none=>rw[A]at i;cases i
     |some t=>
      rw[A]at i;have f:t.aa=.kp B:=by injection i
      rcases hE.ol p _ _ Y h0 with ⟨_,h1,_⟩|⟨_,ha,vs,h7,R,_,_,_,h5⟩
      ·exact cO rfl (h1 xs)
      ·cases R;rcases(h5 j t A).2 with ⟨⟨e,ex,z,hc,q1,q2,_⟩,_⟩|h
       ·rw[f]at q2;cases q2;exact wq (.kp p _ xs j e ex z B h0 (.inr rfl) q1 (by rw[hl,bJ,A];exact gu ai f))
       ·rcases h with ⟨_,_,_,_,q,_⟩|⟨_,_,_,q,_⟩
        ·rw[f]at q;cases q
        ·exact cO f (q _)
    |ow e ex B=>
     have hm:m=dU p (100+j):=by simpa [ur,lF,bP]using hm
     subst hm;exact wq (.nw p _ xs j e ex B h0 (.inr rfl) i)
    |_=>simp[ur,lF,bP]at hm
def O6(f:Ok E σ w c)(hE:Ew E σ w c RL OL args r):Grow σ c w (n9 args r) (nC σ c RL OL) w where
 os:=rfl
 tape:=rfl
 output:=rfl
 size:=bW _
 K b d:=.inl d
 same _ _ _:=rfl
 own b d:=by
  obtain⟨nm,o,h,i⟩:=d;obtain⟨s,k,j⟩:=(xX f hE (q0 h)).2;obtain⟨n,ob,h1,h2,h3⟩:=j b i;exact .inl ⟨n,ob,h2,h3⟩
 kn b d:=by
  rcases d with d|⟨n,m,ob,h1,h2⟩
  ·exact .inl d
  ·exact .inr (.inl ⟨n,ob,h1,h2⟩)
def O7(hs:Small args r)(y:∀a∈args,nB a<=100)(u:Vk c0 c):∀m,inj args (dj m)≠ .jW->(nC σ c RL OL).P m=c0.P m/\(nC σ c RL OL).G m=c0.G m:=by
 intro m hm;have:∃ob,inj args (dj m)=.o ob:=by
  cases h:inj args (dj m)with
  |o ob=>exact⟨ob,rfl⟩
  |jW=>exact cO h hm
  |v x=>
   obtain⟨p,a,h0,h⟩:=lX.1 (oe h (by simp));rcases h with ⟨h,_⟩|h
   ·exact cO h (mq _ _)
   ·rcases iA.1 h with ⟨_,_,_,h⟩|⟨_,_,_,_,_,_,_,_,h⟩<;>cases h
 obtain⟨ob,h⟩:=this;obtain⟨p,a,h0,z⟩:=B6 h;have go:∀j,j<100\/j=900->p<500->(nC σ c RL OL).P (dU p j)=c0.P (dU p j)/\(nC σ c RL OL).G (dU p j)=c0.G (dU p j):=by intro j d hp;obtain⟨i,k⟩:=BU (σ:=σ) (BR (c:=c) (RL:=RL) (OL:=OL) hp d);obtain⟨s,t⟩:=u (dU p j) (C' p j);exact⟨i.trans s,k.trans t⟩
 rcases z with ⟨xs,rfl,rfl,_⟩|⟨xs,j,e,ex,A,f,d,rfl,_⟩
 ·exact go 900 (.inr rfl) (hs.a p _ xs h0 (.inr rfl))
 ·refine go j (.inl ?_) (hs.a p _ xs h0 f);have h1:=y a (aU h0);have h2:nB a=xs.length:=by rcases f with ⟨g,rfl⟩|rfl<;>rfl
  have h3:=(aW.1 d).1;omega
def Ss(hE:Ew E σ w c RL OL args r):jb E w (nC σ c RL OL) (Uc r.rs) (Dp (RL.map (·.v))):=by
 have kz:∀l:aE (aZ×aE AV),l=lG 500 r.rs->jb E w (nC σ c RL OL) (.kz l) (.tuple (RL.map (·.v)).toArray):=by
  rintro l rfl;refine⟨_,rfl,by rw[ym,hE.rs];simp,λj g xs k=> ?_⟩
  rw[Fv,hE.rs,bJ]at k;cases f:RL[j]? with
  |none=>rw[f]at k;cases k
  |some R=>
   rw[f]at k;have k:GR (500+j) R.arg=(g,xs):=by injection k
   have:=Ud hE f;rw[k]at this;exact⟨R.v,by simp[f],this⟩
 have one:∀x R,lG 500 r.rs=[x]->RL=[R]->jb E w (nC σ c RL OL) (sZ [x]) R.v:=by
  intro x R u t;have h0:RL[0]? =ai R:=by rw[t];rfl
  have h1:=Ud hE h0;have h2:(lG 500 r.rs)[0]? =ai (GR (500+0) R.arg):=by rw[Fv,hE.rs,bJ,h0];rfl
  rw[u]at h2;have h2:x=GR (500+0) R.arg:=by injection h2
  subst h2;exact h1
 have d:(lG 500 r.rs).length=RL.length:=by rw[ym,hE.rs];simp
 have s:∀L,L=lG 500 r.rs->L.length=RL.length->jb E w (nC σ c RL OL) (sZ L) (Dp (RL.map (·.v))):=by
  intro L s d;have kz:=kz L s;generalize h:RL.map (·.v)=V at kz⊢;have i:L.length=V.length:=by rw[d,<-h];simp
  cases L with
  |nil=>
   cases V with
   |nil=>exact kz
   |cons v V=>simp at i
  |cons x L=>
   cases V with
   |nil=>simp at i
   |cons v V=>
    cases L with
    |cons y L=>
     cases V with
     |nil=>simp at i
     |cons z V=>exact kz
    |nil=>
     cases V with
     |cons z V=>simp at i
     |nil=>
      cases f:RL with
      |nil=>rw[f]at h;cases h
      |cons R m=>
       cases m with
       |nil=>
        have:=one x R s.symm f;rw[f]at h this;have h:R.v=v:=by injection h
        rw[<-h];exact this
       |cons R' m=>rw[f]at h;simp at h
 exact s _ rfl d
end
end Go.FG
namespace Go.FG
def EL(h:(bif b then ai x else ay)=ai r):b=ao/\x=r:=by
 cases b with
 |true=>exact⟨rfl,by injection h⟩
 |false=>cases h
section
variable {P:dx} {E:gy} {σ:St} {a:Act} {w:cN} {c:gQ}
def adQ(hE:eB P E)(d:Ok E σ w c)(j:fw E σ a w c)(h:fin E F args e σ=ai r):
  (e=.normal\/e=.ret)/\(∀x∈args,nB x<=100)/\∃RL OL,Ew E σ w c RL OL args r/\(results F a.tmps).run P w=.ok (Dp (RL.map (·.v))) w:=by
 have m:e=.normal\/e=.ret:=by
  cases e with
  |normal=>exact .inl rfl
  |ret=>exact .inr rfl
  |exit id=>cases h
 have h:(match Dn E σ 500 F.results.toList F.resultTypes.toList with
  |some (rs,tk,fz)=>match Di E σ (tk++fz) 0 args with
   |some (outs,ns,ms)=>bif uo (tk++ns)&&sg (tk++ns) (fz++ms)&&e6 args.length 500&&(args.all λa=>e6 (nB a) 100)&&(rs.all λa=>e6 (nB a) 100)&&(outs.all λa=>e6 a.length 100)then ai (iO.mk rs (uP outs))else ay
   |none=>ay
  |none=>ay)=ai r:=by
  rcases m with rfl|rfl<;>exact h
 split at h
 ·rename_i rs tk fz h1;split at h
  ·rename_i outs ns ms h2;obtain⟨RL,rfl,rfl,rfl,r4,r5,r6⟩:=P4 hE d j h1;obtain⟨OL,rfl,B,rfl,rfl,C⟩:=PR d h2;obtain⟨k,rfl⟩:=EL h;simp only[aM,bE]at k;obtain⟨⟨⟨⟨⟨s,t⟩,u⟩,y⟩,z⟩,A⟩:=k;refine⟨m,λx f=>b8 (y x f),RL,OL,⟨r4,λi O x hi f=>by have:=C i O x hi f;rwa[bV]at this,B,ry s,o7 t,⟨?_,?_,?_⟩,rfl,λp=>AL⟩,JB r6⟩
   ·intro p x xs hp _;have:=(aW.1 hp).1;have:=b8 u;omega
   ·intro q x xs hq f;have h1:=b8 (z x (aU hq));have h2:nB x=xs.length:=by rcases f with ⟨g,rfl⟩|rfl<;>rfl
    omega
   ·intro p;show((uP (OL.map (·.l))).getD p []).length<=100;rw[AL,dc];cases hp:(OL.map (·.l))[p]? with
    |none=>simp
    |some l=>exact b8 (A l (aU hp))
  ·cases h
 ·cases h
end
inductive Fit:CV->Prop
 |i (k n):Fit (.i k n)
 |b (x):Fit (.b x)
 |s (x) (h:DS x):Fit (.s x)
 |l (e xs) (h:xs.length<=9223372036854775807) (hc:∀y∈xs,∀x∈y,Fit x):Fit (.l e xs)
def A'(xs:Row):Prop:=xs.length<=9223372036854775807/\∀y∈xs,∀x∈y,Fit x
def ahs:AA->Prop
 |.s x=>DS x|.sh _ xs=>A' xs|.ow _ _ xs=>A' xs|_=>True
def G4:aE AA->Prop
 |[]=>True|a::r=>ahs a/\G4 r
def aht:CV->Prop
 |.s x=>DS x|.l _ xs=>A' xs|_=>True
def Sz:aE CV->Prop
 |[]=>True|a::r=>aht a/\Sz r
def Sy:gD->Prop
 |.v _ xs=>G4 xs|.pt xs=>G4 xs|.fb xs=>Sz xs
def yh:aE gD->Prop
 |[]=>True|a::r=>Sy a/\yh r
def Fit.aic(hl:uQ x=aq)(h:Sc u x):Fit x:=by
 cases x with
 |i k n=>exact .i k n
 |b x=>exact .b x
 |s x=>exact .s x h.2
 |l=>simp[uQ]at hl
def Holds.fit(h:Holds E w K v x):Fit x:=by
 induction h with
 |i k n=>exact .i k n
 |b x=>exact .b x
 |s x h=>exact .s x h
 |nl e A c=>exact .l e [] (bB _) (λy f=>by cases f)
 |l e xs b o c ti U B m hm z hs d r ih=>refine .l e xs (ca m hm) (λy f x u=> ?_);obtain⟨i,hi⟩:=b5 f;obtain⟨j,t⟩:=b5 u;exact ih i j y x hi t
def Fit.row(h:Fit (.l e xs)):A' xs:=by cases h with|l _ _ h d=>exact⟨h,d⟩
def Fit.toC(h:Fit x):aht x:=by
 cases x with
 |s x=>cases h with|s _ h=>exact h
 |l e xs=>exact h.row
 |_=>trivial
def A0(h:jq w p xs R)(hi:xs[i]? =ai y)(m:y[j]? =ai x):∃u:bS,R i j u x:=by
 cases d:p.nil with
 |true=>rw[(h.nil d).1]at hi;simp at hi
 |false=>obtain⟨f,_,_,_,_,k⟩:=h.mem d;obtain⟨u,_,r⟩:=k i y j x hi m;exact⟨u,r⟩
def Mw.fit(h:Mw E w c nm e ex xs):A' xs:=by
 refine⟨uX h.at_,λy M x K=> ?_⟩
 obtain⟨i,hi⟩:=b5 M;obtain⟨j,C⟩:=b5 K;obtain⟨u,r⟩:=A0 h.at_ hi C;split at r
 ·cases x with
  |i k n=>exact .i k n
  |b x=>exact .b x
  |s x=>exact .s x (show Sc u (.s x)from r).2
  |l B O=>obtain⟨_,ti,_,hp,_,kJ,d⟩:=r;refine .l B O (uX d) (λN m U A=> ?_);obtain⟨Q,t⟩:=b5 m;obtain⟨R,f⟩:=b5 A;obtain⟨S,z⟩:=A0 d t f;exact Fit.aic (im hp (kJ N m) f) z
 ·exact Holds.fit r
def EW(d:∀(j e:aN) (ex:aZ) (f:Row),xs[j]? =ai (AA.ow e ex f)->A' f)(h:∀(j:aN) (x:AA),xs[j]? =ai x->∃v,eI T w c (lF (nm+j) x) v):G4 xs:=by
 induction xs generalizing nm with
 |nil=>trivial
 |cons x xs ih=>
  refine⟨?_,ih (nm:=nm+1) (λj e ex f i=>d (j+1) e ex f i) (λj y i=> ?_)⟩
  ·obtain⟨v,k⟩:=h 0 x rfl;cases x with
   |s x=>exact k.2
   |sh e f=>exact(Holds.fit k).row
   |ow e ex f=>exact d 0 e ex f rfl
   |_=>trivial
  ·have:=h (j+1) y i;rw[show nm+1+j=nm+(j+1)by omega];exact this
def Aq(args:aE gD):aZ:=e6 args.length 500&&args.all λa=>e6 (nB a) 100
def WM(hs:Aq args=ao)(h0:args[p]? =ai x)(m:(∃g,x=.v g xs)\/x=.pt xs)(k:xs[j]? =ai (AA.ow e ex u)):inj args (dj (dU p j))=.o (.row e ex u):=by
 simp only[Aq,aM,bE]at hs;have len:∀(x:gD) (xs:aE AA) (j:aN) (y:AA),x∈args->((∃g,x=.v g xs)\/x=.pt xs)->xs[j]? =ai y->j<100:=by
  intro x xs j y hm m k;have h1:=b8 (hs.2 x hm);have h2:nB x=xs.length:=by rcases m with ⟨g,rfl⟩|rfl<;>rfl
  have h3:=(aW.1 k).1;omega
 have B:=len x xs j _ (aU h0) m k;refine Av (lX.2 ⟨p,x,h0,.inr (iA.2 (.inr ⟨xs,j,e,ex,u,m,k,by rw[bV],rfl⟩))⟩) (λc' s=> ?_);obtain⟨p',z,f,r⟩:=lX.1 s;rw[bV]at r;rcases r with ⟨h,_⟩|r
 ·exact cO h (mq _ _)
 ·rcases iA.1 r with ⟨zs,_,h,_⟩|⟨zs,C,M,A,K,d,i,h,rfl⟩
  ·have:=uV (by omega) (by omega) (j9 h);omega
  ·have t:=len z zs C _ (aU f) d i;obtain⟨rfl,rfl⟩:=uV (by omega) (by omega) (j9 h);rw[h0]at f;cases f;have:xs=zs:=by rcases m with ⟨g,rfl⟩|rfl<;>rcases d with ⟨N,d⟩|d<;>cases d<;>rfl
   subst this;rw[k]at i;cases i;rfl
def KQ{T:Tab}{w:cN}{c:gQ}:∀{cs:aE CV},(∀(q:aN) (x:CV),cs[q]? =ai x->Fit x)->Sz cs:=by
 intro cs;induction cs with
 |nil=>intro _;trivial
 |cons x cs ih=>intro h;exact⟨(h 0 x rfl).toC,ih (λq y hq=>h (q+1) y hq)⟩
def SA(hs:Aq args=ao)(k:Ok T (inj args) w c)(h:∀(p:aN) (x:gD),args[p]? =ai x->∃v,jb T w c (sW p x) v):yh args:=by
 have one:∀(p:aN) (x:gD),args[p]? =ai x->Sy x:=by
  intro p x h0;have rows:∀xs,((∃g,x=.v g xs)\/x=.pt xs)->∀(j e:aN) (ex:aZ) (M:Row),xs[j]? =ai (AA.ow e ex M)->A' M:=λxs B j e ex M r=>Mw.fit (k.obj _ _ (WM hs h0 B r));obtain⟨v,f⟩:=h p x h0;cases x with
  |v g xs=>
   refine EW (T:=T) (w:=w) (c:=c) (nm:=dU p 0) (rows xs (.inl ⟨g,rfl⟩)) (λj y r=> ?_);replace f:qG T w c g (gC (dU p 0) xs) v:=f;have d:(gC (dU p 0) xs)[j]? =ai (lF (dU p 0+j) y):=by rw[iD,r];rfl
   unfold qG at f;split at f
   ·rename_i a R;rw[R]at d;cases j with
    |zero=>cases d;exact⟨v,f⟩
    |succ j=>simp at d
   ·obtain⟨t,_,_,f⟩:=f;obtain⟨u,_,s⟩:=f j _ d;exact⟨u,s⟩
   ·exact f.elim
  |pt xs=>
   have m:inj args (dj (dU p 900))=.o (.box (gC (dU p 0) xs)):=by
    refine Av (lX.2 ⟨p,_,h0,.inr (iA.2 (.inl ⟨xs,rfl,by rw[bV],by rw[bV]⟩))⟩) (λc' A=> ?_);obtain⟨p',N,i,z⟩:=lX.1 A;rw[bV]at z;rcases z with ⟨h,_⟩|z
    ·exact cO h (mq _ _)
    ·rcases iA.1 z with ⟨zs,B,h,rfl⟩|⟨zs,X,V,O,U,C,d,h,rfl⟩
     ·obtain⟨rfl,_⟩:=uV (by omega) (by omega) (j9 h);rw[h0]at i;cases i;cases B;rfl
     ·exfalso;simp only[Aq,aM,bE]at hs;have h1:=b8 (hs.2 N (aU i));have h2:nB N=zs.length:=by rcases C with ⟨g,rfl⟩|rfl<;>rfl
      have h3:=(aW.1 d).1;have:=uV (by omega) (by omega) (j9 h);omega
   obtain⟨t,_,_,Q⟩:=k.obj _ _ m;refine EW (T:=T) (w:=w) (c:=c) (nm:=dU p 0) (rows xs (.inr rfl)) (λj y r=> ?_);obtain⟨u,_,s⟩:=Q j (lF (dU p 0+j) y) (by rw[iD,r];rfl);exact⟨u,s⟩
  |fb xs=>
   obtain⟨b,_,_,S⟩:∃b,v=.pointer (ai (ad b 0))/\c.K b/\∀(q:aN) (x:CV),xs[q]? =ai x->∃u:bS,w.cell? (ad b q)=ai u/\Holds T w c.K u x:=by obtain⟨b,h1,h2,h3⟩:=f;exact⟨b,h1,h2,h3⟩
   exact KQ (T:=T) (w:=w) (c:=c) (λq x hq=>by obtain⟨u,_,s⟩:=S q x hq;exact s.fit)
 clear h k hs;induction args with
 |nil=>trivial
 |cons x args ih=>exact⟨one 0 x rfl,ih (λp y hp=>one (p+1) y hp)⟩
def adR{P:dx}{E:gy}(hE:eB P E)(V:∀g,lI P E g (E.call g))(hm:P.follows .mixedOrders=ao){g:aN}{F:Func}{d:Code}(Q:P.funcs[g]? =ai F)(O:F.body=ai d)
  (A:((F.name== "runtime.NumGoroutine")|| !tZ F.ntmps d)=aq) {j:aE gD->aG (aZ×iO)} (hs:∀args r,j args=ai (ao,r)->Aq args=ao/\(yh args->args.length<=F.ntmps/\∃(R:Type) (it:It R) (K:Ex->St->aG R) (q:R),(∀c∈j8 d,b0 E it c)/\ub E it d (inj args) K=ai q/\∀e σ,K e σ=ai q->fin E F args e σ=ai r)):lI P E g j:=by
 intro args r hr w z vs s h5 y;obtain⟨C,hs⟩:=hs args r hr;obtain⟨S,R,it,K,q,B,k,m⟩:=hs (SA C s (λp x hp=>(y p x hp).imp λ_ h=>h.2));simp only[iG,iw]at A;refine⟨⟨F,Q,by rw[O];rfl,A.1⟩,?_⟩
 refine calls_of_wp Q O ?_;refine adK (N:=F.ntmps) (σ0:=inj args) (c0:=z) (w0:=w) hE V hm d B (inj args) K _ k A.2 (λe σ' a' w' c' hk f=> ?_) _ w z ⟨s,⟨λn=> ?_,Ja,rfl⟩,?_,Grow.refl _ _ _,Vk.refl _⟩
 ·obtain⟨Y,X,RL,OL,i,u⟩:=adQ hE f.ok f.sl (m _ _ hk)
  have t:Im E args r z w (Dp (RL.map (·.v))) w':=
   ⟨nC σ' c' RL OL,Ww f.ok i,f.gr.trans (O6 f.ok i),O7 i.sm X f.ag,Ss i⟩
  rcases Y with rfl|rfl<;>exact⟨f.sl.df,_,u,t⟩
 ·rcases Jb (args:=args) (n:=n)with ⟨x,h0,h⟩|h
  ·rw[h];obtain⟨v,U,M⟩:=y n x h0;have:(Act.mk (vs++Bt (F.ntmps-vs.size) undef) []).eval (.tmp n)=v:=by show(vs++Bt (F.ntmps-vs.size) undef).getD n undef=v;have hn:=(dD.1 U).1;rw[eM,Array.getElem?_append,bm hn,U];rfl
   rw[this];exact M
  ·rw[h];trivial
 ·simp;omega
def O_(h:∀args,d args=ay):lI P T g d:=λargs r f=>by rw[h]at f;cases f
end Go.FG
namespace Go.FG
structure tN where
 t:aN
 ti:TI
 fs:aE (aN×aN)
def Bq:aE tN->aN->aG TI
 |[],_=>ay
 |r::rs,t=>bif bN t r.t then ai r.ti else Bq rs t
def Eh:aE tN->aN->aN->aG (aN×aN)
 |[],_,_=>ay
 |r::rs,t,f=>bif bN t r.t then(bif r.ti.agg then r.fs[f]? else ay)else Eh rs t f
def U3(rows:aE tN)(eqs:aE aN):Tab:={ty:=Bq rows,fo:=Eh rows,eqs:=eqs}
def zB:Ck->bS->aZ
 |.i k,.int k' n=>ah (k'=k)&&ah (n=0)
 |.b,.bool x=> !x
 |.s,.string x=>ah (x.size=0)
 |.l _,.slice ay 0 0=>ao
 |.o,.nilIface=>ao
 |_,_=>aq
def zsB:aE Ck->aE bS->aZ
 |[],[]=>ao
 |k::ks,v::vs=>zB k v&&zsB ks vs
 |_,_=>aq
def isAgg:bS->aZ|.agg _=>ao|_=>aq
def yf(P:dx)(n:aN):aE Field->aE (aN×aN)->aZ
 |[],[]=>ao
 |f::r,(o,m)::l=>bN f.offset o&&(match P.info? f.type with|some i=>bN i.size m|none=>aq)&&oE 0 m&&e6 (o+m) n&&yf P n r l
 |_,_=>aq
def sB:TypeDesc->aZ|.struct _=>aq|.array _ _=>aq|_=>ao
def YB(P:dx)(r:tN):aZ:=
 match P.info? r.t,P.underlying r.t with
 |some f,ai d=>bN f.size r.ti.ks.length&&bN f.bytes r.ti.bytes&&oE 0 r.ti.ks.length&&
  (bif Li r.ti.ks then(match f.zero with|some z=>zsB r.ti.ks z.cells.toList&&(!r.ti.agg||isAgg z)|none=>aq)else ao)&&
  (match d with
  |.struct fs=>r.ti.agg&&yf P r.ti.ks.length fs.toList r.fs
  |.int k=> !r.ti.agg&&qJ r.ti.ks [.i k]
  |.bool=> !r.ti.agg&&qJ r.ti.ks [.b]
  |.string=> !r.ti.agg&&qJ r.ti.ks [.s]
  |.slice e=> !r.ti.agg&&qJ r.ti.ks [.l e]
  |d=> !r.ti.agg&&qJ r.ti.ks [.o]&&sB d)
 |_,_=>aq
def akU(h:zB k v=ao):v=iM k:=by
 cases k<;>cases v<;>simp_all [zB,iM]
 ·rfl
 ·rename_i a n c;cases a<;>cases n<;>cases c<;>simp_all
def Vj:∀{ks:aE Ck} {vs:aE bS},zsB ks vs=ao->vs=ks.map iM
 |[],[],_=>rfl
 |k::ks,v::vs,h=>by
  simp only[zsB,aM]at h;rw[akU h.1,Vj h.2];rfl
 |[],_::_,h=>by cases h
 |_::_,[],h=>by cases h
def adF:∀{x y:Ck},ckB x y=ao->x=y:=by intro x y h;cases x<;>cases y<;>simp_all [ckB]
def n8:∀{a b:aE Ck},qJ a b=ao->a=b
 |[],[],_=>rfl
 |x::a,y::b,h=>by
  simp only[qJ,aM]at h;rw[adF h.1,n8 h.2]
 |[],_::_,h=>by cases h
 |_::_,[],h=>by cases h
def wu:∀{fs:aE Field} {l:aE (aN×aN)},yf P n fs l=ao->
  fs.mapM (λf=>(P.info? f.type).map λi=>(f.offset,i.size))=ai l/\∀(f o m:aN),l[f]? =ai (o,m)->∃d,fs[f]? =ai d/\d.offset=o/\(P.info? d.type).map (·.size)=ai m/\m≠0/\o+m<=n
 |[],[],_=>⟨rfl,λf o m h=>by simp at h⟩
 |f::r,(o,m)::l,h=>by
  simp only[yf,aM]at h;obtain⟨⟨⟨⟨h1,h2⟩,h3⟩,h4⟩,t⟩:=h;obtain⟨u,x⟩:=wu t;have j:=aX h1;cases hi:P.info? f.type with
  |none=>rw[hi]at h2;cases h2
  |some i=>
   rw[hi]at h2;have k:i.size=m:=aX h2;have z:0<m:=by simpa [tz]using h3
   have s:=b8 h4;refine⟨by simp[V3,hi,u,j,k],λg o' y hg=> ?_⟩
   cases g with
   |zero=>cases hg;exact⟨f,rfl,j,by rw[hi];exact gu ai k,by omega,s⟩
   |succ g=>exact x g o' y hg
 |[],_::_,h=>by cases h
 |_::_,[],h=>by cases h
def JO:∀{rows:aE tN} {t:aN} {ti:TI},Bq rows t=ai ti->∃r∈rows,r.t=t/\r.ti=ti/\∀f,Eh rows t f=(bif r.ti.agg then r.fs[f]? else ay)
 |[],_,_,h=>by cases h
 |r::rs,t,ti,h=>by
  unfold Bq at h;cases d:bN t r.t with
  |true=>rw[d]at h;cases h;exact⟨r,cQ ..,(aX d).symm,rfl,λf=>by simp[Eh,d]⟩
  |false=>rw[d]at h;obtain⟨i,h1,h2,h3,h4⟩:=JO (rows:=rs) h;exact⟨i,cK _ h1,h2,h3,λf=>by unfold Eh;rw[d];exact h4 f⟩
def Np:∀{rows:aE tN} {t f:aN} {o n:aN},Eh rows t f=ai (o,n)->∃ti,Bq rows t=ai ti/\ti.agg=ao
 |[],_,_,_,_,h=>by cases h
 |r::rs,t,f,o,n,h=>by
  unfold Eh at h;unfold Bq;cases d:bN t r.t with
  |true=>
   rw[d]at h;refine⟨r.ti,rfl,?_⟩
   cases i:r.ti.agg with
   |true=>rfl
   |false=>rw[i]at h;cases h
  |false=>rw[d]at h;exact Np (rows:=rs) h
def Hs(P:dx):aN->aE Ck->aE Field->aZ
 |_,[],[]=>ao
 |j,k::ks,f::fs=>f.name != "_" &&bN f.offset j&&(match P.underlying f.type,k with|some (.int q),.i d=>ah (q=d)|some .bool,.b=>ao|some .string,.s=>ao|_,_=>aq)&&Hs P (j+1) ks fs
 |_,_,_=>aq
def ZQ(P:dx)(rows:aE tN)(t:aN):aZ:=
 !P.eqGuardType P.depth t&& !P.stoodInHeld t&&(match Bq rows t,P.underlying t with|some ti,ai (.struct fs)=>Hs P 0 ti.ks fs.toList|_,_=>aq)
def yD(hd:P.underlying t=ai d)(hp:sB d=ao)(f:cs[j]? =ai v)(w:cN):(part t cs j).run P w=.ok v w:=by cases d<;>simp_all [part,Go.isAgg,run_underlying hd,sB]
def AM(w:cN):∀(fs:aE Field) (ks:aE Ck) (pre j xs u:aE AV) (r:aZ),Hs P pre.length ks fs=ao->j.length=pre.length->xs.map He=ks->u.map He=ks->Wv xs u=ai r->
  (OO 9999 ((pre++xs).map l_).toArray ((j++u).map l_).toArray fs).run P w=.ok r w
 |[],[],pre,j,xs,u,r,_,_,z,C,m=>by
  have:xs=[]:=by simpa using z
  subst this;have:u=[]:=by simpa using C
  subst this;cases m;rfl
 |f::fs,k::ks,pre,j,x::xs,y::u,r,h,hl,z,C,m=>by
  simp only[Hs,aM]at h;obtain⟨⟨⟨h1,h2⟩,h3⟩,h4⟩:=h;have h2:=aX h2;have h1:f.name≠ "_" :=by simpa using h1
  simp only[fD,ZD]at z C;have N:((pre++x::xs).map l_).toArray[f.offset]? =ai (l_ x):=by rw[h2];simp
  have O:((j++y::u).map l_).toArray[f.offset]? =ai (l_ y):=by rw[h2,<-hl];simp
  have ih:=λV K=>AM w fs ks (pre++[x]) (j++[y]) xs u V (by simpa using h4) (by simp[hl]) z.2 C.2 K;simp only[cg,vg]at ih
  have fin:∀{d:TypeDesc} {a b:bS} {q t:aZ},P.underlying f.type=ai d->sB d=ao->l_ x=a->l_ y=b->(Op.equalIn 9999 f.type a b).run P w=.ok q w->Wv xs u=ai t->r=(q&&t)->
    (OO 9999 ((pre++x::xs).map l_).toArray ((j++y::u).map l_).toArray (f::fs)).run P w=.ok r w:=by
   intro d a b q t hd hp Q R hq B S
   subst Q;subst R;subst S
   simp only[OO,bm h1,cx,yD hd hp N w,yD hd hp O w,bI,hq,np]
   cases q with
   |false=>rfl
   |true=>simpa using ih t B
  cases A:P.underlying f.type with
  |none=>rw[A]at h3;cases h3
  |some d=>
   rw[A]at h3;cases x<;>cases y<;>simp only[Wv]at m<;>try (cases m;done)
   ·rename_i U Y X n2;split at m
    ·rename_i M;subst M;split at m
     ·rename_i t B;cases m;have hk:k=.i U:=z.1.symm;subst hk;cases d<;>simp at h3;subst h3;exact fin A rfl rfl rfl (run_equalIn_int w 9998 f.type _ _ _ _ A) B rfl
     ·cases m
    ·cases m
   ·split at m
    ·rename_i t B;cases m;have hk:k=.b:=z.1.symm;subst hk;cases d<;>simp at h3;exact fin A rfl rfl rfl (run_equalIn_bool' w 9998 f.type _ _ A) B rfl
    ·cases m
   ·split at m
    ·rename_i t B;cases m;have hk:k=.s:=z.1.symm;subst hk;cases d<;>simp at h3;exact fin A rfl rfl rfl (run_equalIn_string w 9998 f.type _ _ A) B rfl
    ·cases m
 |[],_::_,_,_,_,_,_,h,_,_,_,_=>by cases h
 |_::_,[],_,_,_,_,_,h,_,_,_,_=>by cases h
 |_::_,_::_,_,_,[],_,_,_,_,z,_,_=>by cases z
 |_::_,_::_,_,_,_::_,[],_,_,_,_,C,_=>by cases C
def adJ(h:rows.all (YB P)=ao)(h2:eqs.all (ZQ P rows)=ao):eB P (U3 rows eqs):=by
 have key:∀t ti,Bq rows t=ai ti->∃r,r.t=t/\r.ti=ti/\YB P r=ao/\∀f,Eh rows t f=(bif r.ti.agg then r.fs[f]? else ay):=λt ti N=>by obtain⟨r,h1,h2,h3,h4⟩:=JO N;exact⟨r,h2,h3,bE.1 h r h1,h4⟩
 have m:∀r,YB P r=ao->∃j d,P.info? r.t=ai j/\P.underlying r.t=ai d/\j.size=r.ti.ks.length/\j.bytes=r.ti.bytes/\0<r.ti.ks.length/\
   (Li r.ti.ks=ao->∃z,j.zero=ai z/\z.cells.toList=r.ti.ks.map iM/\(r.ti.agg=ao->isAgg z=ao))/\
   ((∃fs,d=.struct fs/\r.ti.agg=ao/\yf P r.ti.ks.length fs.toList r.fs=ao)\/(r.ti.agg=aq/\((∃k,r.ti.ks=[.i k]/\d=.int k)\/(r.ti.ks=[.b]/\d=.bool)\/(r.ti.ks=[.s]/\d=.string)\/(∃e,r.ti.ks=[.l e]/\d=.slice e)\/(r.ti.ks=[.o]/\sB d=ao)))):=by
  intro r A
  unfold YB at A
  split at A
  ·rename_i j d h1 h2;simp only[aM]at A;obtain⟨⟨⟨⟨Y,k2⟩,k3⟩,k4⟩,B⟩:=A;refine⟨j,d,h1,h2,aX Y,aX k2,by simpa [tz]using k3,λC=> ?_,?_⟩
   ·rw[C,au]at k4;split at k4
    ·rename_i z hz;simp only[aM,dN,di]at k4;exact⟨z,hz,Vj k4.1,λK=>by rcases k4.2 with h|h;(·rw[K]at h;cases h);exact h⟩
    ·cases k4
   ·cases d<;>simp only[aM,di]at B;case struct fs=>exact .inl ⟨fs,rfl,B⟩
    case int k=>exact .inr ⟨B.1,.inl ⟨k,n8 B.2,rfl⟩⟩
    case bool=>exact .inr ⟨B.1,.inr (.inl ⟨n8 B.2,rfl⟩)⟩
    case string=>exact .inr ⟨B.1,.inr (.inr (.inl ⟨n8 B.2,rfl⟩))⟩
    case slice e=>exact .inr ⟨B.1,.inr (.inr (.inr (.inl ⟨e,n8 B.2,rfl⟩)))⟩
    all_goals exact .inr ⟨B.1.1,.inr (.inr (.inr (.inr ⟨n8 B.1.2,B.2⟩)))⟩
  ·cases A
 refine⟨λt ti N=> ?_,λt ti N=> ?_,λt f o n M=>Np M,λt ti N K fs Q=> ?_,λt ti V N w x y xs ys r A hx hy=> ?_,λ_ _ h=>by cases h⟩
 ·obtain⟨r,rfl,rfl,A,_⟩:=key t ti N;obtain⟨j,d,h1,h2,h3,h4,U,h6,S⟩:=m r A;refine⟨j,h1,h3,h4,U,λC=> ?_⟩
  obtain⟨z,z1,z2,z3⟩:=h6 C;have hc:z.cells=(r.ti.ks.map iM).toArray:=by rw[<-z2]
  refine⟨z,z1,hc,λK=> ?_⟩
  have:=z3 K;cases z<;>simp[isAgg]at this;rw[show _=_ from hc.symm];rfl
 ·obtain⟨r,rfl,rfl,A,u⟩:=key t ti N;obtain⟨j,d,h1,h2,h3,h4,U,h6,S⟩:=m r A;refine⟨d,h2,λK=> ?_,λK=> ?_⟩
  ·rcases S with ⟨fs,rfl,_,O⟩|⟨C,_⟩
   ·refine⟨fs,rfl,λf o n M=> ?_⟩
    have M:Eh rows r.t f=ai (o,n):=M;rw[u,K]at M;obtain⟨fd,Y,k2⟩:=(wu O).2 f o n M;exact⟨fd,by simpa using Y,k2⟩
   ·rw[K]at C;cases C
  ·rcases S with ⟨fs,_,C,_⟩|⟨_,h|h|h|h|⟨h,O⟩⟩
   ·rw[K]at C;cases C
   ·exact .inl h
   ·exact .inr (.inl h)
   ·exact .inr (.inr (.inl h))
   ·exact .inr (.inr (.inr (.inl h)))
   ·refine .inr (.inr (.inr (.inr ⟨h,?_⟩)));cases d<;>first|rfl|cases O
 ·obtain⟨r,rfl,rfl,A,u⟩:=key t ti N;obtain⟨j,d,h1,h2,h3,h4,U,h6,S⟩:=m r A;rw[h2]at Q;cases Q;rcases S with ⟨h9,V,_,O⟩|⟨C,_⟩
  ·cases V;refine⟨r.fs,(wu O).1,λf o n M=> ?_⟩
   have M:Eh rows r.t f=ai (o,n):=M;rw[u,K]at M;exact M
  ·rw[K]at C;cases C
 ·have hm:t∈eqs:=by
   have:∀l:aE aN,mJ t l=ao->t∈l:=by
    intro l;induction l with
    |nil=>intro h;cases h
    |cons a l ih=>
     intro h;simp only[mJ,dN]at h;rcases h with h|h
     ·rw[aX h];exact cQ
     ·exact cK _ (ih h)
   exact this _ V
  have O:=bE.1 h2 t hm;simp only[ZQ,aM,di]at O;obtain⟨⟨b1,b2⟩,R⟩:=O;rw[show Bq rows t=ai ti from N]at R;cases Q:P.underlying t with
  |none=>rw[Q]at R;cases R
  |some d=>
   rw[Q]at R;cases d<;>try (cases R;done)
   rename_i fs;have u:P.fieldsOf t=fs:=by unfold Program.fieldsOf;rw[Q]
   have X:P.underlying t=ai (.struct (P.fieldsOf t)):=by rw[u];exact Q
   have key:(Op.equalIn 10000 t (.agg (xs.map l_).toArray) (.agg (ys.map l_).toArray)).run P w=.ok r w:=by rw[run_equalIn_agg w 9999 t _ _ X b2,u];exact AM w fs.toList ti.ks [] [] xs ys r R rfl hx hy A
   refine⟨?_,?_⟩
   ·simp only[cx,run_eqGuard_agg w .eql t x y _ _ b1,bI,run_eql_struct,key]
   ·simp only[cx,run_eqGuard_agg w .neq t x y _ _ b1,bI,run_neq_struct,key]
def akJ(rows:aE tN)(eqs:aE aN)(VD:aE (aN×aN)):Tab:={U3 rows eqs with VD:=λt f=>VD.any λp=>bN t p.1&&bN f p.2}
def flB(P:dx)(p:aN×aN):aZ:=
 match P.underlying p.1 with
 |some (.struct fs)=>(match fs[p.2]? with|some f=>(match P.underlying f.type with|some d=>sB d|none=>aq)|none=>aq)
 |_=>aq
def adq(h:P.underlying t=ai d)(f:sB d=ao)(w:cN):(Go.isAgg t).run P w=.ok aq w:=by unfold Go.isAgg;rw[cx,run_underlying h,bI];cases d<;>first|rfl|cases f
def Wt(h:eB P (U3 rows eqs))(k:VD.all (flB P)=ao):eB P (akJ rows eqs VD):=by
 refine⟨h.info,h.desc,h.fo,h.pl,h.eq,λt f hq fs r m hd w=> ?_⟩
 obtain⟨p,hp,j⟩:=List.any_eq_true.1 (show(VD.any λp=>bN t p.1&&bN f p.2)=ao from hq);rw[aM]at j;have i:=bE.1 k p hp;unfold flB at i;rw[<-aX j.1,<-aX j.2,m]at i;dsimp only at i;rw[hd]at i;dsimp only at i;split at i
 ·rename_i d h2;exact adq h2 i w
 ·cases i
end Go.FG
namespace Go.FG
open Go.RowKit Go.ChangeShapes
inductive rR (T:Tab):CV->Prop
 |i (k n):(Lit.int k n).wf=ao->rR T (.i k n)
 |b (x):rR T (.b x)
 |s (x:ar):x.size<=140737488351232->rR T (.s x)
 |l (e xs ti):T.ty e=ai ti->xs.length*ti.bytes<=140737488351232->(∀y∈xs,y.map CV.kd=ti.ks)->(∀y∈xs,∀x∈y,rR T x)->rR T (.l e xs)
def PA(P:dx)(g:aN->aG (aE Ck)):aE Field->aN->aG (aE Ck)
 |[],_=>ai []
 |f::r,off=>match g f.type with
  |some ks=>bif bN f.offset off&&bN (P.cellsOf f.type) ks.length then(match PA P g r (off+ks.length)with|some l=>ai (ks++l)|none=>ay)else ay
  |none=>ay
def Pz(P:dx)(T:Tab):aN->aN->aG (aE Ck)
 |0,_=>ay
 |n+1,t=>match P.underlying t with
  |some (.int k)=>ai [.i k]
  |some .bool=>ai [.b]
  |some .string=>ai [.s]
  |some (.slice e)=>match T.ty e,Pz P T n e with
   |some te,ai ks=>bif qJ ks te.ks&&bN te.bytes (P.bytesOf e)&&bN (P.cellsOf e) ks.length&&oE 0 ks.length then ai [.l e]else ay
   |_,_=>ay
  |some (.struct fs)=>match PA P (Pz P T n) fs.toList 0 with
   |some ks=>bif bN (P.cellsOf t) ks.length then ai ks else ay
   |none=>ay
  |_=>ay
def Ix:CV->AA
 |.i k n=>.i k n|.b x=>.b x|.s x=>.s x|.l e xs=>.sh e xs
section
variable {H:Type} {enc:TypeId×bS->H} {P:dx} {T:Tab} {w:cN}
def wP(w:cN):aN->Prop:=λb=>b<w.heap.size
structure wR (T:Tab) (w:cN) (cs:aE bS) (off:aN) (ys:aE CV) (ks:aE Ck):Prop where
 kd:ys.map CV.kd=ks
 at_:∀(j:aN) (y:CV),ys[j]? =ai y->∃v,cs[off+j]? =ai v/\Holds T w (wP w) v y
 fine:∀y∈ys,rR T y
def addr_add(a:Addr)(m k:aN):(a.add m).add k=a.add (m+k):=by
 unfold Addr.add;by_cases h1:m=0<;>by_cases h2:k=0
 ·simp[h1,h2]
 ·simp[h1,h2]
 ·simp[h1,h2]
 ·simp[h1,h2,kc]
def ado(b o n:aN):(ad b o).add n=ad b (o+n):=by unfold Addr.add;by_cases h:n=0<;>simp[h]
def AK{α:Type}{p:aN->α->Prop}:∀n:aN,(∀i,i<n->∃y,p i y)->∃xs:aE α,xs.length=n/\∀(i:aN) (y:α),xs[i]? =ai y->p i y
 |0,_=>⟨[],rfl,λi y h=>by simp at h⟩
 |n+1,h=>by
  obtain⟨xs,h1,h2⟩:=AK n (λi hi=>h i (by omega));obtain⟨y,f⟩:=h n (by omega);refine⟨xs++[y],by simp[h1],λi z d=> ?_⟩
  rcases rL i xs.length with hi|hi
  ·rw[dz hi]at d;exact h2 i z d
  ·rw[de hi]at d;have:i-xs.length=0:=by
    rcases DP (i-xs.length)with h|h
    ·exact h
    ·rw[ll (by simp;omega)]at d;cases d
   rw[this]at d;cases d;have:i=n:=by omega
   subst this;exact f
def uq(hk:y.kd=k)(i:Holds T w (wP w) v y)(h:rR T y):wR T w [v] 0 [y] [k] where
 kd:=by simp[hk]
 at_ j m d:=by
  cases j with
  |zero=>cases d;exact⟨v,rfl,i⟩
  |succ j=>simp at d
 fine m f:=by rw[a7]at f;subst f;exact h
def uG:∀{ds:aE (DataW H)} {i:aN} {d:DataW H},ds[i]? =ai d->∀n∈d.weights P e,n∈AB P e ds
 |[],_,_,h,_,_=>by simp at h
 |d0::ds,0,d,h,n,f=>by cases h;simp only[AB,a_];exact .inl f
 |d0::ds,i+1,d,h,n,f=>by simp only[AB,a_];exact .inr (uG (ds:=ds) (i:=i) h n f)
def O9
  (hg:∀t ks,g t=ai ks->∀(d:aN) (cs:aE bS) (x:DataW H×aE MemPlace) sp hd,DM enc P w 0 sp hd d t cs=ai x->(∀m∈x.1.weights P t,m<=reachBytes)->cs.length=P.cellsOf t->∃X,wR T w cs 0 X ks):
  ∀(fs:aE Field) (off:aN) (ks:aE Ck),PA P g fs off=ai ks->off+ks.length<=cs.length->∀(xs:aE (DataW H×aE MemPlace)) (d:aN) sp hd,xs.length=fs.length->
   (∀(i:aN) (f:Field),fs[i]? =ai f->DM enc P w 0 sp hd d f.type ((cs.drop f.offset).take (P.cellsOf f.type))=xs[i]?)->
   (∀(i:aN) (f:Field) x,fs[i]? =ai f->xs[i]? =ai x->∀m∈x.1.weights P f.type,m<=reachBytes)->∃X,wR T w cs off X ks:=by
 intro fs;induction fs with
 |nil=>intro off ks h _ xs d sp hd _ _ _;cases h;exact⟨[],⟨rfl,λj y u=>by simp at u,λy s=>by cases s⟩⟩
 |cons f fs ih=>
  intro off ks h B xs d sp hd N C M;unfold PA at h;cases k:g f.type with
  |none=>rw[k]at h;cases h
  |some z=>
   rw[k]at h;dsimp only at h;cases A:(bN f.offset off&&bN (P.cellsOf f.type) z.length)with
   |false=>rw[A]at h;cases h
   |true=>
    rw[A,au]at h;simp only[aM]at A;have e1:=aX A.1;have e2:=aX A.2;cases V:PA P g fs (off+z.length)with
    |none=>rw[V]at h;cases h
    |some Y=>
     rw[V]at h;have h:z++Y=ks:=by injection h
     subst h;rw[bU]at B;cases xs with
     |nil=>simp at N
     |cons x xs=>
      have h0:=C 0 f rfl;rw[show(x::xs)[0]? =ai x from rfl]at h0;obtain⟨Q,O⟩:=hg _ _ k d _ x sp hd h0 (M 0 f x rfl rfl) (by rw[dG,g_];omega);obtain⟨y2,R⟩:=ih (off+z.length) Y V (by omega) xs d sp hd (by simpa using N) (λi f' S=>C (i+1) f' S) (λi f' x' S hx=>M (i+1) f' x' S hx);have h5:Q.length=z.length:=by rw[<-O.kd,bK]
      refine⟨Q++y2,⟨by rw[cT,O.kd,R.kd],λj y u=> ?_,λy s=> ?_⟩⟩
      ·rcases rL j Q.length with r|r
       ·rw[dz r]at u;obtain⟨v,K,U⟩:=O.at_ j y u;refine⟨v,?_,U⟩
        rw[bV,ej,bm (by omega),eh,e1]at K;exact K
       ·rw[de r]at u;obtain⟨v,K,U⟩:=R.at_ _ y u;refine⟨v,?_,U⟩
        rw[show off+z.length+(j-Q.length)=off+j by omega]at K;exact K
      ·rcases a_.1 s with s|s
       ·exact O.fine y s
       ·exact R.fine y s
def Dd(hE:eB P T):∀(n t:aN) (ks:aE Ck),Pz P T n t=ai ks->∀(O:aN) (cs:aE bS) (x:DataW H×aE MemPlace) sp hd,DM enc P w 0 sp hd O t cs=ai x->(∀m∈x.1.weights P t,m<=reachBytes)->cs.length=P.cellsOf t->∃ys,wR T w cs 0 ys ks:=by
 intro n;induction n with
 |zero=>intro t ks h;cases h
 |succ n ih=>
  intro t ks h O cs x sp hd A K h5;unfold Pz at h;split at h
  ·rename_i k u;cases h;obtain⟨m,rfl,rfl,hr⟩:=DataW.trod_int u A;exact⟨[.i k m],uq rfl (.i _ _) (.i _ _ hr)⟩
  ·rename_i u;cases h;obtain⟨m,rfl,rfl⟩:=DataW.trod_bool u A;exact⟨[.b m],uq rfl (.b _) (.b _)⟩
  ·rename_i u;cases h;obtain⟨m,rfl,rfl,x5⟩:=DataW.trod_string u A;have hz:m.size<=140737488351232:=by have:=K m.data.toList.length (by simp[v7]);rw[dM]at this;exact this
   exact⟨[.s m],uq rfl (.s _ (show m.size<=4611686018427387904 by omega)) (.s _ hz)⟩
  ·rename_i e u;split at h
   ·rename_i te ke X ho;cases hb:(qJ ke te.ks&&bN te.bytes (P.bytesOf e)&&bN (P.cellsOf e) ke.length&&oE 0 ke.length)with
    |false=>rw[hb]at h;cases h
    |true=>
     rw[hb]at h;cases h;simp only[aM]at hb;obtain⟨⟨⟨b1,b2⟩,b3⟩,b4⟩:=hb;have e1:=n8 b1;have e2:=aX b2;have e3:=aX b3;have e4:0<ke.length:=by simpa [tz]using b4
     subst e1;rcases DataW.trod_slice u A with ⟨rfl,rfl⟩|⟨a,len,cap,r,rest,m,rfl,rfl,rfl,_,x4,he,hn,h9,_,_⟩
     ·exact⟨[.l e []],uq rfl (.nl _ _ _) (.l e [] te X (by simp) (λy N=>by cases N) (λy N=>by cases N))⟩
     ·have ht:len*te.bytes<=140737488351232:=by have:=K ((r.length+rest.length)*P.bytesOf e) (by simp[v7,u]);rw[<-e2,hn]at this;have h2:len*te.bytes<=(len+rest.length)*te.bytes:=b9 _ (by omega);exact ca h2 this
      have one:∀i,i<len->∃ys:aE CV,(∀(j:aN) (y:CV),ys[j]? =ai y->∃v,w.cell? (a.add (i*te.ks.length+j))=ai v/\Holds T w (wP w) v y)/\ys.map CV.kd=te.ks/\∀y∈ys,rR T y:=by
       intro i hi;have h1:=h9 i hi;have h7:i<r.length:=by omega
       rw[fC h7]at h1;cases hc:w.cells? 0 (a.add (i*P.cellsOf e)) (P.cellsOf e)with
       |none=>rw[hc]at h1;cases h1
       |some cs=>
        rw[hc]at h1;have h1:DM enc P w 0 sp hd m e cs=ai r[i]:=h1;obtain⟨_,h5,Q⟩:=World.cells?_some hc;obtain⟨ys,c⟩:=ih e te.ks ho m cs _ sp hd h1 (λz hz=>K z (by simp only[v7,u,cF,a_];exact .inr (.inl (uG (i:=i) (d:=r[i].1) (by simp[h7]) z hz)))) h5;refine⟨ys,λj y S=> ?_,c.kd,c.fine⟩
        obtain⟨v,C,hh⟩:=c.at_ j y S;rw[bV]at C;have x3:=(aW.1 C).1;have:=Q j (by omega);rw[C]at this;refine⟨v,?_,hh⟩
        rw[<-e3];rw[<-addr_add];exact this
      obtain⟨xs,M,Y⟩:=AK len one;have R:rR T (.l e xs):=by
       refine .l e xs te X (by rw[M];exact ht) (λy N=> ?_) (λy N=> ?_)
       ·obtain⟨i,hi⟩:=b5 N;exact(Y i y hi).2.1
       ·obtain⟨i,hi⟩:=b5 N;exact(Y i y hi).2.2
      refine⟨[.l e xs],uq rfl ?_ R⟩
      rcases DP len with h0|h0
      ·have:xs=[]:=eU (by omega);subst this;rw[h0];exact .nl _ _ _
      ·have x0:xs[0]? =ai xs[0]:=by rw[fC (by omega)]
       obtain⟨c0,k0,_⟩:=Y 0 _ x0;have x1:0<(xs[0]).length:=by rw[<-bK (f:=CV.kd),k0];exact e4
       obtain⟨v0,B,_⟩:=c0 0 _ (fC x1);obtain⟨b,o,s⟩:=a;have hs:s=ay/\b<w.heap.size:=by
        unfold OQ at B;have e0:(Addr.mk b o s).add (0*te.ks.length+0)=⟨b,o,s⟩:=by simp[Addr.add]
        rw[e0]at B;split at B
        ·rename_i hh;refine⟨?_,(dD.1 hh).1⟩
         cases s with
         |none=>rfl
         |some s=>simp at B
        ·cases B
       obtain⟨rfl,ha⟩:=hs;let U:aN->aN->bS:=λi j=>(w.cell? (ad b (o+i*te.ks.length+j))).getD undef;have av:∀i j y z,xs[i]? =ai y->y[j]? =ai z->w.cell? (ad b (o+i*te.ks.length+j))=ai (U i j)/\Holds T w (wP w) (U i j) z:=by
        intro i j y z hi S;obtain⟨v,C,hh⟩:=(Y i y hi).1 j z S;have C:w.cell? ((ad b o).add (i*te.ks.length+j))=ai v:=C;rw[ado,<-kc]at C;have:U i j=v:=by simp only[U,C];rfl
        rw[this];exact⟨C,hh⟩
       rw[<-M];exact .l e xs b o cap te U X (by omega) he ha (λy N=>by obtain⟨i,hi⟩:=b5 N;exact(Y i y hi).2.1) (λi j y z hi S=>(av i j y z hi S).1) (λi j y z hi S=>(av i j y z hi S).2)
   ·cases h
  ·rename_i fs u;obtain⟨xs,m,rfl,rfl,x2,M,hf⟩:=DataW.trod_struct u A;cases V:PA P (Pz P T n) fs.toList 0 with
   |none=>rw[V]at h;cases h
   |some x6=>
    rw[V]at h;obtain⟨hb,rfl⟩:=EL h;refine O9 ih fs.toList 0 _ V ?_ xs m sp hd (by simpa using M) (λi f hi=>hf i f (by simpa using hi)) (λi f x hi Y z hz=>K z ?_)
    ·have:=aX hb;omega
    ·simp only[v7,u];refine DataW.weights_mem_each (j:=i) (t:=f.type) (d:=x.1) ?_ ?_ z hz
     ·rw[bJ,hi];rfl
     ·rw[bJ,Y];rfl
  ·cases h
end
end Go.FG
namespace Go.FG
open Go.RowKit Go.ChangeShapes
def ou(T:Tab):aE aN->aE (aE CV)->aE gD
 |t::ts,f::d=>gD.v (match T.ty t with|some ti=>ti.agg|none=>aq) (f.map Ix)::ou T ts d
 |_,_=>[]
def po(T:Tab):aE aN->aE (aE CV)->Prop
 |[],[]=>True
 |t::ts,f::d=>(∃ti,T.ty t=ai ti/\f.map CV.kd=ti.ks)/\(∀y∈f,rR T y)/\po T ts d
 |_,_=>False
def PU(P:dx)(T:Tab)(n:aN)(t:aN):aZ:=
 match T.ty t,Pz P T n t,P.underlying t with
 |some ti,ai ks,ai d=>qJ ks ti.ks&&(match d with|.struct _=>ti.agg|.array _ _=>aq|_=> !ti.agg)&&P.readableRec t&&ah (t<P.types.size)
 |_,_,_=>aq
def adm(d:∀b,wP w b->c.K b)(h:Holds T w (wP w) v y)(nm:aN):eI T w c (lF nm (Ix y)) v:=by
 have h:Holds T w c.K v y:=h.frame (λ_ _=>rfl) d;cases y with
 |i k n=>cases h;rfl
 |b x=>cases h;rfl
 |s x=>cases h with|s _ f=>exact⟨rfl,f⟩
 |l e xs=>exact h
section
variable {H:Type} {enc:TypeId×bS->H} {P:dx} {T:Tab} {w:cN}
def adu(hE:eB P T)(hp:PU P T n t=ao)(O:sR P w .any base t v)(h:DataW.Trod enc P w 0 sp hd t v d ps)(hw:∀m∈d.weights P t,m<=reachBytes):
  ∃r:aE CV,(∃ti,T.ty t=ai ti/\r.map CV.kd=ti.ks)/\(∀y∈r,rR T y)/\∀c:gQ,(∀b,wP w b->c.K b)->∀p,jb T w c (sW p (gD.v (match T.ty t with|some ti=>ti.agg|none=>aq) (r.map Ix))) v:=by
 unfold PU at hp;split at hp
 ·rename_i ti ks dd Q hl X;simp only[aM]at hp;obtain⟨⟨⟨h1,h2⟩,_⟩,_⟩:=hp;have e1:=n8 h1;subst e1;obtain⟨A,N⟩:=h;obtain⟨ho,hi,h7,_⟩:=hE.info t ti Q;have U:P.cellsOf t=ti.ks.length:=by unfold Program.cellsOf;rw[hi];exact h7
  have cell:∀(r:aE CV) (cs:aE bS),wR T w cs 0 r ti.ks->∀c:gQ,(∀b,wP w b->c.K b)->∀(p j:aN) (a:AV),(gC (dU p 0) (r.map Ix))[j]? =ai a->∃u:bS,cs[j]? =ai u/\eI T w c a u:=by
   intro r cs z c R p j a C;rw[iD,bJ]at C;cases hy:r[j]? with
   |none=>rw[hy]at C;cases C
   |some y=>rw[hy]at C;cases C;obtain⟨u,s,hh⟩:=z.at_ j y hy;rw[bV]at s;exact⟨u,s,adm R hh _⟩
  cases x:ti.agg with
  |true=>
   have M:∃fs,dd=.struct fs:=by cases dd<;>simp[x]at h2;exact⟨_,rfl⟩
   obtain⟨fs,rfl⟩:=M;unfold sR at O;rw[X]at O;obtain⟨cs,rfl,S,_⟩:=O;obtain⟨r,z⟩:=Dd hE n t ti.ks hl A cs.toList (d,ps) sp hd N hw (by simpa using S);refine⟨r,⟨ti,Q,z.kd⟩,z.fine,λc R p=> ?_⟩
   rw[Q];show qG T w c ti.agg (gC (dU p 0) (r.map Ix)) _;rw[x];refine⟨cs,rfl,?_,λj a C=> ?_⟩
   ·rw[iR,bK,S,U,<-z.kd,bK]
   ·obtain⟨u,s,Y⟩:=cell r cs.toList z c R p j a C;exact⟨u,by simpa using s,Y⟩
  |false=>
   have M:∀fs,dd≠ .struct fs:=by intro fs B;subst B;simp[x]at h2
   have h5:∀m e,dd≠ .array m e:=by intro m e B;subst B;cases h2
   have i:Cell.okWide P w .any base t v:=by
    unfold sR at O;rw[X]at O;split at O
    ·rename_i fs B;cases B;exact cO rfl (M fs)
    ·rename_i m e B;cases B;exact cO rfl (h5 m e)
    ·exact O
   have V:v.cells= #[v]:=by
    cases v<;>first|rfl|skip
    rename_i cs;exfalso;unfold Cell.okWide at i;rw[X]at i;cases dd<;>simp[Cell.ok,X]at i
   obtain⟨hb,hf,_,hn⟩:=hE.desc t ti Q;have h1:ti.ks.length=1:=by rcases hn x with ⟨k,h,_⟩|⟨h,_⟩|⟨h,_⟩|⟨e',h,_⟩|⟨h,_⟩<;>simp[h]
   rw[V]at N;obtain⟨r,z⟩:=Dd hE n t ti.ks hl A [v] (d,ps) sp hd N hw (by rw[U,h1];rfl);have h9:r.length=1:=by rw[<-bK (f:=CV.kd),z.kd,h1]
   obtain⟨y,rfl⟩:=fW.1 h9;refine⟨[y],⟨ti,Q,z.kd⟩,z.fine,λc R p=> ?_⟩
   rw[Q];show qG T w c ti.agg [lF (dU p 0) (Ix y)] _;rw[x];obtain⟨u,s,Y⟩:=cell [y] [v] z c R p 0 _ rfl;cases s;exact Y
 ·cases hp
def Wj(hE:eB P T):∀{ts:aE aN} {vs:aE bS} {ds:aE (DataW H)} {ps:aE MemPlace},ts.all (PU P T n)=ao->
  EB enc P w 0 sp hd ts vs ds ps->(∀(j:aN) t v,ts[j]? =ai t->vs[j]? =ai v->sR P w .any base t v)->(∀m∈na P ts ds,m<=reachBytes)->
  ∃f,po T ts f/\vs.length=(ou T ts f).length/\ds.length=ts.length/\∀c:gQ,(∀b,wP w b->c.K b)->∀(q p:aN) (x:gD),(ou T ts f)[p]? =ai x->∃v,vs[p]? =ai v/\jb T w c (sW (q+p) x) v:=by
 intro ts;induction ts with
 |nil=>intro vs ds ps _ h _ _;obtain⟨rfl,rfl,rfl⟩:=trodAll_nil h;exact⟨[],trivial,rfl,rfl,λc _ q p x h=>by simp[ou]at h⟩
 |cons t ts ih=>
  intro vs ds ps hp h i hw;simp only[iS,aM]at hp;obtain⟨v,vs,d,ds,p,q,rfl,rfl,rfl,h0,r0⟩:=trodAll_cons h;obtain⟨C,z,A,B⟩:=adu hE hp.1 (i 0 t v rfl rfl) h0 (λm hm=>hw m (by simp only[na,a_];exact .inl hm));obtain⟨f,M,N,Q,O⟩:=ih hp.2 r0 (λj t v s u=>i (j+1) t v s u) (λm hm=>hw m (by simp only[na,a_];exact .inr hm));refine⟨C::f,⟨z,A,M⟩,by simp[ou,N],by simp[Q],λc k q p x r=> ?_⟩
  cases p with
  |zero=>cases r;exact⟨v,rfl,B c k q⟩
  |succ p=>obtain⟨y,h1,h2⟩:=O c k (q+1) p x r;exact⟨y,h1,by rw[show q+(p+1)=q+1+p by omega];exact h2⟩
def n7:∀{ts:aE aN} {d:aE (aE CV)},inj (ou T ts d) (dj m)≠ .o ob:=by
 intro ts d h;obtain⟨p,a,h0,k⟩:=B6 h;have:∀(ts:aE aN) (d:aE (aE CV)) (p:aN) (a:gD),(ou T ts d)[p]? =ai a->∃(g:aZ) (f:aE CV),a=.v g (f.map Ix):=by
  intro ts;induction ts with
  |nil=>intro d p a h;simp[ou]at h
  |cons t ts ih=>
   intro d p a h;cases d with
   |nil=>simp[ou]at h
   |cons f d=>
    cases p with
    |zero=>cases h;exact⟨_,f,rfl⟩
    |succ p=>exact ih d p a h
 obtain⟨g,f,rfl⟩:=this _ _ _ _ h0;rcases k with ⟨xs,h1,_⟩|⟨xs,j,e,ex,zs,h1,h2,_⟩
 ·cases h1
 ·have h1:f.map Ix=xs:=by rcases h1 with ⟨r,h1⟩|h1<;>cases h1;rfl
  subst h1;rw[bJ]at h2;cases i:f[j]? with
  |none=>rw[i]at h2;cases h2
  |some y=>rw[i]at h2;cases y<;>cases h2
def HQ(hl:laidOutB P=ao)(m:Below w.heap.size w k):∀{ts:aE aN} {vs:aE bS} {ds:aE (DataW H)} {ps:aE MemPlace},ts.all (PU P T n)=ao->EB enc P w 0 (λ_=>ao) ao ts vs ds ps->(∀x∈ps,x.block<w.heap.size)->
  EB enc P k 0 (λb=>ah (b<w.heap.size)) ao ts vs ds ps:=by
 intro ts;induction ts with
 |nil=>intro vs ds ps _ h _;obtain⟨rfl,rfl,rfl⟩:=trodAll_nil h;exact h
 |cons t ts ih=>
  intro vs ds ps hp h i;simp only[iS,aM]at hp;obtain⟨v,vs,d,ds,p,q,rfl,rfl,rfl,h0,r0⟩:=trodAll_cons h;have f:=hp.1;unfold PU at f;split at f
  ·simp only[aM]at f;exact⟨p,q,Below.trod hl f.1.2 (by simpa using f.2) h0 m (λx j=>i x (bZ _ j)),ih hp.2 r0 (λx j=>i x (bR _ j)),rfl⟩
  ·cases f
end
def Hf{H:Type}{enc:TypeId×bS->H}{C:Checked}{T:Tab}(hE:eB C.prog T)(hl:laidOutB C.prog=ao){g tb n:aN}{fn:Func}{z:aE gD->aG (aZ×iO)}(hF:lI C.prog T g z){s:ChangeSpec}
  (y:fn.params.toList.all (PU C.prog T n)=ao) (O:fn.resultTypes= #[tb]) (hh:C.prog.underlying tb=ai .bool) (d:s.vars=[])
  (h5:∀ds:aE (DataW H),ds.length=fn.params.toList.length->s.fn H ds={results:=[.lit (.bool ao)],args:=ds})
  (claim:∀r,po T fn.params.toList r->z (ou T fn.params.toList r)=ai (ao,⟨[.v aq [.b ao]],[]⟩))
  (W:cN) (base:aN) (args:eN bS) (ds gs:aE (DataW H)) (u:aE MemPlace)
  (Q:∀(j:aN) t v,fn.params[j]? =ai t->args[j]? =ai v->sR C.prog W .any base t v)
  (hW:DataW.Whole enc C.prog fn.params.toList s.vars aq W args.toList ds gs u)
  (K:(na C.prog (fn.params.toList++s.plain.varTypes C.prog) (ds++gs)).all (·<=reachBytes)=ao) (h7:T.gp.f W (wP W)):
  Calls C.prog g args W λe S=>∃v,e=.returned v/\s.post enc C.prog fn aq ao aq aq W args v S:=by
 have M:=hW;obtain⟨p,q,hA,X,rfl,ho,hr⟩:=hW;have ha:=M.lt;rw[d]at X;have h9:gs=[]/\q=[]:=by
  cases gs with
  |nil=>exact⟨rfl,X⟩
  |cons=>exact X.elim
 obtain⟨rfl,rfl⟩:=h9;have hw:∀m∈na C.prog fn.params.toList ds,m<=reachBytes:=by
  intro m hm;rw[d_]at K;have e:s.plain.varTypes C.prog=[]:=by unfold DataSpec.varTypes ChangeSpec.plain;simp[d]
  rw[e,d_]at K;have:=bE.1 K m hm;simpa using this
 obtain⟨r,hn,N,Y,A⟩:=Wj hE y hA (λj t v hj hv=>Q j t v (by simpa using hj) (by simpa using hv)) hw;let nl:Pl:=⟨ao,0,0,0,0,0⟩
 let U:gQ:=⟨λ_=>nl,λ_ _ _=>nl,wP W⟩
 have he:Ok T (inj (ou T fn.params.toList r)) W U:=⟨λnm o h=>cO h n7,λnm o ht o' b h=>cO h n7,λnm o b h=>cO h n7,λb R=>R,λnm xs h=>cO h n7,h7⟩
 obtain⟨_,hc⟩:=hF _ _ (claim r hn) W U args he (by rw[<-N];simp) (λp x hx=>by obtain⟨v,h1,h2⟩:=A U (λ_ h=>h) 0 p x hx;rw[bV]at h2;exact⟨v,by simpa using h1,h2⟩);refine hc.mono λe S V=> ?_;cases e with
 |panicked=>exact V.elim
 |outgrown=>exact V.elim
 |returned v=>
  obtain⟨c3,_,i,_,hf⟩:=V;have hv:v=.bool true:=hf;subst hv;have R:Below W.heap.size W S:=⟨i.os,i.tape,i.output,i.size,λk hk=>i.same k hk (λ⟨nm,o,h,_⟩=>n7 h)⟩
  have B:=h5 ds Y;refine⟨_,rfl,ds,[],_,[],p,[],M,?_,?_,?_,R.frame _,λh=>by cases h⟩
  ·rw[d_,B,O];exact trodAll_mk1 (shut_bool hh _)
  ·rw[d_,B];exact HQ hl R y hA (λx hx=>ha x (bZ _ hx))
  ·rw[d_,B,d];rfl
end Go.FG
