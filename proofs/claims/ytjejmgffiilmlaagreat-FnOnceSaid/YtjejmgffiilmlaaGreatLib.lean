/- Plain facts on numbers, texts and lists. No condition. -/
import Derived.Test.YtjejmgffiilmlaaGreatCorec
set_option linter.unusedVariables false
set_option linter.unusedSimpArgs false
set_option maxRecDepth 100000
open Bool renaming false->aq,true->ak,true_and->bj,and_eq_true->aK,and_true->pc
open Go.IntKind renaming i64->ar
open List renaming getD->jt,beq->dg,takeWhile_cons_of_pos->pI,takeWhile_cons_of_neg->pH,length_cons->c7,length_nil->ju,length->bW,takeWhile_append_dropWhile->mJ,length_append->bP,filter_cons_of_pos->dx,filter_cons_of_neg->cm,drop_length->dq,range->cO,range'->lI,all_cons->rW,range_eq_range'->PH,range_succ->TD,all_append->Aj,drop_eq_getElem_cons->dJ,any_eq_false->Ak,getElem_of_mem->da,getElem_mem->bD,set->aE,take_succ_eq_append_getElem->c8,map_append->dm,getElem?_append_right->c6,getElem?_eq_getElem->eI,append_assoc->cj,append_nil->dn,take_of_length_le->iK,drop_zero->fB,pairwise_cons->p9,filter_eq_nil_iff->Iw,filter_eq_self->eN
open Nat renaming zero_le->bL,sub_self->wQ,sub_zero->uD,le_trans->db,blt->pX,beq->bA,le_refl->cu
open Option renaming some->aj,isSome->mT,bind->lP,getD->XO
open Option.some renaming inj->aF
open _root_ renaming Nat->aG,Option->aC,Int->az,List->aA,ByteArray->au,Bool->aY,congrArg->mi,cond_true->ay,cond_false->aD,absurd->cq
namespace Go.FG.Lib
theorem s_{σ β:Type}(F:aG->σ->aC β)(mu:σ->aG)(inv:σ->Prop)(post:β->Prop)
  (step:∀n s,inv s->(∃b,F (n+1) s=aj b/\post b)\/∃s',inv s'/\mu s'<mu s/\F (n+1) s=F n s'):∀n s,inv s->mu s<n->∃b,F n s=aj b/\post b:=by
 intro n;induction n with
 |zero=>intro s _ h;omega
 |succ n ih=>
  intro s hi hm;rcases step n s hi with h|⟨s',h1,h2,h4⟩
  ·exact h
  ·rw[h4];exact ih s' h1 (by omega)
theorem cU{n:aG}(h:n<=9223372036854775807):n<c9:=by unfold c9;omega
theorem dh{x:az}(h1: -9223372036854775808<=x)(h2:x<=9223372036854775807):bN x=x:=jS h1 h2
theorem arj{x:az}(h0: -9223372036854775808<=x:=by omega)(h1:x<=9223372036854775807:=by omega):bN x=x:=dh h0 h1
theorem uN(A:aW)(y:aA CV)(B:aW)(i j:aG)(h:A.length=i):aw (A++y::B) i j=y.getD j (.b aq):=by
 subst h;unfold aw;have:(A++y::B).getD A.length []=y:=by simp[jt]
 rw[this]
theorem r_(a:au):dg a.toList a.toList=true:=qd _
theorem BF(x:CV):(bytesOf [[x]]).size=1:=by rw[iy];rfl
theorem aaf(p:aA CV->aY):∀(r:aW) (i:aG),i<(r.takeWhile p).length->∃h:i<r.length,p r[i]=ak
 |[],i,h=>by simp at h
 |y::r,i,h=>by
  by_cases hp:p y=ak
  ·rw[pI hp]at h;cases i with
   |zero=>exact⟨by simp,hp⟩
   |succ i=>obtain⟨h1,h2⟩:=aaf p r i (by simpa using h);exact⟨by simpa using h1,by simpa using h2⟩
  ·rw[pH hp]at h;simp at h
theorem aae(p:aA CV->aY):∀(r:aW) (h:(r.takeWhile p).length<r.length),p r[(r.takeWhile p).length]=aq
 |[],h=>by simp at h
 |y::r,h=>by
  by_cases hp:p y=ak
  ·have e:=pI (l:=r) hp;have h':(r.takeWhile p).length<r.length:=by rw[e]at h;simpa using h
   have:=aae p r h';simp only[e,c7,List.getElem_cons_succ];exact this
  ·have e:=pH (l:=r) hp;simp only[e,ju,List.getElem_cons_zero];simpa using hp
theorem H2(p:aA CV->aY)(r:aW):(r.takeWhile p).length<=r.length:=by have:=mi bW (mJ (p:=p) (l:=r));rw[bP]at this;omega
theorem zY(p:aA CV->aY)(r:aW):r.take (r.takeWhile p).length=r.takeWhile p:=by have e:=mJ (p:=p) (l:=r);have:=List.take_left (l₁:=r.takeWhile p) (l₂:=r.dropWhile p);rw[e]at this;exact this
theorem zH(p:aA CV->aY)(r:aW):r.drop (r.takeWhile p).length=r.dropWhile p:=by have e:=mJ (p:=p) (l:=r);have:=List.drop_left (l₁:=r.takeWhile p) (l₂:=r.dropWhile p);rw[e]at this;exact this
theorem wj{R:Type}(p:aA CV->aY)(r:aW)(F:aG->aG->aC R)(K:aG->aC R)
  (hT:∀m i (h:i<r.length),p r[i]=ak->F (m+1) i=F m (i+1)) (hF:∀m i (h:i<r.length),p r[i]=aq->F (m+1) i=K i) (hE:∀m,F (m+1) r.length=K r.length)
  (n:aG) (hn:r.length<n):F n 0=K (r.takeWhile p).length:=by
 refine il F (λi=>r.length-i) (λi=>i<=(r.takeWhile p).length) (λ_=>K (r.takeWhile p).length) (λm i hi=> ?_) n 0 (bL _) (by omega);have hl:=H2 p r;by_cases h:i<(r.takeWhile p).length
 ·obtain⟨h1,h2⟩:=aaf p r i h;exact .inr ⟨i+1,h,by omega,rfl,hT m i h1 h2⟩
 ·left;have lD:i=(r.takeWhile p).length:=by omega
  subst lD;by_cases h2:(r.takeWhile p).length<r.length
  ·exact hF m _ h2 (aae p r h2)
  ·have h3:(r.takeWhile p).length=r.length:=by omega
   rw[h3];exact hE m
theorem vL{R:Type}(p:aA CV->aY)(f:aA CV->aA CV)(r:aW)(m0:aG)(F:aG->aG->aW->aC R)(K:aW->aC R)
  (hT:∀m i acc (h:i<r.length),acc.length<=m0+i->p r[i]=ak->F (m+1) i acc=F m (i+1) (acc++[f r[i]])) (hF:∀m i acc (h:i<r.length),acc.length<=m0+i->p r[i]=aq->F (m+1) i acc=F m (i+1) acc)
  (hE:∀m acc,F (m+1) r.length acc=K acc) (n:aG) (acc:aW) (ha:acc.length<=m0) (hn:r.length<n):F n 0 acc=K (acc++(r.filter p).map f):=by
 have:=il (λn (s:aG×aW)=>F n s.1 s.2) (λs=>r.length-s.1) (λs=>s.1<=r.length/\s.2.length<=m0+s.1) (λs=>K (s.2++((r.drop s.1).filter p).map f)) (λm s hs=>by
  obtain⟨i,acc⟩:=s;obtain⟨h1,h2⟩:=hs;dsimp only at h1 h2⊢;by_cases h:i<r.length
  ·right;rw[fm h];cases hp:p r[i]with
   |true=>exact⟨(i+1,acc++[f r[i]]),⟨h,by simp;omega⟩,by dsimp only;omega,by rw[dx hp];simp,hT m i acc h h2 hp⟩
   |false=>exact⟨(i+1,acc),⟨h,by dsimp only;omega⟩,by dsimp only;omega,by rw[cm (by simp[hp])],hF m i acc h h2 hp⟩
  ·left;have hi:i=r.length:=by omega
   subst hi;rw[dq];simpa using hE m acc) n (0,acc) ⟨bL _,by dsimp only;omega⟩ (by dsimp only;omega)
 simpa using this
theorem jU{R:Type}(g:aG->aY)(len:aG)(F:aG->aG->aC R)(kf kt:aC R)(hT:∀m i,i<len->g i=ak->F (m+1) i=F m (i+1))(hF:∀m i,i<len->g i=aq->F (m+1) i=kf)(hE:∀m,F (m+1) len=kt)(n:aG)(hn:len<n):F n 0=bif(cO len).all g then kt else kf:=by
 have:=il F (λi=>len-i) (λi=>i<=len) (λi=>bif(lI i (len-i)).all g then kt else kf) (λm i hi=>by
  by_cases h:i<len
  ·have e:(lI i (len-i)).all g=(g i&&(lI (i+1) (len-(i+1))).all g):=by rw[show len-i=(len-(i+1))+1 by omega,List.range'_succ,rW]
   cases hp:g i with
   |true=>right;exact⟨i+1,h,by omega,by rw[e,hp,bj],hT m i h hp⟩
   |false=>left;rw[e,hp,hF m i h hp];rfl
  ·left;have:i=len:=by omega
   subst this;rw[hE,wQ];rfl) n 0 (bL _) (by omega)
 rw[this,uD,<-PH]
theorem oI{R:Type}(p:aG->aY)(len:aG)(F:aG->aG->aC R)(kr:az->aC R)(h1:∀m i,i<len->p i=ak->F (m+1) i=kr i)(h2:∀m i,i<len->p i=aq->F (m+1) i=F m (i+1))(h3:∀m,F (m+1) len=kr (-1))(n:aG)(hn:len<n):F n 0=kr (fi p len 0):=by
 have:=il F (λi=>len-i) (λi=>i<=len) (λi=>kr (fi p (len-i) i)) (λm i hi=>by
  by_cases h:i<len
  ·have e:len-i=(len-(i+1))+1:=by omega
   cases hp:p i with
   |true=>left;rw[h1 m i h hp,e];simp[fi,hp]
   |false=>right;exact⟨i+1,h,by omega,by rw[e];simp[fi,hp],h2 m i h hp⟩
  ·left;have:i=len:=by omega
   subst this;rw[h3,wQ];rfl) n 0 (by omega) (by omega)
 simpa using this
theorem all_congr{g h:aG->aY}{n:aG}(e:∀i,i<n->g i=h i):(cO n).all g=(cO n).all h:=by
 induction n with
 |zero=>rfl
 |succ n ih=>rw[TD,Aj,Aj,ih (λi hi=>e i (by omega))];simp[e n (by omega)]
theorem G3{T:Tab}(hT:∀e ti,T.ty e=aj ti->0<ti.bytes):∀y,qC T y->Fit y
 |_, .i k n _=>Fit.i k n
 |_, .b x=>Fit.b x
 |_, .s x h=>Fit.s x (db h (by omega))
 |_, .l e xs ti h h1 h2 h3=>by
  have hp:=hT e ti h;have hle:xs.length*1<=xs.length*ti.bytes:=Nat.mul_le_mul_left _ hp;exact Fit.l e xs (by omega) (λy hy x hx=>G3 hT x (h3 y hy x hx))
theorem RU:∀{rows:aA ph},rows.all (λr=>pX 0 r.ti.bytes)=ak->∀e ti,zr rows e=aj ti->0<ti.bytes
 |[],_,_,_,h=>by cases h
 |r::rs,h,e,ti,h2=>by
  rw[rW,aK]at h;unfold zr at h2;cases hb:bA e r.t with
  |true=>rw[hb,ay]at h2;obtain rfl:=aF h2;have h1:=h.1;simp[pX]at h1;omega
  |false=>rw[hb,aD]at h2;exact RU h.2 e ti h2
theorem XW{rows:aA ph}{T:Tab}(hT:T.ty=zr rows)(h:rows.all (λr=>pX 0 r.ti.bytes)=ak){e:aG}{xs:aW}(hf:qC T (.l e xs)):ur xs:=by
 cases G3 (λe ti he=>RU h e ti (by rw[<-hT];exact he)) _ hf with
 |l _ _ h1 h2=>exact⟨h1,h2⟩
end Go.FG.Lib

namespace Go.FG.Lib
theorem ml{σ R:Type}(len:aG)(F:aG->aG->σ->aC R)(st:aG->σ)(res:aC R)
  (hS:∀m i,i<len->F (m+1) i (st i)=F m (i+1) (st (i+1))) (hE:∀m,F (m+1) len (st len)=res) (n i0:aG) (h0:i0<=len) (hn:len-i0<n):F n i0 (st i0)=res:=by
 refine il (λn i=>F n i (st i)) (λi=>len-i) (λi=>i<=len) (λ_=>res) (λm i hi=> ?_) n i0 h0 hn;by_cases h:i<len
 ·exact .inr ⟨i+1,h,by omega,rfl,hS m i h⟩
 ·left;have:i=len:=by omega
  subst this;exact hE m
theorem oE{α R:Type}(l:aA α)(p:α->aY)(F:aG->aG->aC R)(kf kt:aC R)
  (hT:∀m i (h:i<l.length),p l[i]=ak->F (m+1) i=F m (i+1)) (hF:∀m i (h:i<l.length),p l[i]=aq->F (m+1) i=kf) (hE:∀m,F (m+1) l.length=kt) (n:aG) (hn:l.length<n):F n 0=bif l.all p then kt else kf:=by
 have:=il F (λi=>l.length-i) (λi=>i<=l.length) (λi=>bif(l.drop i).all p then kt else kf) (λm i hi=>by
  by_cases h:i<l.length
  ·have e:(l.drop i).all p=(p l[i]&&(l.drop (i+1)).all p):=by rw[dJ h,rW]
   cases hp:p l[i]with
   |true=>right;exact⟨i+1,h,by omega,by rw[e,hp,bj],hT m i h hp⟩
   |false=>left;rw[e,hp,hF m i h hp];rfl
  ·left;have:i=l.length:=by omega
   subst this;rw[hE,dq];rfl) n 0 (bL _) (by omega)
 simpa using this
theorem Ay{α R:Type}(l:aA α)(p:α->aY)(F:aG->aG->aC R)(kt kf:aC R)
  (hT:∀m i (h:i<l.length),p l[i]=ak->F (m+1) i=kt) (hF:∀m i (h:i<l.length),p l[i]=aq->F (m+1) i=F m (i+1)) (hE:∀m,F (m+1) l.length=kf) (n:aG) (hn:l.length<n):F n 0=bif l.any p then kt else kf:=by have h:=oE l (λx=> !p x) F kt kf (λm i h hp=>hF m i h (by simpa using hp)) (λm i h hp=>hT m i h (by simpa using hp)) hE n hn;rw[h,List.any_eq_not_all_not];cases l.all λx=> !p x<;>rfl
theorem getD_map'{α:Type}(f:α->aA CV)(l:aA α)(i:aG)(h:i<l.length):(l.map f).getD i []=f l[i]:=by simp[jt,h]
theorem fg{α:Type}(f:α->aA CV)(l:aA α)(i j:aG)(h:i<l.length):aw (l.map f) i j=(f l[i]).getD j (.b aq):=by unfold aw;rw[getD_map' f l i h]
theorem Je{α:Type}(l:aA α)(p:α->aY)(q:aG->aY)(h:∀i (hi:i<l.length),q i=p l[i]):decide (fi q l.length 0≥0)=l.any p:=by
 rcases pP q l.length 0 with ⟨h1,h2⟩|⟨k,_,hk,h3,h4,_⟩
 ·rw[h1];symm;rw[show decide ((-1:az)≥0)=aq by decide,Ak];intro x hx;obtain⟨i,hi,rfl⟩:=da hx;have:=h2 i (bL _) (by omega);rw[h i hi]at this;simp[this]
 ·rw[h3];symm;rw[show decide ((k:az)≥0)=ak by simp,List.any_eq_true];exact⟨l[k]'(by omega),bD _,by rw[<-h k (by omega)];exact h4⟩
theorem o9(ks:aA Ck)(y:aA CV):aE (aT ks 1) 0 y=[y]:=rfl
theorem ot{α β:Type}(f:α->β)(l:aA α)(i:aG)(h:i<l.length):(l.take i).map f++[f l[i]]=(l.take (i+1)).map f:=by rw[c8 h,dm];rfl
def rs(l:aA au):aW:=l.map λk=>[CV.s k]
def ri(l:aA az):aW:=l.map λn=>[CV.i ar n]
def rr(l:aA (aA az)):aW:=l.map λq=>[CV.l 3 (ri q)]
structure En where
 k:au
 st:az
 li:az
 bo:au
 deriving DecidableEq
def En.row(e:En):aA CV:=[CV.s e.k,CV.i ar e.st,CV.i ar e.li,CV.s e.bo]
def re(l:aA En):aW:=l.map En.row
structure Fe where
 k:au
 t:au
 sta:az
 li:az
 st:az
 deriving DecidableEq
def Fe.row(e:Fe):aA CV:=[CV.s e.k,CV.s e.t,CV.i ar e.sta,CV.i ar e.li,CV.i ar e.st]
def rf(l:aA Fe):aW:=l.map Fe.row
structure Cl where
 id:az
 k:au
 fe:az
 fr:az
 sta:az
 got:au
 age:az
 deriving DecidableEq
def Cl.row(e:Cl):aA CV:=[CV.i ar e.id,CV.s e.k,CV.i ar e.fe,CV.i ar e.fr,CV.i ar e.sta,CV.s e.got,CV.i ar e.age]
def rc(l:aA Cl):aW:=l.map Cl.row
structure Fi where
 n:au
 t:au
 kp:az
 deriving DecidableEq
def Fi.row(e:Fi):aA CV:=[CV.s e.n,CV.s e.t,CV.i ar e.kp]
def rd(l:aA Fi):aW:=l.map Fi.row
theorem eJ(l):(rs l).length=l.length:=by unfold rs;simp
theorem gY(l):(ri l).length=l.length:=by unfold ri;simp
theorem gA(l):(rr l).length=l.length:=by unfold rr;simp
theorem dU(l):(re l).length=l.length:=by unfold re;simp
theorem dL(l):(rf l).length=l.length:=by unfold rf;simp
theorem eR(l):(rc l).length=l.length:=by unfold rc;simp
theorem gq(l):(rd l).length=l.length:=by unfold rd;simp
theorem TT{l:aA au}{i:aG}(h:i<l.length):aw (rs l) i 0=CV.s l[i]:=fg _ l i 0 h
theorem Oa{l:aA az}{i:aG}(h:i<l.length):aw (ri l) i 0=CV.i ar l[i]:=fg _ l i 0 h
theorem Ij{l:aA (aA az)}{i:aG}(h:i<l.length):aw (rr l) i 0=CV.l 3 (ri l[i]):=fg _ l i 0 h
theorem rc0{l:aA Cl}{i:aG}(h:i<l.length):aw (rc l) i 0=CV.i ar l[i].id:=fg _ l i 0 h
theorem rc1{l:aA Cl}{i:aG}(h:i<l.length):aw (rc l) i 1=CV.s l[i].k:=fg _ l i 1 h
theorem rc2{l:aA Cl}{i:aG}(h:i<l.length):aw (rc l) i (1+1)=CV.i ar l[i].fe:=fg _ l i 2 h
theorem rc3{l:aA Cl}{i:aG}(h:i<l.length):aw (rc l) i (1+1+1)=CV.i ar l[i].fr:=fg _ l i 3 h
theorem rc4{l:aA Cl}{i:aG}(h:i<l.length):aw (rc l) i (1+1+1+1)=CV.i ar l[i].sta:=fg _ l i 4 h
theorem rc5{l:aA Cl}{i:aG}(h:i<l.length):aw (rc l) i (1+1+1+1+1)=CV.s l[i].got:=fg _ l i 5 h
theorem rc6{l:aA Cl}{i:aG}(h:i<l.length):aw (rc l) i (1+1+1+1+1+1)=CV.i ar l[i].age:=fg _ l i 6 h
theorem JU{l:aA Fi}{i:aG}(h:i<l.length):aw (rd l) i 0=CV.s l[i].n:=fg _ l i 0 h
theorem Zm{l:aA Fi}{i:aG}(h:i<l.length):aw (rd l) i 1=CV.s l[i].t:=fg _ l i 1 h
theorem Zn{l:aA Fi}{i:aG}(h:i<l.length):aw (rd l) i (1+1)=CV.i ar l[i].kp:=fg _ l i 2 h
end Go.FG.Lib
namespace Go.FG.Lib
theorem lx{α:Type}(f:α->aA CV)(l:aA α)(i j:aG)(ys:aA CV)(y:α)(h:i<l.length)(hs:iG (f l[i]) j ys=f y):eA (l.map f) i j ys=(l.set i y).map f:=by unfold eA;rw[getD_map' f l i h,hs,List.map_set]
def nI{α:Type}(l:aA α)(g:aG->α->α)(i:aG):aA α:=(l.mapIdx g).take i++l.drop i
theorem qp{α:Type}(l:aA α)(g:aG->α->α)(i:aG)(h:i<=l.length):(nI l g i).length=l.length:=by unfold nI;simp;omega
theorem wm{α:Type}(l:aA α)(g:aG->α->α)(i:aG)(h:i<l.length)(h2:i<(nI l g i).length):(nI l g i)[i]=l[i]:=by
 have e:(nI l g i)[i]? =aj l[i]:=by unfold nI;rw[c6 (by simp;omega)];simp[show min i l.length=i by omega]
 rw[eI h2]at e;exact aF e
theorem sM{α:Type}(l:aA α)(g:aG->α->α)(i:aG)(h:i<l.length):(nI l g i).set i (g i l[i])=nI l g (i+1):=by
 unfold nI;have hl:((l.mapIdx g).take i).length=i:=by simp;omega
 rw[List.set_append_right _ _ (by omega),hl,wQ,dJ h,List.set_cons_zero,c8 (by simpa using h),cj];simp
theorem BM{α:Type}(l:aA α)(g:aG->α->α):nI l g 0=l:=by unfold nI;simp
theorem qo{α:Type}(l:aA α)(g:aG->α->α):nI l g l.length=l.mapIdx g:=by unfold nI;rw[dq,dn,iK (by simp)]
theorem n_{α R:Type}(f:α->aA CV)(l:aA α)(g:aG->α->α)(F:aG->aG->aW->aC R)(K:aW->aC R)
  (hS:∀m i (L:aA α) (h:i<l.length) (h2:i<L.length),L.length=l.length->L[i]=l[i]->F (m+1) i (L.map f)=F m (i+1) ((L.set i (g i l[i])).map f))
  (hE:∀m (L:aA α),L.length=l.length->F (m+1) l.length (L.map f)=K (L.map f)) (n:aG) (hn:l.length<n):F n 0 (l.map f)=K ((l.mapIdx g).map f):=by
 have:=ml l.length F (λi=>(nI l g i).map f) (K ((l.mapIdx g).map f)) (λm i h=>by
  have h1:=qp l g i (by omega);rw[hS m i (nI l g i) h (by omega) h1 (wm l g i h (by omega)),sM l g i h]) (λm=>by
  rw[hE m _ (qp l g _ (cu _)),qo]) n 0 (bL _) (by omega)
 rw[show l.map f=(nI l g 0).map f by rw[BM]];exact this
end Go.FG.Lib

namespace Go.FG.Lib
instance:Inhabited En:=⟨⟨⟨#[]⟩,0,0,⟨#[]⟩⟩⟩
instance:Inhabited Fe:=⟨⟨⟨#[]⟩,⟨#[]⟩,0,0,0⟩⟩
instance:Inhabited Cl:=⟨⟨0,⟨#[]⟩,0,0,0,⟨#[]⟩,0⟩⟩
instance:Inhabited Fi:=⟨⟨⟨#[]⟩,⟨#[]⟩,0⟩⟩
def el{α:Type}[Inhabited α](l:aA α)(i:aG):α:=l.getD i default
theorem eU{α:Type}[Inhabited α]{l:aA α}{i:aG}(h:i<l.length):el l i=l[i]:=by unfold el;simp[jt,h]
theorem oH{α:Type}[Inhabited α]{l:aA α}{i:aG}(h:i<l.length):el l i∈l:=by rw[eU h];exact bD h
theorem gO{α:Type}[Inhabited α](f:α->aA CV)(l:aA α)(i j:aG)(h:i<l.length):aw (l.map f) i j=(f (el l i)).getD j (.b aq):=by rw[fg f l i j h,eU h]
theorem qw{l:aA En}{i:aG}(h:i<l.length):aw (re l) i 0=CV.s (el l i).k:=gO _ l i 0 h
theorem tV{l:aA En}{i:aG}(h:i<l.length):aw (re l) i 1=CV.i ar (el l i).st:=gO _ l i 1 h
theorem tW{l:aA En}{i:aG}(h:i<l.length):aw (re l) i (1+1)=CV.i ar (el l i).li:=gO _ l i 2 h
theorem tX{l:aA En}{i:aG}(h:i<l.length):aw (re l) i (1+1+1)=CV.s (el l i).bo:=gO _ l i 3 h
theorem H6{l:aA Fe}{i:aG}(h:i<l.length):aw (rf l) i 0=CV.s (el l i).k:=gO _ l i 0 h
theorem F8{l:aA Fe}{i:aG}(h:i<l.length):aw (rf l) i 1=CV.s (el l i).t:=gO _ l i 1 h
theorem W2{l:aA Fe}{i:aG}(h:i<l.length):aw (rf l) i (1+1)=CV.i ar (el l i).sta:=gO _ l i 2 h
theorem yz{l:aA Fe}{i:aG}(h:i<l.length):aw (rf l) i 2=CV.i ar (el l i).sta:=gO _ l i 2 h
theorem TU{l:aA Fe}{i:aG}(h:i<l.length):aw (rf l) i (1+1+1)=CV.i ar (el l i).li:=gO _ l i 3 h
theorem TV{l:aA Fe}{i:aG}(h:i<l.length):aw (rf l) i (1+1+1+1)=CV.i ar (el l i).st:=gO _ l i 4 h
theorem Ki{l:aA Cl}{i:aG}(h:i<l.length):aw (rc l) i 0=CV.i ar (el l i).id:=gO _ l i 0 h
theorem Te{l:aA Cl}{i:aG}(h:i<l.length):aw (rc l) i 1=CV.s (el l i).k:=gO _ l i 1 h
theorem Tf{l:aA Cl}{i:aG}(h:i<l.length):aw (rc l) i (1+1)=CV.i ar (el l i).fe:=gO _ l i 2 h
theorem Tg{l:aA Cl}{i:aG}(h:i<l.length):aw (rc l) i (1+1+1)=CV.i ar (el l i).fr:=gO _ l i 3 h
theorem Th{l:aA Cl}{i:aG}(h:i<l.length):aw (rc l) i (1+1+1+1)=CV.i ar (el l i).sta:=gO _ l i 4 h
theorem Ti{l:aA Cl}{i:aG}(h:i<l.length):aw (rc l) i (1+1+1+1+1)=CV.s (el l i).got:=gO _ l i 5 h
theorem Tj{l:aA Cl}{i:aG}(h:i<l.length):aw (rc l) i (1+1+1+1+1+1)=CV.i ar (el l i).age:=gO _ l i 6 h
theorem wd0{l:aA Fi}{i:aG}(h:i<l.length):aw (rd l) i 0=CV.s (el l i).n:=gO _ l i 0 h
theorem wd1{l:aA Fi}{i:aG}(h:i<l.length):aw (rd l) i 1=CV.s (el l i).t:=gO _ l i 1 h
theorem wd2{l:aA Fi}{i:aG}(h:i<l.length):aw (rd l) i (1+1)=CV.i ar (el l i).kp:=gO _ l i 2 h
structure Px where
 now:az
 en:aA En
 w:aA au
 m:aA au
 s:aA (aA az)
 a:az
 fe:aA Fe
 cl:aA Cl
 hits:az
structure Px.Fit (p:Px) (n:aG):Prop where
 en:p.en.length<=n
 w:p.w.length<=n
 m:p.m.length<=n
 s:p.s.length<=n/\(∀q∈p.s,q.length<=n)/\(p.s.map bW).sum<=n
 fe:p.fe.length<=n
 cl:p.cl.length<=n
theorem Px.Fit.le{p:Px}{n m:aG}(h:p.Fit n)(hm:n<=m):p.Fit m:=⟨db h.en hm,db h.w hm,db h.m hm,⟨db h.s.1 hm,λq hq=>db (h.s.2.1 q hq) hm,db h.s.2.2 hm⟩,db h.fe hm,db h.cl hm⟩
theorem lu{i:aG}(h:0<i)(h2:i<=9223372036854775807):bN ((i:az)-1)=((i-1:aG):az):=by rw[dh (by omega) (by omega)];omega
theorem EA{n:aG}(f g:aG->aY):((cO n).all λi=>f i&&g i)=((cO n).all f&&(cO n).all g):=by
 induction n with
 |zero=>rfl
 |succ n ih=>simp only[TD,Aj,rW,List.all_nil,pc,ih];cases (cO n).all f<;>cases (cO n).all g<;>cases f n<;>cases g n<;>rfl
end Go.FG.Lib

namespace Go.FG
namespace Lib
def ap{α β:Type}(f:α->β)(x:α):β:=f x
theorem bq{α R:Type}{o:aC α}{d:α}{g:aC R}{k:α->aC R}(hc:mT o=ak)(h:g=lP o k):g=ap k (XO o d):=by rw[h,some_ hc (d:=d)];rfl
theorem B1{α β γ:Type}(a:α)(f:α->aC β)(g:β->aC γ):lP (lt a f) g=lt a (λx=>lP (f x) g):=rfl
theorem B2{α β:Type}(c:aY)(x y:aC α)(f:α->aC β):lP (bif c then x else y) f=bif c then lP x f else lP y f:=MJ c x y f
end Lib
end Go.FG

namespace Go.FG.Lib
theorem Le{α R:Type}(l:aA α)(p:α->aY)(F0:aG->aG->aC R)(F1:aG->aG->aA α->aC R)(res:aA α->aC R)
  (a1:∀m i (h:i<l.length),p l[i]=ak->F0 (m+1) i=F1 m (i+1) [l[i]]) (a2:∀m i (h:i<l.length),p l[i]=aq->F0 (m+1) i=F0 m (i+1)) (a3:∀m,F0 (m+1) l.length=res [])
  (b1:∀m i acc (h:i<l.length),acc.length<=i->p l[i]=ak->F1 (m+1) i acc=F1 m (i+1) (acc++[l[i]])) (b2:∀m i acc (h:i<l.length),p l[i]=aq->F1 (m+1) i acc=F1 m (i+1) acc) (b3:∀m acc,F1 (m+1) l.length acc=res acc)
  (n:aG) (hn:l.length<n):F0 n 0=res (l.filter p):=by
 have k1:∀d i acc m,l.length-i<=d->i<=l.length->acc.length<=i->d<m->F1 m i acc=res (acc++(l.drop i).filter p):=by
  intro d;induction d with
  |zero=>
   intro i acc m h1 h2 h3 h4;obtain⟨m,rfl⟩:∃m',m=m'+1:=⟨m-1,by omega⟩
   have:i=l.length:=by omega
   subst this;rw[b3,dq];simp
  |succ d ih=>
   intro i acc m h1 h2 h3 h4;obtain⟨m,rfl⟩:∃m',m=m'+1:=⟨m-1,by omega⟩
   by_cases hi:i<l.length
   ·rw[dJ hi];cases hp:p l[i]with
    |true=>rw[b1 m i acc hi h3 hp,ih (i+1) _ m (by omega) hi (by simp;omega) (by omega),dx hp];simp
    |false=>rw[b2 m i acc hi hp,ih (i+1) _ m (by omega) hi (by omega) (by omega),cm (by simp[hp])]
   ·have:i=l.length:=by omega
    subst this;rw[b3,dq];simp
 have k0:∀d i m,l.length-i<=d->i<=l.length->d<m->F0 m i=res ((l.drop i).filter p):=by
  intro d;induction d with
  |zero=>
   intro i m h1 h2 h4;obtain⟨m,rfl⟩:∃m',m=m'+1:=⟨m-1,by omega⟩
   have:i=l.length:=by omega
   subst this;rw[a3,dq];rfl
  |succ d ih=>
   intro i m h1 h2 h4;obtain⟨m,rfl⟩:∃m',m=m'+1:=⟨m-1,by omega⟩
   by_cases hi:i<l.length
   ·rw[dJ hi];cases hp:p l[i]with
    |true=>rw[a1 m i hi hp,k1 d (i+1) _ m (by omega) hi (by simp) (by omega),dx hp];simp
    |false=>rw[a2 m i hi hp,ih (i+1) m (by omega) hi (by omega),cm (by simp[hp])]
   ·have:i=l.length:=by omega
    subst this;rw[a3,dq];rfl
 have:=k0 l.length 0 n (by omega) (bL _) hn;rwa[fB]at this
theorem Df{α R:Type}(l:aA α)(p:α->aY)(F1:aG->aG->aA α->aC R)(res:aA α->aC R)(c0:aA α)
  (b1:∀m i acc (h:i<l.length),acc.length<=c0.length+i->p l[i]=ak->F1 (m+1) i acc=F1 m (i+1) (acc++[l[i]])) (b2:∀m i acc (h:i<l.length),p l[i]=aq->F1 (m+1) i acc=F1 m (i+1) acc) (b3:∀m acc,F1 (m+1) l.length acc=res acc)
  (n:aG) (hn:l.length<n):F1 n 0 c0=res (c0++l.filter p):=by
 have k1:∀d i acc m,l.length-i<=d->i<=l.length->acc.length<=c0.length+i->d<m->F1 m i acc=res (acc++(l.drop i).filter p):=by
  intro d;induction d with
  |zero=>
   intro i acc m h1 h2 h3 h4;obtain⟨m,rfl⟩:∃m',m=m'+1:=⟨m-1,by omega⟩
   have:i=l.length:=by omega
   subst this;rw[b3,dq];simp
  |succ d ih=>
   intro i acc m h1 h2 h3 h4;obtain⟨m,rfl⟩:∃m',m=m'+1:=⟨m-1,by omega⟩
   by_cases hi:i<l.length
   ·rw[dJ hi];cases hp:p l[i]with
    |true=>rw[b1 m i acc hi h3 hp,ih (i+1) _ m (by omega) hi (by simp;omega) (by omega),dx hp];simp
    |false=>rw[b2 m i acc hi hp,ih (i+1) _ m (by omega) hi (by omega) (by omega),cm (by simp[hp])]
   ·have:i=l.length:=by omega
    subst this;rw[b3,dq];simp
 have:=k1 l.length 0 c0 n (by omega) (bL _) (by omega) hn;rwa[fB]at this
theorem BL{α:Type}(p q:α->aY):∀r:aA α,(∀y∈r,q y= !p y)->r.Pairwise (λy z=>p z=ak->p y=ak)->r.takeWhile p=r.filter p/\r.dropWhile p=r.filter q
 |[],_,_=>⟨rfl,rfl⟩
 |y::r,hq,h=>by
  rw[p9]at h;have hy:=hq y (by simp);cases hp:p y with
  |true=>rw[hp]at hy;obtain⟨i1,i2⟩:=BL p q r (λz hz=>hq z (by simp[hz])) h.2;rw[pI hp,dx hp,List.dropWhile_cons_of_pos hp,cm (by rw[hy];simp),i1,i2];exact⟨rfl,rfl⟩
  |false=>
   rw[hp]at hy;have hn:¬p y=true:=by rw[hp];simp
   have ha:∀z∈r,p z=false:=λz hz=>by
    cases CB:p z with
    |false=>rfl
    |true=>exact cq (h.1 z hz CB) hn
   rw[pH hn,cm hn,List.dropWhile_cons_of_neg hn,dx (by rw[hy];rfl)];refine⟨?_, ?_⟩
   ·symm;rw[Iw];intro z hz;rw[ha z hz];simp
   ·congr 1;symm;rw[eN];intro z hz;rw[hq z (by simp[hz]),ha z hz];rfl
end Go.FG.Lib

