/- Plain facts on numbers, texts and lists. No condition. -/
import Derived.Test.YtpcfgiocpohbmaaGreatDoorCorec
import Derived.Lib.ItoaNum
import Derived.Lib.SplitLaws
import Derived.Lib.AtoiTie
import Derived.Lib.Join
import Derived.Lib.ItoaLen
set_option linter.unusedVariables false
set_option linter.unusedSimpArgs false
set_option maxRecDepth 100000
set_option autoImplicit true
set_option relaxedAutoImplicit true
open Bool renaming true->ao,false->aq,true_and->bj,and_true->gh
open Decidable renaming decide->ah
open Go.IntKind renaming i64->ak
open List renaming beq->cQ,takeWhile_cons_of_pos->pI,takeWhile_cons_of_neg->pH,length_cons->bR,length_nil->jz,length->bB,takeWhile_append_dropWhile->mK,length_append->bW,filter_cons_of_pos->dy,filter_cons_of_neg->cC,drop_length->cX,range->cT,range'->iA,all_cons->jc,range_eq_range'->TT,range_succ->S7,all_append->oD,drop_eq_getElem_cons->cq,getD->dZ,any_eq_false->Xk,getElem_of_mem->c7,getElem_mem->bw,set->aP,take_succ_eq_append_getElem->bO,map_append->cO,getElem?_append_right->cY,getElem?_eq_getElem->e8,append_assoc->ca,append_nil->cZ,take_of_length_le->dH,all_nil->Cv,drop_zero->eK,pairwise_cons->p8,filter_eq_self->eh
open Nat renaming zero_le->bA,sub_self->pf,sub_zero->og,le_refl->bT,le_trans->cf
open Option renaming some->ai,isSome->mV,getD->Xo
open Option.some renaming inj->aJ
open _root_ renaming Nat->aN,decide_eq_true->aC,decide_eq_false->aF,Int->ay,ByteArray->au,List->aE,Bool->aY,congrArg->ic,Option->aA,absurd->cJ
namespace Go.FG.Lib
theorem mS(h:n<=9223372036854775807):n<ck:=by unfold ck;omega
theorem ez{n:aN}(h:n<=9223372036854775807:=by omega):n<ck:=mS h
theorem lJ{p:Prop}[Decidable p](h:p:=by omega):decide p=true:=aC h
theorem qe{p:Prop}[Decidable p](h:¬p:=by omega):decide p=false:=aF h
theorem dq(a: -9223372036854775808<=x)(d:x<=9223372036854775807):bE x=x:=hZ a d
theorem al'{x:ay}(h0: -9223372036854775808<=x:=by omega)(a:x<=9223372036854775807:=by omega):bE x=x:=dq h0 a
theorem sG(a:au):cQ a.toList a.toList=true:=lj _
theorem B2(x:CV):(bytesOf [[x]]).size=1:=by rw[ir];rfl
theorem aag(p:aE CV->aY):∀(r:Row) (i:aN),i<(r.takeWhile p).length->∃h:i<r.length,p r[i]=ao
 |[],i,h=>by simp at h
 |y::r,i,h=>by
  by_cases hp:p y=ao
  ·rw[pI hp]at h;cases i with
   |zero=>exact⟨by simp,hp⟩
   |succ i=>obtain⟨a,d⟩:=aag p r i (by simpa using h);exact⟨by simpa using a,by simpa using d⟩
  ·rw[pH hp]at h;simp at h
theorem aaf(p:aE CV->aY):∀(r:Row) (h:(r.takeWhile p).length<r.length),p r[(r.takeWhile p).length]=aq
 |[],h=>by simp at h
 |y::r,h=>by
  by_cases hp:p y=ao
  ·have e:=pI (l:=r) hp;have a:(r.takeWhile p).length<r.length:=by rw[e]at h;simpa using h
   have:=aaf p r a;simp only[e,bR,List.getElem_cons_succ];exact this
  ·have e:=pH (l:=r) hp;simp only[e,jz,List.getElem_cons_zero];simpa using hp
theorem DO(p:aE CV->aY)(r:Row):(r.takeWhile p).length<=r.length:=by have:=ic bB (mK (p:=p) (l:=r));rw[bW]at this;omega
theorem wO(p:aE CV->aY)(r:Row):r.take (r.takeWhile p).length=r.takeWhile p:=by have e:=mK (p:=p) (l:=r);have:=List.take_left (l₁:=r.takeWhile p) (l₂:=r.dropWhile p);rw[e]at this;exact this
theorem v8(p:aE CV->aY)(r:Row):r.drop (r.takeWhile p).length=r.dropWhile p:=by have e:=mK (p:=p) (l:=r);have:=List.drop_left (l₁:=r.takeWhile p) (l₂:=r.dropWhile p);rw[e]at this;exact this
theorem tc(p:aE CV->aY)(r:Row)(F:aN->aN->aA R)(K:aN->aA R)
  (k:∀m i (h:i<r.length),p r[i]=ao->F (m+1) i=F m (i+1)) (j:∀m i (h:i<r.length),p r[i]=aq->F (m+1) i=K i) (hE:∀m,F (m+1) r.length=K r.length)
  (n:aN) (o:r.length<n):F n 0=K (r.takeWhile p).length:=by
 refine fE F (λi=>r.length-i) (λi=>i<=(r.takeWhile p).length) (λ_=>K (r.takeWhile p).length) (λm i hi=> ?_) n 0 (bA _) (by omega);have hl:=DO p r;by_cases h:i<(r.takeWhile p).length
 ·obtain⟨e,a⟩:=aag p r i h;exact .inr ⟨i+1,h,by omega,rfl,k m i e a⟩
 ·left;have d:i=(r.takeWhile p).length:=by omega
  subst d;by_cases a:(r.takeWhile p).length<r.length
  ·exact j m _ a (aaf p r a)
  ·have f:(r.takeWhile p).length=r.length:=by omega
   rw[f];exact hE m
theorem wg(p:aE CV->aY)(f:aE CV->aE CV)(r:Row)(a:aN)(F:aN->aN->Row->aA R)(K:Row->aA R)
  (k:∀m i acc (h:i<r.length),acc.length<=a+i->p r[i]=ao->F (m+1) i acc=F m (i+1) (acc++[f r[i]])) (j:∀m i acc (h:i<r.length),acc.length<=a+i->p r[i]=aq->F (m+1) i acc=F m (i+1) acc)
  (hE:∀m acc,F (m+1) r.length acc=K acc) (n:aN) (acc:Row) (o:acc.length<=a) (t:r.length<n):F n 0 acc=K (acc++(r.filter p).map f):=by
 have:=fE (λn (s:aN×Row)=>F n s.1 s.2) (λs=>r.length-s.1) (λs=>s.1<=r.length/\s.2.length<=a+s.1) (λs=>K (s.2++((r.drop s.1).filter p).map f)) (λm s hs=>by
  obtain⟨i,acc⟩:=s;obtain⟨e,d⟩:=hs;dsimp only at e d⊢;by_cases h:i<r.length
  ·right;rw[dQ h];cases hp:p r[i]with
   |true=>exact⟨(i+1,acc++[f r[i]]),⟨h,by simp;omega⟩,by dsimp only;omega,by rw[dy hp];simp,k m i acc h d hp⟩
   |false=>exact⟨(i+1,acc),⟨h,by dsimp only;omega⟩,by dsimp only;omega,by rw[cC (by simp[hp])],j m i acc h d hp⟩
  ·left;have hi:i=r.length:=by omega
   subst hi;rw[cX];simpa using hE m acc) n (0,acc) ⟨bA _,by dsimp only;omega⟩ (by dsimp only;omega)
 simpa using this
theorem jE(g:aN->aY)(len:aN)(F:aN->aN->aA R)(a d:aA R)(j:∀m i,i<len->g i=ao->F (m+1) i=F m (i+1))(f:∀m i,i<len->g i=aq->F (m+1) i=a)(hE:∀m,F (m+1) len=d)(n:aN)(k:len<n):F n 0=bif(cT len).all g then d else a:=by
 have:=fE F (λi=>len-i) (λi=>i<=len) (λi=>bif(iA i (len-i)).all g then d else a) (λm i hi=>by
  by_cases h:i<len
  ·have e:(iA i (len-i)).all g=(g i&&(iA (i+1) (len-(i+1))).all g):=by rw[show len-i=(len-(i+1))+1 by omega,List.range'_succ,jc]
   cases hp:g i with
   |true=>right;exact⟨i+1,h,by omega,by rw[e,hp,bj],j m i h hp⟩
   |false=>left;rw[e,hp,f m i h hp];rfl
  ·left;have:i=len:=by omega
   subst this;rw[hE,pf];rfl) n 0 (bA _) (by omega)
 rw[this,og,<-TT]
theorem nJ(p:aN->aY)(len:aN)(F:aN->aN->aA R)(a:ay->aA R)(d:∀m i,i<len->p i=ao->F (m+1) i=a i)(f:∀m i,i<len->p i=aq->F (m+1) i=F m (i+1))(j:∀m,F (m+1) len=a (-1))(n:aN)(k:len<n):F n 0=a (fi p len 0):=by
 have:=fE F (λi=>len-i) (λi=>i<=len) (λi=>a (fi p (len-i) i)) (λm i hi=>by
  by_cases h:i<len
  ·have e:len-i=(len-(i+1))+1:=by omega
   cases hp:p i with
   |true=>left;rw[d m i h hp,e];simp[fi,hp]
   |false=>right;exact⟨i+1,h,by omega,by rw[e];simp[fi,hp],f m i h hp⟩
  ·left;have:i=len:=by omega
   subst this;rw[j,pf];rfl) n 0 (by omega) (by omega)
 simpa using this
theorem all_congr(e:∀i,i<n->g i=h i):(cT n).all g=(cT n).all h:=by
 induction n with
 |zero=>rfl
 |succ n ih=>rw[S7,oD,oD,ih (λi hi=>e i (by omega))];simp[e n (by omega)]
end Go.FG.Lib
namespace Go.FG.Lib
theorem im(len:aN)(F:aN->aN->σ->aA R)(st:aN->σ)(res:aA R)
  (a:∀m i,i<len->F (m+1) i (st i)=F m (i+1) (st (i+1))) (hE:∀m,F (m+1) len (st len)=res) (n i0:aN) (h0:i0<=len) (d:len-i0<n):F n i0 (st i0)=res:=by
 refine fE (λn i=>F n i (st i)) (λi=>len-i) (λi=>i<=len) (λ_=>res) (λm i hi=> ?_) n i0 h0 d;by_cases h:i<len
 ·exact .inr ⟨i+1,h,by omega,rfl,a m i h⟩
 ·left;have:i=len:=by omega
  subst this;exact hE m
theorem oM(l:aE α)(p:α->aY)(F:aN->aN->aA R)(a d:aA R)
  (j:∀m i (h:i<l.length),p l[i]=ao->F (m+1) i=F m (i+1)) (f:∀m i (h:i<l.length),p l[i]=aq->F (m+1) i=a) (hE:∀m,F (m+1) l.length=d) (n:aN) (k:l.length<n):F n 0=bif l.all p then d else a:=by
 have:=fE F (λi=>l.length-i) (λi=>i<=l.length) (λi=>bif(l.drop i).all p then d else a) (λm i hi=>by
  by_cases h:i<l.length
  ·have e:(l.drop i).all p=(p l[i]&&(l.drop (i+1)).all p):=by rw[cq h,jc]
   cases hp:p l[i]with
   |true=>right;exact⟨i+1,h,by omega,by rw[e,hp,bj],j m i h hp⟩
   |false=>left;rw[e,hp,f m i h hp];rfl
  ·left;have:i=l.length:=by omega
   subst this;rw[hE,cX];rfl) n 0 (bA _) (by omega)
 simpa using this
theorem AZ(l:aE α)(p:α->aY)(F:aN->aN->aA R)(d a:aA R)
  (f:∀m i (h:i<l.length),p l[i]=ao->F (m+1) i=d) (e:∀m i (h:i<l.length),p l[i]=aq->F (m+1) i=F m (i+1)) (hE:∀m,F (m+1) l.length=a) (n:aN) (j:l.length<n):F n 0=bif l.any p then d else a:=by have h:=oM l (λx=> !p x) F d a (λm i h hp=>e m i h (by simpa using hp)) (λm i h hp=>f m i h (by simpa using hp)) hE n j;rw[h,List.any_eq_not_all_not];cases l.all λx=> !p x<;>rfl
theorem getD_map'(f:α->aE CV)(l:aE α)(i:aN)(h:i<l.length):(l.map f).getD i []=f l[i]:=by simp[dZ,h]
theorem e_(f:α->aE CV)(l:aE α)(i j:aN)(h:i<l.length):av (l.map f) i j=(f l[i]).getD j (.b aq):=by unfold av;rw[getD_map' f l i h]
theorem IY(l:aE α)(p:α->aY)(q:aN->aY)(h:∀i (hi:i<l.length),q i=p l[i]):ah (fi q l.length 0≥0)=l.any p:=by
 rcases mO q l.length 0 with ⟨a,d⟩|⟨k,_,hk,e,f,_⟩
 ·rw[a];symm;rw[show ah ((-1:ay)≥0)=aq by decide,Xk];intro x j;obtain⟨i,hi,rfl⟩:=c7 j;have:=d i (bA _) (by omega);rw[h i hi]at this;simp[this]
 ·rw[e];symm;rw[show ah ((k:ay)≥0)=ao by simp,List.any_eq_true];exact⟨l[k]'(by omega),bw _,by rw[<-h k (by omega)];exact f⟩
theorem pc(ks:aE Ck)(y:aE CV):aP (aT ks 1) 0 y=[y]:=rfl
theorem ov(f:α->β)(l:aE α)(i:aN)(h:i<l.length):(l.take i).map f++[f l[i]]=(l.take (i+1)).map f:=by rw[bO h,cO];rfl
def rs(l:aE au):Row:=l.map λk=>[CV.s k]
def ri(l:aE ay):Row:=l.map λn=>[CV.i ak n]
def rr(l:aE (aE ay)):Row:=l.map λq=>[CV.l 3 (ri q)]
structure En where
 k:au
 st:ay
 li:ay
 bo:au
 deriving DecidableEq
def En.row(e:En):aE CV:=[CV.s e.k,CV.i ak e.st,CV.i ak e.li,CV.s e.bo]
def re(l:aE En):Row:=l.map En.row
structure Fe where
 k:au
 t:au
 sta:ay
 li:ay
 st:ay
 deriving DecidableEq
def Fe.row(e:Fe):aE CV:=[CV.s e.k,CV.s e.t,CV.i ak e.sta,CV.i ak e.li,CV.i ak e.st]
def rf(l:aE Fe):Row:=l.map Fe.row
structure Cl where
 id:ay
 k:au
 fe:ay
 fr:ay
 sta:ay
 got:au
 age:ay
 deriving DecidableEq
def Cl.row(e:Cl):aE CV:=[CV.i ak e.id,CV.s e.k,CV.i ak e.fe,CV.i ak e.fr,CV.i ak e.sta,CV.s e.got,CV.i ak e.age]
def rc(l:aE Cl):Row:=l.map Cl.row
structure Fi where
 n:au
 t:au
 kp:ay
 deriving DecidableEq
def Fi.row(e:Fi):aE CV:=[CV.s e.n,CV.s e.t,CV.i ak e.kp]
def rd(l:aE Fi):Row:=l.map Fi.row
theorem cy(l):(rs l).length=l.length:=by unfold rs;simp
theorem fa(l):(ri l).length=l.length:=by unfold ri;simp
theorem gC(l):(rr l).length=l.length:=by unfold rr;simp
theorem dv(l):(re l).length=l.length:=by unfold re;simp
theorem dI(l):(rf l).length=l.length:=by unfold rf;simp
theorem eL(l):(rc l).length=l.length:=by unfold rc;simp
theorem dX(l):(rd l).length=l.length:=by unfold rd;simp
theorem To(h:i<l.length):av (rs l) i 0=CV.s l[i]:=e_ _ l i 0 h
theorem NW(h:i<l.length):av (ri l) i 0=CV.i ak l[i]:=e_ _ l i 0 h
theorem H8(h:i<l.length):av (rr l) i 0=CV.l 3 (ri l[i]):=e_ _ l i 0 h
theorem rc0(h:i<l.length):av (rc l) i 0=CV.i ak l[i].id:=e_ _ l i 0 h
theorem rc1(h:i<l.length):av (rc l) i 1=CV.s l[i].k:=e_ _ l i 1 h
theorem rc2(h:i<l.length):av (rc l) i (1+1)=CV.i ak l[i].fe:=e_ _ l i 2 h
theorem rc3(h:i<l.length):av (rc l) i (1+1+1)=CV.i ak l[i].fr:=e_ _ l i 3 h
theorem rc4(h:i<l.length):av (rc l) i (1+1+1+1)=CV.i ak l[i].sta:=e_ _ l i 4 h
theorem rc5(h:i<l.length):av (rc l) i (1+1+1+1+1)=CV.s l[i].got:=e_ _ l i 5 h
theorem rc6(h:i<l.length):av (rc l) i (1+1+1+1+1+1)=CV.i ak l[i].age:=e_ _ l i 6 h
theorem Hz(h:i<l.length):av (rd l) i 0=CV.s l[i].n:=e_ _ l i 0 h
theorem Tm(h:i<l.length):av (rd l) i 1=CV.s l[i].t:=e_ _ l i 1 h
theorem Tn(h:i<l.length):av (rd l) i (1+1)=CV.i ak l[i].kp:=e_ _ l i 2 h
end Go.FG.Lib
namespace Go.FG.Lib
theorem kl(f:α->aE CV)(l:aE α)(i j:aN)(a:aE CV)(y:α)(h:i<l.length)(hs:hS (f l[i]) j a=f y):dV (l.map f) i j a=(l.set i y).map f:=by unfold dV;rw[getD_map' f l i h,hs,List.map_set]
def nM{α:Type}(l:aE α)(g:aN->α->α)(i:aN):aE α:=(l.mapIdx g).take i++l.drop i
theorem qv(l:aE α)(g:aN->α->α)(i:aN)(h:i<=l.length):(nM l g i).length=l.length:=by unfold nM;simp;omega
theorem wP(l:aE α)(g:aN->α->α)(i:aN)(h:i<l.length)(a:i<(nM l g i).length):(nM l g i)[i]=l[i]:=by
 have e:(nM l g i)[i]? =ai l[i]:=by unfold nM;rw[cY (by simp;omega)];simp[show min i l.length=i by omega]
 rw[e8 a]at e;exact aJ e
theorem tg(l:aE α)(g:aN->α->α)(i:aN)(h:i<l.length):(nM l g i).set i (g i l[i])=nM l g (i+1):=by
 unfold nM;have hl:((l.mapIdx g).take i).length=i:=by simp;omega
 rw[List.set_append_right _ _ (by omega),hl,pf,cq h,List.set_cons_zero,bO (by simpa using h),ca];simp
theorem B_(l:aE α)(g:aN->α->α):nM l g 0=l:=by unfold nM;simp
theorem qu(l:aE α)(g:aN->α->α):nM l g l.length=l.mapIdx g:=by unfold nM;rw[cX,cZ,dH (by simp)]
theorem m_{α R:Type}(f:α->aE CV)(l:aE α)(g:aN->α->α)(F:aN->aN->Row->aA R)(K:Row->aA R)
  (d:∀m i (L:aE α) (h:i<l.length) (e:i<L.length),L.length=l.length->L[i]=l[i]->F (m+1) i (L.map f)=F m (i+1) ((L.set i (g i l[i])).map f))
  (hE:∀m (L:aE α),L.length=l.length->F (m+1) l.length (L.map f)=K (L.map f)) (n:aN) (j:l.length<n):F n 0 (l.map f)=K ((l.mapIdx g).map f):=by
 have:=im l.length F (λi=>(nM l g i).map f) (K ((l.mapIdx g).map f)) (λm i h=>by
  have a:=qv l g i (by omega);rw[d m i (nM l g i) h (by omega) a (wP l g i h (by omega)),tg l g i h]) (λm=>by
  rw[hE m _ (qv l g _ (bT _)),qu]) n 0 (bA _) (by omega)
 rw[show l.map f=(nM l g 0).map f by rw[B_]];exact this
end Go.FG.Lib
namespace Go.FG.Lib
instance:Inhabited En:=⟨⟨⟨#[]⟩,0,0,⟨#[]⟩⟩⟩
instance:Inhabited Fe:=⟨⟨⟨#[]⟩,⟨#[]⟩,0,0,0⟩⟩
instance:Inhabited Cl:=⟨⟨0,⟨#[]⟩,0,0,0,⟨#[]⟩,0⟩⟩
instance:Inhabited Fi:=⟨⟨⟨#[]⟩,⟨#[]⟩,0⟩⟩
def el{α:Type}[Inhabited α](l:aE α)(i:aN):α:=l.getD i default
theorem eT{α:Type}[Inhabited α]{l:aE α}{i:aN}(h:i<l.length):el l i=l[i]:=by unfold el;simp[dZ,h]
theorem jt{α:Type}[Inhabited α]{l:aE α}{i:aN}(h:i<l.length):el l i∈l:=by rw[eT h];exact bw h
theorem fH{α:Type}[Inhabited α](f:α->aE CV)(l:aE α)(i j:aN)(h:i<l.length):av (l.map f) i j=(f (el l i)).getD j (.b aq):=by rw[e_ f l i j h,eT h]
theorem oy(h:i<l.length):av (re l) i 0=CV.s (el l i).k:=fH _ l i 0 h
theorem rF(h:i<l.length):av (re l) i 1=CV.i ak (el l i).st:=fH _ l i 1 h
theorem rG(h:i<l.length):av (re l) i (1+1)=CV.i ak (el l i).li:=fH _ l i 2 h
theorem rH(h:i<l.length):av (re l) i (1+1+1)=CV.s (el l i).bo:=fH _ l i 3 h
theorem Ga(h:i<l.length):av (rf l) i 0=CV.s (el l i).k:=fH _ l i 0 h
theorem DT(h:i<l.length):av (rf l) i 1=CV.s (el l i).t:=fH _ l i 1 h
theorem WH(h:i<l.length):av (rf l) i (1+1)=CV.i ak (el l i).sta:=fH _ l i 2 h
theorem yS(h:i<l.length):av (rf l) i 2=CV.i ak (el l i).sta:=fH _ l i 2 h
theorem N0(h:i<l.length):av (rf l) i (1+1+1)=CV.i ak (el l i).li:=fH _ l i 3 h
theorem N1(h:i<l.length):av (rf l) i (1+1+1+1)=CV.i ak (el l i).st:=fH _ l i 4 h
theorem JV(h:i<l.length):av (rc l) i 0=CV.i ak (el l i).id:=fH _ l i 0 h
theorem wc1(h:i<l.length):av (rc l) i 1=CV.s (el l i).k:=fH _ l i 1 h
theorem wc2(h:i<l.length):av (rc l) i (1+1)=CV.i ak (el l i).fe:=fH _ l i 2 h
theorem wc3(h:i<l.length):av (rc l) i (1+1+1)=CV.i ak (el l i).fr:=fH _ l i 3 h
theorem NX(h:i<l.length):av (rc l) i (1+1+1+1)=CV.i ak (el l i).sta:=fH _ l i 4 h
theorem NY(h:i<l.length):av (rc l) i (1+1+1+1+1)=CV.s (el l i).got:=fH _ l i 5 h
theorem NZ(h:i<l.length):av (rc l) i (1+1+1+1+1+1)=CV.i ak (el l i).age:=fH _ l i 6 h
theorem wd0(h:i<l.length):av (rd l) i 0=CV.s (el l i).n:=fH _ l i 0 h
theorem wd1(h:i<l.length):av (rd l) i 1=CV.s (el l i).t:=fH _ l i 1 h
theorem wd2(h:i<l.length):av (rd l) i (1+1)=CV.i ak (el l i).kp:=fH _ l i 2 h
structure Px where
 now:ay
 en:aE En
 w:aE au
 m:aE au
 s:aE (aE ay)
 a:ay
 fe:aE Fe
 cl:aE Cl
 hits:ay
structure Px.Fit (p:Px) (n:aN):Prop where
 en:p.en.length<=n
 w:p.w.length<=n
 m:p.m.length<=n
 s:p.s.length<=n/\(∀q∈p.s,q.length<=n)/\(p.s.map bB).sum<=n
 fe:p.fe.length<=n
 cl:p.cl.length<=n
theorem Px.Fit.le{p:Px}{n m:aN}(h:p.Fit n)(hm:n<=m):p.Fit m:=⟨cf h.en hm,cf h.w hm,cf h.m hm,⟨cf h.s.1 hm,λq hq=>cf (h.s.2.1 q hq) hm,cf h.s.2.2 hm⟩,cf h.fe hm,cf h.cl hm⟩
theorem ly{i:aN}(h:0<i)(a:i<=9223372036854775807):bE ((i:ay)-1)=((i-1:aN):ay):=by rw[dq (by omega) (by omega)];omega
theorem ET(f g:aN->aY):((cT n).all λi=>f i&&g i)=((cT n).all f&&(cT n).all g):=by
 induction n with
 |zero=>rfl
 |succ n ih=>simp only[S7,oD,jc,Cv,gh,ih];cases (cT n).all f<;>cases (cT n).all g<;>cases f n<;>cases g n<;>rfl
end Go.FG.Lib
namespace Go.FG
namespace Lib
def ap{α β:Type}(f:α->β)(x:α):β:=f x
theorem bq{α R:Type}{o:aA α}{d:α}{g:aA R}{k:α->aA R}(a:mV o=ao)(h:g=Option.bind o k):g=ap k (Xo o d):=by rw[h,some_ a (d:=d)];rfl
end Lib
end Go.FG
namespace Go.FG.Lib
theorem La(l:aE α)(p:α->aY)(f:aN->aN->aA R)(a:aN->aN->aE α->aA R)(res:aE α->aA R)
  (a1:∀m i (h:i<l.length),p l[i]=ao->f (m+1) i=a m (i+1) [l[i]]) (a2:∀m i (h:i<l.length),p l[i]=aq->f (m+1) i=f m (i+1)) (a3:∀m,f (m+1) l.length=res [])
  (t:∀m i acc (h:i<l.length),acc.length<=i->p l[i]=ao->a (m+1) i acc=a m (i+1) (acc++[l[i]])) (u:∀m i acc (h:i<l.length),p l[i]=aq->a (m+1) i acc=a m (i+1) acc) (r:∀m acc,a (m+1) l.length acc=res acc)
  (n:aN) (x:l.length<n):f n 0=res (l.filter p):=by
 have z:∀d i acc m,l.length-i<=d->i<=l.length->acc.length<=i->d<m->a m i acc=res (acc++(l.drop i).filter p):=by
  intro d;induction d with
  |zero=>
   intro i acc m j k s o;obtain⟨m,rfl⟩:∃e,m=e+1:=⟨m-1,by omega⟩
   have:i=l.length:=by omega
   subst this;rw[r,cX];simp
  |succ d ih=>
   intro i acc m j k s o;obtain⟨m,rfl⟩:∃e,m=e+1:=⟨m-1,by omega⟩
   by_cases hi:i<l.length
   ·rw[cq hi];cases hp:p l[i]with
    |true=>rw[t m i acc hi s hp,ih (i+1) _ m (by omega) hi (by simp;omega) (by omega),dy hp];simp
    |false=>rw[u m i acc hi hp,ih (i+1) _ m (by omega) hi (by omega) (by omega),cC (by simp[hp])]
   ·have:i=l.length:=by omega
    subst this;rw[r,cX];simp
 have y:∀d i m,l.length-i<=d->i<=l.length->d<m->f m i=res ((l.drop i).filter p):=by
  intro d;induction d with
  |zero=>
   intro i m j k o;obtain⟨m,rfl⟩:∃e,m=e+1:=⟨m-1,by omega⟩
   have:i=l.length:=by omega
   subst this;rw[a3,cX];rfl
  |succ d ih=>
   intro i m j k o;obtain⟨m,rfl⟩:∃e,m=e+1:=⟨m-1,by omega⟩
   by_cases hi:i<l.length
   ·rw[cq hi];cases hp:p l[i]with
    |true=>rw[a1 m i hi hp,z d (i+1) _ m (by omega) hi (by simp) (by omega),dy hp];simp
    |false=>rw[a2 m i hi hp,ih (i+1) m (by omega) hi (by omega),cC (by simp[hp])]
   ·have:i=l.length:=by omega
    subst this;rw[a3,cX];rfl
 have:=y l.length 0 n (by omega) (bA _) x;rwa[eK]at this
theorem Bj(l:aE α)(p:α->aY)(a:aN->aN->aE α->aA R)(res:aE α->aA R)(c0:aE α)
  (k:∀m i acc (h:i<l.length),acc.length<=c0.length+i->p l[i]=ao->a (m+1) i acc=a m (i+1) (acc++[l[i]])) (o:∀m i acc (h:i<l.length),p l[i]=aq->a (m+1) i acc=a m (i+1) acc) (f:∀m acc,a (m+1) l.length acc=res acc)
  (n:aN) (u:l.length<n):a n 0 c0=res (c0++l.filter p):=by
 have x:∀d i acc m,l.length-i<=d->i<=l.length->acc.length<=c0.length+i->d<m->a m i acc=res (acc++(l.drop i).filter p):=by
  intro d;induction d with
  |zero=>
   intro i acc m r s j t;obtain⟨m,rfl⟩:∃e,m=e+1:=⟨m-1,by omega⟩
   have:i=l.length:=by omega
   subst this;rw[f,cX];simp
  |succ d ih=>
   intro i acc m r s j t;obtain⟨m,rfl⟩:∃e,m=e+1:=⟨m-1,by omega⟩
   by_cases hi:i<l.length
   ·rw[cq hi];cases hp:p l[i]with
    |true=>rw[k m i acc hi j hp,ih (i+1) _ m (by omega) hi (by simp;omega) (by omega),dy hp];simp
    |false=>rw[o m i acc hi hp,ih (i+1) _ m (by omega) hi (by omega) (by omega),cC (by simp[hp])]
   ·have:i=l.length:=by omega
    subst this;rw[f,cX];simp
 have:=x l.length 0 c0 n (by omega) (bA _) (by omega) u;rwa[eK]at this
theorem yP(p q:α->aY):∀r:aE α,(∀y∈r,q y= !p y)->r.Pairwise (λy z=>p z=ao->p y=ao)->r.takeWhile p=r.filter p/\r.dropWhile p=r.filter q
 |[],_,_=>⟨rfl,rfl⟩
 |y::r,hq,h=>by
  rw[p8]at h;have e:=hq y (by simp);cases hp:p y with
  |true=>rw[hp]at e;obtain⟨j,k⟩:=yP p q r (λz a=>hq z (by simp[a])) h.2;rw[pI hp,dy hp,List.dropWhile_cons_of_pos hp,cC (by rw[e];simp),j,k];exact⟨rfl,rfl⟩
  |false=>
   rw[hp]at e;have d:¬p y=true:=by rw[hp];simp
   have i:∀z∈r,p z=false:=λz a=>by
    cases f:p z with
    |false=>rfl
    |true=>exact cJ (h.1 z a f) d
   rw[pH d,cC d,List.dropWhile_cons_of_neg d,dy (by rw[e];rfl)];refine⟨?_,?_⟩
   ·symm;rw[List.filter_eq_nil_iff];intro z a;rw[i z a];simp
   ·congr 1;symm;rw[eh];intro z a;rw[hq z (by simp[a]),i z a];rfl
end Go.FG.Lib
