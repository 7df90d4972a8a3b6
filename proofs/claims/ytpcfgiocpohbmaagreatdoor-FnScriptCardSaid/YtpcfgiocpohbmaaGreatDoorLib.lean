/- Plain facts on numbers, texts and lists. No condition. -/
import Derived.Test.YtpcfgiocpohbmaaGreatDoorCorec
import Derived.Lib.ItoaNum
import Derived.Lib.SplitLaws
import Derived.Lib.AtoiTie
import Derived.Lib.Join
import Derived.Lib.ItoaLen
set_option linter.all false
set_option maxRecDepth 100000
set_option autoImplicit true
set_option relaxedAutoImplicit true
open Bool renaming true->ao,false->aq,true_and->bj,and_eq_true->aM,and_true->gE
open Decidable renaming decide->ah
open Go.IntKind renaming i64->ak
open List renaming beq->cD,takeWhile_cons_of_pos->qA,takeWhile_cons_of_neg->qz,length_cons->bT,length_nil->jU,length->bD,takeWhile_append_dropWhile->ny,length_append->bU,filter_cons_of_pos->dI,filter_cons_of_neg->cM,drop_length->c_,range->c7,range'->iT,all_cons->iS,range_eq_range'->V5,range_succ->Vr,all_append->ph,drop_eq_getElem_cons->cJ,getD->eC,any_eq_false->ZC,getElem_of_mem->dW,getElem_mem->bF,set->aC,take_succ_eq_append_getElem->cE,map_append->cT,getElem?_append_right->de,getElem?_eq_getElem->fC,append_assoc->cg,append_nil->d_,take_of_length_le->e8,all_nil->DY,drop_zero->gz,pairwise_cons->qT,filter_eq_self->ka
open Nat renaming zero_le->bB,sub_self->qe,sub_zero->H2,le_trans->ca,blt->oE,beq->bN,le_refl->bW
open Option renaming some->ai,isSome->nK,getD->ZF
open Option.some renaming inj->aL
open _root_ renaming Nat->aN,Option->aG,decide_eq_true->aA,decide_eq_false->aD,Int->az,ByteArray->ar,List->aE,Bool->aZ,congrArg->gu,cond_true->au,cond_false->ax,absurd->cO
namespace Go.FG.Lib
def uS(F:aN->σ->aG β)(d:σ->aN)(inv:σ->Prop)(post:β->Prop)
  (step:∀n s,inv s->(∃b,F (n+1) s=ai b/\post b)\/∃a,inv a/\d a<d s/\F (n+1) s=F n a):∀n s,inv s->d s<n->∃b,F n s=ai b/\post b:=by
 intro n;induction n with
 |zero=>intro s _ h;omega
 |succ n ih=>
  intro s hi hm;rcases step n s hi with h|⟨a,h1,h2,h4⟩
  ·exact h
  ·rw[h4];exact ih a h1 (by omega)
def mX(h:n<=9223372036854775807):n<cw:=by unfold cw;omega
def eG{n:aN}(h:n<=9223372036854775807:=by omega):n<cw:=mX h
def jz{p:Prop}[Decidable p](h:p:=by omega):decide p=true:=aA h
def p6{p:Prop}[Decidable p](h:¬p:=by omega):decide p=false:=aD h
def c6(h1: -9223372036854775808<=x)(h2:x<=9223372036854775807):bA x=x:=iE h1 h2
def aps{x:az}(h0: -9223372036854775808<=x:=by omega)(h1:x<=9223372036854775807:=by omega):bA x=x:=c6 h0 h1
def mz(a:ar):cD a.toList a.toList=true:=lT _
def Dy(x:CV):(bytesOf [[x]]).size=1:=by rw[ie];rfl
def acK(p:aE CV->aZ):∀(r:Row) (i:aN),i<(r.takeWhile p).length->∃h:i<r.length,p r[i]=ao
 |[],i,h=>by simp at h
 |y::r,i,h=>by
  by_cases hp:p y=ao
  ·rw[qA hp]at h;cases i with
   |zero=>exact⟨by simp,hp⟩
   |succ i=>obtain⟨h1,h2⟩:=acK p r i (by simpa using h);exact⟨by simpa using h1,by simpa using h2⟩
  ·rw[qz hp]at h;simp at h
def acJ(p:aE CV->aZ):∀(r:Row) (h:(r.takeWhile p).length<r.length),p r[(r.takeWhile p).length]=aq
 |[],h=>by simp at h
 |y::r,h=>by
  by_cases hp:p y=ao
  ·have e:=qA (l:=r) hp;have a:(r.takeWhile p).length<r.length:=by rw[e]at h;simpa using h
   have:=acJ p r a;simp only[e,bT,List.getElem_cons_succ];exact this
  ·have e:=qz (l:=r) hp;simp only[e,jU,List.getElem_cons_zero];simpa using hp
def FD(p:aE CV->aZ)(r:Row):(r.takeWhile p).length<=r.length:=by have:=gu bD (ny (p:=p) (l:=r));rw[bU]at this;omega
def yJ(p:aE CV->aZ)(r:Row):r.take (r.takeWhile p).length=r.takeWhile p:=by have e:=ny (p:=p) (l:=r);have:=List.take_left (l₁:=r.takeWhile p) (l₂:=r.dropWhile p);rw[e]at this;exact this
def xW(p:aE CV->aZ)(r:Row):r.drop (r.takeWhile p).length=r.dropWhile p:=by have e:=ny (p:=p) (l:=r);have:=List.drop_left (l₁:=r.takeWhile p) (l₂:=r.dropWhile p);rw[e]at this;exact this
def uA(p:aE CV->aZ)(r:Row)(F:aN->aN->aG R)(K:aN->aG R)
  (e:∀m i (h:i<r.length),p r[i]=ao->F (m+1) i=F m (i+1)) (d:∀m i (h:i<r.length),p r[i]=aq->F (m+1) i=K i) (hE:∀m,F (m+1) r.length=K r.length)
  (n:aN) (f:r.length<n):F n 0=K (r.takeWhile p).length:=by
 refine gP F (λi=>r.length-i) (λi=>i<=(r.takeWhile p).length) (λ_=>K (r.takeWhile p).length) (λm i hi=> ?_) n 0 (bB _) (by omega);have hl:=FD p r;by_cases h:i<(r.takeWhile p).length
 ·obtain⟨h1,h2⟩:=acK p r i h;exact .inr ⟨i+1,h,by omega,rfl,e m i h1 h2⟩
 ·left;have a:i=(r.takeWhile p).length:=by omega
  subst a;by_cases h2:(r.takeWhile p).length<r.length
  ·exact d m _ h2 (acJ p r h2)
  ·have h3:(r.takeWhile p).length=r.length:=by omega
   rw[h3];exact hE m
def yg(p:aE CV->aZ)(f:aE CV->aE CV)(r:Row)(a:aN)(F:aN->aN->Row->aG R)(K:Row->aG R)
  (e:∀m i acc (h:i<r.length),acc.length<=a+i->p r[i]=ao->F (m+1) i acc=F m (i+1) (acc++[f r[i]])) (d:∀m i acc (h:i<r.length),acc.length<=a+i->p r[i]=aq->F (m+1) i acc=F m (i+1) acc)
  (hE:∀m acc,F (m+1) r.length acc=K acc) (n:aN) (acc:Row) (j:acc.length<=a) (k:r.length<n):F n 0 acc=K (acc++(r.filter p).map f):=by
 have:=gP (λn (s:aN×Row)=>F n s.1 s.2) (λs=>r.length-s.1) (λs=>s.1<=r.length/\s.2.length<=a+s.1) (λs=>K (s.2++((r.drop s.1).filter p).map f)) (λm s hs=>by
  obtain⟨i,acc⟩:=s;obtain⟨h1,h2⟩:=hs;dsimp only at h1 h2⊢;by_cases h:i<r.length
  ·right;rw[mR h];cases hp:p r[i]with
   |true=>exact⟨(i+1,acc++[f r[i]]),⟨h,by simp;omega⟩,by dsimp only;omega,by rw[dI hp];simp,e m i acc h h2 hp⟩
   |false=>exact⟨(i+1,acc),⟨h,by dsimp only;omega⟩,by dsimp only;omega,by rw[cM (by simp[hp])],d m i acc h h2 hp⟩
  ·left;have hi:i=r.length:=by omega
   subst hi;rw[c_];simpa using hE m acc) n (0,acc) ⟨bB _,by dsimp only;omega⟩ (by dsimp only;omega)
 simpa using this
def j6(g:aN->aZ)(len:aN)(F:aN->aN->aG R)(a d:aG R)(j:∀m i,i<len->g i=ao->F (m+1) i=F m (i+1))(f:∀m i,i<len->g i=aq->F (m+1) i=a)(hE:∀m,F (m+1) len=d)(n:aN)(k:len<n):F n 0=bif(c7 len).all g then d else a:=by
 have:=gP F (λi=>len-i) (λi=>i<=len) (λi=>bif(iT i (len-i)).all g then d else a) (λm i hi=>by
  by_cases h:i<len
  ·have e:(iT i (len-i)).all g=(g i&&(iT (i+1) (len-(i+1))).all g):=by rw[show len-i=(len-(i+1))+1 by omega,List.range'_succ,iS]
   cases hp:g i with
   |true=>right;exact⟨i+1,h,by omega,by rw[e,hp,bj],j m i h hp⟩
   |false=>left;rw[e,hp,f m i h hp];rfl
  ·left;have:i=len:=by omega
   subst this;rw[hE,qe];rfl) n 0 (bB _) (by omega)
 rw[this,H2,<-V5]
def ox(p:aN->aZ)(len:aN)(F:aN->aN->aG R)(a:az->aG R)(h1:∀m i,i<len->p i=ao->F (m+1) i=a i)(h2:∀m i,i<len->p i=aq->F (m+1) i=F m (i+1))(h3:∀m,F (m+1) len=a (-1))(n:aN)(d:len<n):F n 0=a (fi p len 0):=by
 have:=gP F (λi=>len-i) (λi=>i<=len) (λi=>a (fi p (len-i) i)) (λm i hi=>by
  by_cases h:i<len
  ·have e:len-i=(len-(i+1))+1:=by omega
   cases hp:p i with
   |true=>left;rw[h1 m i h hp,e];simp[fi,hp]
   |false=>right;exact⟨i+1,h,by omega,by rw[e];simp[fi,hp],h2 m i h hp⟩
  ·left;have:i=len:=by omega
   subst this;rw[h3,qe];rfl) n 0 (by omega) (by omega)
 simpa using this
def all_congr(e:∀i,i<n->g i=h i):(c7 n).all g=(c7 n).all h:=by
 induction n with
 |zero=>rfl
 |succ n ih=>rw[Vr,ph,ph,ih (λi hi=>e i (by omega))];simp[e n (by omega)]
def I5(a:∀e ti,T.ty e=ai ti->0<ti.bytes):∀y,rR T y->Fit y
 |_,.i k n _=>Fit.i k n
 |_,.b x=>Fit.b x
 |_,.s x h=>Fit.s x (ca h (by omega))
 |_,.l e xs ti h h1 h2 h3=>by
  have hp:=a e ti h;have d:xs.length*1<=xs.length*ti.bytes:=Nat.mul_le_mul_left _ hp;exact Fit.l e xs (by omega) (λy j x f=>I5 a x (h3 y j x f))
def T8:∀{rows:aE tN},rows.all (λr=>oE 0 r.ti.bytes)=ao->∀e ti,Bq rows e=ai ti->0<ti.bytes
 |[],_,_,_,h=>by cases h
 |r::rs,h,e,ti,h2=>by
  rw[iS,aM]at h;unfold Bq at h2;cases a:bN e r.t with
  |true=>rw[a,au]at h2;obtain rfl:=aL h2;have h1:=h.1;simp[oE]at h1;omega
  |false=>rw[a,ax]at h2;exact T8 h.2 e ti h2
def ZS(a:T.ty=Bq rows)(h:rows.all (λr=>oE 0 r.ti.bytes)=ao)(f:rR T (.l e xs)):A' xs:=by
 cases I5 (λe ti d=>T8 h e ti (by rw[<-a];exact d)) _ f with
 |l _ _ h1 h2=>exact⟨h1,h2⟩
end Go.FG.Lib
namespace Go.FG.Lib
def iz(len:aN)(F:aN->aN->σ->aG R)(st:aN->σ)(res:aG R)
  (a:∀m i,i<len->F (m+1) i (st i)=F m (i+1) (st (i+1))) (hE:∀m,F (m+1) len (st len)=res) (n i0:aN) (h0:i0<=len) (d:len-i0<n):F n i0 (st i0)=res:=by
 refine gP (λn i=>F n i (st i)) (λi=>len-i) (λi=>i<=len) (λ_=>res) (λm i hi=> ?_) n i0 h0 d;by_cases h:i<len
 ·exact .inr ⟨i+1,h,by omega,rfl,a m i h⟩
 ·left;have:i=len:=by omega
  subst this;exact hE m
def pA(l:aE α)(p:α->aZ)(F:aN->aN->aG R)(a d:aG R)
  (j:∀m i (h:i<l.length),p l[i]=ao->F (m+1) i=F m (i+1)) (f:∀m i (h:i<l.length),p l[i]=aq->F (m+1) i=a) (hE:∀m,F (m+1) l.length=d) (n:aN) (k:l.length<n):F n 0=bif l.all p then d else a:=by
 have:=gP F (λi=>l.length-i) (λi=>i<=l.length) (λi=>bif(l.drop i).all p then d else a) (λm i hi=>by
  by_cases h:i<l.length
  ·have e:(l.drop i).all p=(p l[i]&&(l.drop (i+1)).all p):=by rw[cJ h,iS]
   cases hp:p l[i]with
   |true=>right;exact⟨i+1,h,by omega,by rw[e,hp,bj],j m i h hp⟩
   |false=>left;rw[e,hp,f m i h hp];rfl
  ·left;have:i=l.length:=by omega
   subst this;rw[hE,c_];rfl) n 0 (bB _) (by omega)
 simpa using this
def Cz(l:aE α)(p:α->aZ)(F:aN->aN->aG R)(d a:aG R)
  (f:∀m i (h:i<l.length),p l[i]=ao->F (m+1) i=d) (e:∀m i (h:i<l.length),p l[i]=aq->F (m+1) i=F m (i+1)) (hE:∀m,F (m+1) l.length=a) (n:aN) (j:l.length<n):F n 0=bif l.any p then d else a:=by have h:=pA l (λx=> !p x) F d a (λm i h hp=>e m i h (by simpa using hp)) (λm i h hp=>f m i h (by simpa using hp)) hE n j;rw[h,List.any_eq_not_all_not];cases l.all λx=> !p x<;>rfl
def getD_map'(f:α->aE CV)(l:aE α)(i:aN)(h:i<l.length):(l.map f).getD i []=f l[i]:=by simp[eC,h]
def fG(f:α->aE CV)(l:aE α)(i j:aN)(h:i<l.length):av (l.map f) i j=(f l[i]).getD j (.b aq):=by unfold av;rw[getD_map' f l i h]
def KP(l:aE α)(p:α->aZ)(q:aN->aZ)(h:∀i (hi:i<l.length),q i=p l[i]):ah (fi q l.length 0≥0)=l.any p:=by
 rcases qK q l.length 0 with ⟨h1,h2⟩|⟨k,_,hk,h3,h4,_⟩
 ·rw[h1];symm;rw[show ah ((-1:az)≥0)=aq by decide,ZC];intro x a;obtain⟨i,hi,rfl⟩:=dW a;have:=h2 i (bB _) (by omega);rw[h i hi]at this;simp[this]
 ·rw[h3];symm;rw[show ah ((k:az)≥0)=ao by simp,List.any_eq_true];exact⟨l[k]'(by omega),bF _,by rw[<-h k (by omega)];exact h4⟩
def p9(ks:aE Ck)(y:aE CV):aC (aR ks 1) 0 y=[y]:=rfl
def pc(f:α->β)(l:aE α)(i:aN)(h:i<l.length):(l.take i).map f++[f l[i]]=(l.take (i+1)).map f:=by rw[cE h,cT];rfl
def rs(l:aE ar):Row:=l.map λk=>[CV.s k]
def ri(l:aE az):Row:=l.map λn=>[CV.i ak n]
def rr(l:aE (aE az)):Row:=l.map λq=>[CV.l 3 (ri q)]
structure En where
 k:ar
 st:az
 li:az
 bo:ar
 deriving DecidableEq
def En.row(e:En):aE CV:=[CV.s e.k,CV.i ak e.st,CV.i ak e.li,CV.s e.bo]
def re(l:aE En):Row:=l.map En.row
structure Fe where
 k:ar
 t:ar
 sta:az
 li:az
 st:az
 deriving DecidableEq
def Fe.row(e:Fe):aE CV:=[CV.s e.k,CV.s e.t,CV.i ak e.sta,CV.i ak e.li,CV.i ak e.st]
def rf(l:aE Fe):Row:=l.map Fe.row
structure Cl where
 id:az
 k:ar
 fe:az
 fr:az
 sta:az
 got:ar
 age:az
 deriving DecidableEq
def Cl.row(e:Cl):aE CV:=[CV.i ak e.id,CV.s e.k,CV.i ak e.fe,CV.i ak e.fr,CV.i ak e.sta,CV.s e.got,CV.i ak e.age]
def rc(l:aE Cl):Row:=l.map Cl.row
structure Fi where
 n:ar
 t:ar
 kp:az
 deriving DecidableEq
def Fi.row(e:Fi):aE CV:=[CV.s e.n,CV.s e.t,CV.i ak e.kp]
def rd(l:aE Fi):Row:=l.map Fi.row
def cL(l):(rs l).length=l.length:=by unfold rs;simp
def fj(l):(ri l).length=l.length:=by unfold ri;simp
def hJ(l):(rr l).length=l.length:=by unfold rr;simp
def dC(l):(re l).length=l.length:=by unfold re;simp
def dV(l):(rf l).length=l.length:=by unfold rf;simp
def eQ(l):(rc l).length=l.length:=by unfold rc;simp
def eA(l):(rd l).length=l.length:=by unfold rd;simp
def VI(h:i<l.length):av (rs l) i 0=CV.s l[i]:=fG _ l i 0 h
def Qu(h:i<l.length):av (ri l) i 0=CV.i ak l[i]:=fG _ l i 0 h
def J8(h:i<l.length):av (rr l) i 0=CV.l 3 (ri l[i]):=fG _ l i 0 h
def rc0(h:i<l.length):av (rc l) i 0=CV.i ak l[i].id:=fG _ l i 0 h
def rc1(h:i<l.length):av (rc l) i 1=CV.s l[i].k:=fG _ l i 1 h
def rc2(h:i<l.length):av (rc l) i (1+1)=CV.i ak l[i].fe:=fG _ l i 2 h
def rc3(h:i<l.length):av (rc l) i (1+1+1)=CV.i ak l[i].fr:=fG _ l i 3 h
def rc4(h:i<l.length):av (rc l) i (1+1+1+1)=CV.i ak l[i].sta:=fG _ l i 4 h
def rc5(h:i<l.length):av (rc l) i (1+1+1+1+1)=CV.s l[i].got:=fG _ l i 5 h
def rc6(h:i<l.length):av (rc l) i (1+1+1+1+1+1)=CV.i ak l[i].age:=fG _ l i 6 h
def Jv(h:i<l.length):av (rd l) i 0=CV.s l[i].n:=fG _ l i 0 h
def VG(h:i<l.length):av (rd l) i 1=CV.s l[i].t:=fG _ l i 1 h
def VH(h:i<l.length):av (rd l) i (1+1)=CV.i ak l[i].kp:=fG _ l i 2 h
end Go.FG.Lib
namespace Go.FG.Lib
def k9(f:α->aE CV)(l:aE α)(i j:aN)(a:aE CV)(y:α)(h:i<l.length)(hs:kG (f l[i]) j a=f y):eH (l.map f) i j a=(l.set i y).map f:=by unfold eH;rw[getD_map' f l i h,hs,List.map_set]
def oA{α:Type}(l:aE α)(g:aN->α->α)(i:aN):aE α:=(l.mapIdx g).take i++l.drop i
def rH(l:aE α)(g:aN->α->α)(i:aN)(h:i<=l.length):(oA l g i).length=l.length:=by unfold oA;simp;omega
def yL(l:aE α)(g:aN->α->α)(i:aN)(h:i<l.length)(h2:i<(oA l g i).length):(oA l g i)[i]=l[i]:=by
 have e:(oA l g i)[i]? =ai l[i]:=by unfold oA;rw[de (by simp;omega)];simp[show min i l.length=i by omega]
 rw[fC h2]at e;exact aL e
def uD(l:aE α)(g:aN->α->α)(i:aN)(h:i<l.length):(oA l g i).set i (g i l[i])=oA l g (i+1):=by
 unfold oA;have hl:((l.mapIdx g).take i).length=i:=by simp;omega
 rw[List.set_append_right _ _ (by omega),hl,qe,cJ h,List.set_cons_zero,cE (by simpa using h),cg];simp
def DF(l:aE α)(g:aN->α->α):oA l g 0=l:=by unfold oA;simp
def rG(l:aE α)(g:aN->α->α):oA l g l.length=l.mapIdx g:=by unfold oA;rw[c_,d_,e8 (by simp)]
def nT{α R:Type}(f:α->aE CV)(l:aE α)(g:aN->α->α)(F:aN->aN->Row->aG R)(K:Row->aG R)
  (a:∀m i (L:aE α) (h:i<l.length) (h2:i<L.length),L.length=l.length->L[i]=l[i]->F (m+1) i (L.map f)=F m (i+1) ((L.set i (g i l[i])).map f))
  (hE:∀m (L:aE α),L.length=l.length->F (m+1) l.length (L.map f)=K (L.map f)) (n:aN) (d:l.length<n):F n 0 (l.map f)=K ((l.mapIdx g).map f):=by
 have:=iz l.length F (λi=>(oA l g i).map f) (K ((l.mapIdx g).map f)) (λm i h=>by
  have h1:=rH l g i (by omega);rw[a m i (oA l g i) h (by omega) h1 (yL l g i h (by omega)),uD l g i h]) (λm=>by
  rw[hE m _ (rH l g _ (bW _)),rG]) n 0 (bB _) (by omega)
 rw[show l.map f=(oA l g 0).map f by rw[DF]];exact this
end Go.FG.Lib
namespace Go.FG.Lib
instance:Inhabited En:=⟨⟨⟨#[]⟩,0,0,⟨#[]⟩⟩⟩
instance:Inhabited Fe:=⟨⟨⟨#[]⟩,⟨#[]⟩,0,0,0⟩⟩
instance:Inhabited Cl:=⟨⟨0,⟨#[]⟩,0,0,0,⟨#[]⟩,0⟩⟩
instance:Inhabited Fi:=⟨⟨⟨#[]⟩,⟨#[]⟩,0⟩⟩
def el{α:Type}[Inhabited α](l:aE α)(i:aN):α:=l.getD i default
def e7{α:Type}[Inhabited α]{l:aE α}{i:aN}(h:i<l.length):el l i=l[i]:=by unfold el;simp[eC,h]
def iY{α:Type}[Inhabited α]{l:aE α}{i:aN}(h:i<l.length):el l i∈l:=by rw[e7 h];exact bF h
def fM{α:Type}[Inhabited α](f:α->aE CV)(l:aE α)(i j:aN)(h:i<l.length):av (l.map f) i j=(f (el l i)).getD j (.b aq):=by rw[fG f l i j h,e7 h]
def rJ(h:i<l.length):av (re l) i 0=CV.s (el l i).k:=fM _ l i 0 h
def wG(h:i<l.length):av (re l) i 1=CV.i ak (el l i).st:=fM _ l i 1 h
def wH(h:i<l.length):av (re l) i (1+1)=CV.i ak (el l i).li:=fM _ l i 2 h
def wI(h:i<l.length):av (re l) i (1+1+1)=CV.s (el l i).bo:=fM _ l i 3 h
def L5(h:i<l.length):av (rf l) i 0=CV.s (el l i).k:=fM _ l i 0 h
def J_(h:i<l.length):av (rf l) i 1=CV.s (el l i).t:=fM _ l i 1 h
def wf2(h:i<l.length):av (rf l) i (1+1)=CV.i ak (el l i).sta:=fM _ l i 2 h
def DI(h:i<l.length):av (rf l) i 2=CV.i ak (el l i).sta:=fM _ l i 2 h
def wf3(h:i<l.length):av (rf l) i (1+1+1)=CV.i ak (el l i).li:=fM _ l i 3 h
def wf4(h:i<l.length):av (rf l) i (1+1+1+1)=CV.i ak (el l i).st:=fM _ l i 4 h
def Qv(h:i<l.length):av (rc l) i 0=CV.i ak (el l i).id:=fM _ l i 0 h
def wc1(h:i<l.length):av (rc l) i 1=CV.s (el l i).k:=fM _ l i 1 h
def wc2(h:i<l.length):av (rc l) i (1+1)=CV.i ak (el l i).fe:=fM _ l i 2 h
def wc3(h:i<l.length):av (rc l) i (1+1+1)=CV.i ak (el l i).fr:=fM _ l i 3 h
def YV(h:i<l.length):av (rc l) i (1+1+1+1)=CV.i ak (el l i).sta:=fM _ l i 4 h
def YW(h:i<l.length):av (rc l) i (1+1+1+1+1)=CV.s (el l i).got:=fM _ l i 5 h
def YX(h:i<l.length):av (rc l) i (1+1+1+1+1+1)=CV.i ak (el l i).age:=fM _ l i 6 h
def wd0(h:i<l.length):av (rd l) i 0=CV.s (el l i).n:=fM _ l i 0 h
def wd1(h:i<l.length):av (rd l) i 1=CV.s (el l i).t:=fM _ l i 1 h
def wd2(h:i<l.length):av (rd l) i (1+1)=CV.i ak (el l i).kp:=fM _ l i 2 h
structure Px where
 now:az
 en:aE En
 w:aE ar
 m:aE ar
 s:aE (aE az)
 a:az
 fe:aE Fe
 cl:aE Cl
 hits:az
structure Px.Fit (p:Px) (n:aN):Prop where
 en:p.en.length<=n
 w:p.w.length<=n
 m:p.m.length<=n
 s:p.s.length<=n/\(∀q∈p.s,q.length<=n)/\(p.s.map bD).sum<=n
 fe:p.fe.length<=n
 cl:p.cl.length<=n
def Px.Fit.le{p:Px}{n m:aN}(h:p.Fit n)(hm:n<=m):p.Fit m:=⟨ca h.en hm,ca h.w hm,ca h.m hm,⟨ca h.s.1 hm,λq hq=>ca (h.s.2.1 q hq) hm,ca h.s.2.2 hm⟩,ca h.fe hm,ca h.cl hm⟩
def lZ{i:aN}(h:0<i)(h2:i<=9223372036854775807):bA ((i:az)-1)=((i-1:aN):az):=by rw[c6 (by omega) (by omega)];omega
def GO(f g:aN->aZ):((c7 n).all λi=>f i&&g i)=((c7 n).all f&&(c7 n).all g):=by
 induction n with
 |zero=>rfl
 |succ n ih=>simp only[Vr,ph,iS,DY,gE,ih];cases (c7 n).all f<;>cases (c7 n).all g<;>cases f n<;>cases g n<;>rfl
end Go.FG.Lib
namespace Go.FG
namespace Lib
def ap{α β:Type}(f:α->β)(x:α):β:=f x
def bq{α R:Type}{o:aG α}{d:α}{g:aG R}{k:α->aG R}(a:nK o=ao)(h:g=Option.bind o k):g=ap k (ZF o d):=by rw[h,some_ a (d:=d)];rfl
end Lib
end Go.FG
namespace Go.FG.Lib
def Nl(l:aE α)(p:α->aZ)(f:aN->aN->aG R)(a:aN->aN->aE α->aG R)(res:aE α->aG R)
  (a1:∀m i (h:i<l.length),p l[i]=ao->f (m+1) i=a m (i+1) [l[i]]) (a2:∀m i (h:i<l.length),p l[i]=aq->f (m+1) i=f m (i+1)) (a3:∀m,f (m+1) l.length=res [])
  (k:∀m i acc (h:i<l.length),acc.length<=i->p l[i]=ao->a (m+1) i acc=a m (i+1) (acc++[l[i]])) (o:∀m i acc (h:i<l.length),p l[i]=aq->a (m+1) i acc=a m (i+1) acc) (j:∀m acc,a (m+1) l.length acc=res acc)
  (n:aN) (r:l.length<n):f n 0=res (l.filter p):=by
 have t:∀d i acc m,l.length-i<=d->i<=l.length->acc.length<=i->d<m->a m i acc=res (acc++(l.drop i).filter p):=by
  intro d;induction d with
  |zero=>
   intro i acc m h1 h2 h3 h4;obtain⟨m,rfl⟩:∃e,m=e+1:=⟨m-1,by omega⟩
   have:i=l.length:=by omega
   subst this;rw[j,c_];simp
  |succ d ih=>
   intro i acc m h1 h2 h3 h4;obtain⟨m,rfl⟩:∃e,m=e+1:=⟨m-1,by omega⟩
   by_cases hi:i<l.length
   ·rw[cJ hi];cases hp:p l[i]with
    |true=>rw[k m i acc hi h3 hp,ih (i+1) _ m (by omega) hi (by simp;omega) (by omega),dI hp];simp
    |false=>rw[o m i acc hi hp,ih (i+1) _ m (by omega) hi (by omega) (by omega),cM (by simp[hp])]
   ·have:i=l.length:=by omega
    subst this;rw[j,c_];simp
 have s:∀d i m,l.length-i<=d->i<=l.length->d<m->f m i=res ((l.drop i).filter p):=by
  intro d;induction d with
  |zero=>
   intro i m h1 h2 h4;obtain⟨m,rfl⟩:∃e,m=e+1:=⟨m-1,by omega⟩
   have:i=l.length:=by omega
   subst this;rw[a3,c_];rfl
  |succ d ih=>
   intro i m h1 h2 h4;obtain⟨m,rfl⟩:∃e,m=e+1:=⟨m-1,by omega⟩
   by_cases hi:i<l.length
   ·rw[cJ hi];cases hp:p l[i]with
    |true=>rw[a1 m i hi hp,t d (i+1) _ m (by omega) hi (by simp) (by omega),dI hp];simp
    |false=>rw[a2 m i hi hp,ih (i+1) m (by omega) hi (by omega),cM (by simp[hp])]
   ·have:i=l.length:=by omega
    subst this;rw[a3,c_];rfl
 have:=s l.length 0 n (by omega) (bB _) r;rwa[gz]at this
def CS(l:aE α)(p:α->aZ)(a:aN->aN->aE α->aG R)(res:aE α->aG R)(c0:aE α)
  (j:∀m i acc (h:i<l.length),acc.length<=c0.length+i->p l[i]=ao->a (m+1) i acc=a m (i+1) (acc++[l[i]])) (k:∀m i acc (h:i<l.length),p l[i]=aq->a (m+1) i acc=a m (i+1) acc) (f:∀m acc,a (m+1) l.length acc=res acc)
  (n:aN) (o:l.length<n):a n 0 c0=res (c0++l.filter p):=by
 have r:∀d i acc m,l.length-i<=d->i<=l.length->acc.length<=c0.length+i->d<m->a m i acc=res (acc++(l.drop i).filter p):=by
  intro d;induction d with
  |zero=>
   intro i acc m h1 h2 h3 h4;obtain⟨m,rfl⟩:∃e,m=e+1:=⟨m-1,by omega⟩
   have:i=l.length:=by omega
   subst this;rw[f,c_];simp
  |succ d ih=>
   intro i acc m h1 h2 h3 h4;obtain⟨m,rfl⟩:∃e,m=e+1:=⟨m-1,by omega⟩
   by_cases hi:i<l.length
   ·rw[cJ hi];cases hp:p l[i]with
    |true=>rw[j m i acc hi h3 hp,ih (i+1) _ m (by omega) hi (by simp;omega) (by omega),dI hp];simp
    |false=>rw[k m i acc hi hp,ih (i+1) _ m (by omega) hi (by omega) (by omega),cM (by simp[hp])]
   ·have:i=l.length:=by omega
    subst this;rw[f,c_];simp
 have:=r l.length 0 c0 n (by omega) (bB _) (by omega) o;rwa[gz]at this
def Aw(p q:α->aZ):∀r:aE α,(∀y∈r,q y= !p y)->r.Pairwise (λy z=>p z=ao->p y=ao)->r.takeWhile p=r.filter p/\r.dropWhile p=r.filter q
 |[],_,_=>⟨rfl,rfl⟩
 |y::r,hq,h=>by
  rw[qT]at h;have e:=hq y (by simp);cases hp:p y with
  |true=>rw[hp]at e;obtain⟨j,k⟩:=Aw p q r (λz a=>hq z (by simp[a])) h.2;rw[qA hp,dI hp,List.dropWhile_cons_of_pos hp,cM (by rw[e];simp),j,k];exact⟨rfl,rfl⟩
  |false=>
   rw[hp]at e;have d:¬p y=true:=by rw[hp];simp
   have i:∀z∈r,p z=false:=λz a=>by
    cases f:p z with
    |false=>rfl
    |true=>exact cO (h.1 z a f) d
   rw[qz d,cM d,List.dropWhile_cons_of_neg d,dI (by rw[e];rfl)];refine⟨?_,?_⟩
   ·symm;rw[List.filter_eq_nil_iff];intro z a;rw[i z a];simp
   ·congr 1;symm;rw[ka];intro z a;rw[hq z (by simp[a]),i z a];rfl
end Go.FG.Lib
