/- Plain facts on numbers, texts and lists. No condition. -/
import Derived.Test.YtilcgpcemjeaeaaGreatCorec
set_option linter.unusedVariables false
set_option linter.unusedSimpArgs false
set_option maxRecDepth 100000
open Bool renaming true->ai,false->ak,true_and->bh,and_eq_true->aL,and_true->jY
open Go.IntKind renaming i64->ao
open List renaming beq->cF,takeWhile_cons_of_pos->pY,takeWhile_cons_of_neg->pX,length_cons->de,length_nil->jL,length->bM,takeWhile_append_dropWhile->ni,length_append->bV,filter_cons_of_pos->dC,filter_cons_of_neg->cy,drop_length->di,range->cR,range'->iP,all_cons->uI,range_eq_range'->Wt,range_succ->VD,all_append->BB,drop_eq_getElem_cons->dD,getD->j_,any_eq_false->Z1,getElem_of_mem->c8,getElem_mem->bA,set->aA,take_succ_eq_append_getElem->cB,map_append->dh,getElem?_append_right->dc,getElem?_eq_getElem->eR,append_assoc->cq,append_nil->dj,take_of_length_le->ja,drop_zero->fu,pairwise_cons->qn,filter_eq_self->eE
open Nat renaming zero_le->bB,sub_zero->rX,le_trans->dg,blt->qk,beq->bD,le_refl->cw
open Option renaming some->ah,isSome->nz,getD->Z4
open Option.some renaming inj->aJ
open _root_ renaming Nat->aE,Option->az,Int->ax,ByteArray->aq,List->aC,Bool->aW,congrArg->lI,cond_true->au,cond_false->ay,absurd->cO
namespace Go.FG.Lib
theorem qz{σ β:Type}(F:aE->σ->az β)(mu:σ->aE)(inv:σ->Prop)(post:β->Prop)
  (step:∀n s,inv s->(∃b,F (n+1) s=ah b/\post b)\/∃s',inv s'/\mu s'<mu s/\F (n+1) s=F n s'):∀n s,inv s->mu s<n->∃b,F n s=ah b/\post b:=by
 intro n;induction n with
 |zero=>intro s _ h;omega
 |succ n ih=>
  intro s hi hm;rcases step n s hi with h|⟨s',h1,h2,h4⟩
  ·exact h
  ·rw[h4];exact ih s' h1 (by omega)
theorem cC{n:aE}(h:n<=9223372036854775807):n<cU:=by unfold cU;omega
theorem c9{x:ax}(h1: -9223372036854775808<=x)(h2:x<=9223372036854775807):bH x=x:=iE h1 h2
theorem awE{x:ax}(h0: -9223372036854775808<=x:=by omega)(h1:x<=9223372036854775807:=by omega):bH x=x:=c9 h0 h1
theorem kD(a:aq):cF a.toList a.toList=true:=qt _
theorem CM(x:CV):(bytesOf [[x]]).size=1:=by rw[gJ];rfl
theorem adh(p:aC CV->aW):∀(r:aQ) (i:aE),i<(r.takeWhile p).length->∃h:i<r.length,p r[i]=ai
 |[],i,h=>by simp at h
 |y::r,i,h=>by
  by_cases hp:p y=ai
  ·rw[pY hp]at h;cases i with
   |zero=>exact⟨by simp,hp⟩
   |succ i=>obtain⟨h1,h2⟩:=adh p r i (by simpa using h);exact⟨by simpa using h1,by simpa using h2⟩
  ·rw[pX hp]at h;simp at h
theorem adg(p:aC CV->aW):∀(r:aQ) (h:(r.takeWhile p).length<r.length),p r[(r.takeWhile p).length]=ak
 |[],h=>by simp at h
 |y::r,h=>by
  by_cases hp:p y=ai
  ·have e:=pY (l:=r) hp;have h':(r.takeWhile p).length<r.length:=by rw[e]at h;simpa using h
   have:=adg p r h';simp only[e,de,List.getElem_cons_succ];exact this
  ·have e:=pX (l:=r) hp;simp only[e,jL,List.getElem_cons_zero];simpa using hp
theorem EW(p:aC CV->aW)(r:aQ):(r.takeWhile p).length<=r.length:=by have:=lI bM (ni (p:=p) (l:=r));rw[bV]at this;omega
theorem xX(p:aC CV->aW)(r:aQ):r.take (r.takeWhile p).length=r.takeWhile p:=by have e:=ni (p:=p) (l:=r);have:=List.take_left (l₁:=r.takeWhile p) (l₂:=r.dropWhile p);rw[e]at this;exact this
theorem wR(p:aC CV->aW)(r:aQ):r.drop (r.takeWhile p).length=r.dropWhile p:=by have e:=ni (p:=p) (l:=r);have:=List.drop_left (l₁:=r.takeWhile p) (l₂:=r.dropWhile p);rw[e]at this;exact this
theorem tL{R:Type}(p:aC CV->aW)(r:aQ)(F:aE->aE->az R)(K:aE->az R)
  (hT:∀m i (h:i<r.length),p r[i]=ai->F (m+1) i=F m (i+1)) (hF:∀m i (h:i<r.length),p r[i]=ak->F (m+1) i=K i) (hE:∀m,F (m+1) r.length=K r.length)
  (n:aE) (hn:r.length<n):F n 0=K (r.takeWhile p).length:=by
 refine fQ F (λi=>r.length-i) (λi=>i<=(r.takeWhile p).length) (λ_=>K (r.takeWhile p).length) (λm i hi=> ?_) n 0 (bB _) (by omega);have hl:=EW p r;by_cases h:i<(r.takeWhile p).length
 ·obtain⟨h1,h2⟩:=adh p r i h;exact .inr ⟨i+1,h,by omega,rfl,hT m i h1 h2⟩
 ·left;have lZ:i=(r.takeWhile p).length:=by omega
  subst lZ;by_cases h2:(r.takeWhile p).length<r.length
  ·exact hF m _ h2 (adg p r h2)
  ·have h3:(r.takeWhile p).length=r.length:=by omega
   rw[h3];exact hE m
theorem wY{R:Type}(p:aC CV->aW)(f:aC CV->aC CV)(r:aQ)(m0:aE)(F:aE->aE->aQ->az R)(K:aQ->az R)
  (hT:∀m i acc (h:i<r.length),acc.length<=m0+i->p r[i]=ai->F (m+1) i acc=F m (i+1) (acc++[f r[i]])) (hF:∀m i acc (h:i<r.length),acc.length<=m0+i->p r[i]=ak->F (m+1) i acc=F m (i+1) acc)
  (hE:∀m acc,F (m+1) r.length acc=K acc) (n:aE) (acc:aQ) (ha:acc.length<=m0) (hn:r.length<n):F n 0 acc=K (acc++(r.filter p).map f):=by
 have:=fQ (λn (s:aE×aQ)=>F n s.1 s.2) (λs=>r.length-s.1) (λs=>s.1<=r.length/\s.2.length<=m0+s.1) (λs=>K (s.2++((r.drop s.1).filter p).map f)) (λm s hs=>by
  obtain⟨i,acc⟩:=s;obtain⟨h1,h2⟩:=hs;dsimp only at h1 h2⊢;by_cases h:i<r.length
  ·right;rw[eF h];cases hp:p r[i]with
   |true=>exact⟨(i+1,acc++[f r[i]]),⟨h,by simp;omega⟩,by dsimp only;omega,by rw[dC hp];simp,hT m i acc h h2 hp⟩
   |false=>exact⟨(i+1,acc),⟨h,by dsimp only;omega⟩,by dsimp only;omega,by rw[cy (by simp[hp])],hF m i acc h h2 hp⟩
  ·left;have hi:i=r.length:=by omega
   subst hi;rw[di];simpa using hE m acc) n (0,acc) ⟨bB _,by dsimp only;omega⟩ (by dsimp only;omega)
 simpa using this
theorem jQ{R:Type}(g:aE->aW)(len:aE)(F:aE->aE->az R)(kf kt:az R)(hT:∀m i,i<len->g i=ai->F (m+1) i=F m (i+1))(hF:∀m i,i<len->g i=ak->F (m+1) i=kf)(hE:∀m,F (m+1) len=kt)(n:aE)(hn:len<n):F n 0=bif(cR len).all g then kt else kf:=by
 have:=fQ F (λi=>len-i) (λi=>i<=len) (λi=>bif(iP i (len-i)).all g then kt else kf) (λm i hi=>by
  by_cases h:i<len
  ·have e:(iP i (len-i)).all g=(g i&&(iP (i+1) (len-(i+1))).all g):=by rw[show len-i=(len-(i+1))+1 by omega,List.range'_succ,uI]
   cases hp:g i with
   |true=>right;exact⟨i+1,h,by omega,by rw[e,hp,bh],hT m i h hp⟩
   |false=>left;rw[e,hp,hF m i h hp];rfl
  ·left;have:i=len:=by omega
   subst this;rw[hE,Nat.sub_self];rfl) n 0 (bB _) (by omega)
 rw[this,rX,<-Wt]
theorem nY{R:Type}(p:aE->aW)(len:aE)(F:aE->aE->az R)(kr:ax->az R)(h1:∀m i,i<len->p i=ai->F (m+1) i=kr i)(h2:∀m i,i<len->p i=ak->F (m+1) i=F m (i+1))(h3:∀m,F (m+1) len=kr (-1))(n:aE)(hn:len<n):F n 0=kr (fi p len 0):=by
 have:=fQ F (λi=>len-i) (λi=>i<=len) (λi=>kr (fi p (len-i) i)) (λm i hi=>by
  by_cases h:i<len
  ·have e:len-i=(len-(i+1))+1:=by omega
   cases hp:p i with
   |true=>left;rw[h1 m i h hp,e];simp[fi,hp]
   |false=>right;exact⟨i+1,h,by omega,by rw[e];simp[fi,hp],h2 m i h hp⟩
  ·left;have:i=len:=by omega
   subst this;rw[h3,Nat.sub_self];rfl) n 0 (by omega) (by omega)
 simpa using this
theorem all_congr{g h:aE->aW}{n:aE}(e:∀i,i<n->g i=h i):(cR n).all g=(cR n).all h:=by
 induction n with
 |zero=>rfl
 |succ n ih=>rw[VD,BB,BB,ih (λi hi=>e i (by omega))];simp[e n (by omega)]
theorem Iw{T:Tab}(hT:∀e ti,T.ty e=ah ti->0<ti.bytes):∀y,qT T y->Fit y
 |_, .i k n _=>Fit.i k n
 |_, .b x=>Fit.b x
 |_, .s x h=>Fit.s x (dg h (by omega))
 |_, .l e xs ti h h1 h2 h3=>by
  have hp:=hT e ti h;have hle:xs.length*1<=xs.length*ti.bytes:=Nat.mul_le_mul_left _ hp;exact Fit.l e xs (by omega) (λy hy x hx=>Iw hT x (h3 y hy x hx))
theorem T9:∀{rows:aC pK},rows.all (λr=>qk 0 r.ti.bytes)=ai->∀e ti,AJ rows e=ah ti->0<ti.bytes
 |[],_,_,_,h=>by cases h
 |r::rs,h,e,ti,h2=>by
  rw[uI,aL]at h;unfold AJ at h2;cases hb:bD e r.t with
  |true=>rw[hb,au]at h2;obtain rfl:=aJ h2;have h1:=h.1;simp[qk]at h1;omega
  |false=>rw[hb,ay]at h2;exact T9 h.2 e ti h2
theorem aac{rows:aC pK}{T:Tab}(hT:T.ty=AJ rows)(h:rows.all (λr=>qk 0 r.ti.bytes)=ai){e:aE}{xs:aQ}(hf:qT T (.l e xs)):vA xs:=by
 cases Iw (λe ti he=>T9 h e ti (by rw[<-hT];exact he)) _ hf with
 |l _ _ h1 h2=>exact⟨h1,h2⟩
end Go.FG.Lib

namespace Go.FG.Lib
theorem lY{σ R:Type}(len:aE)(F:aE->aE->σ->az R)(st:aE->σ)(res:az R)
  (hS:∀m i,i<len->F (m+1) i (st i)=F m (i+1) (st (i+1))) (hE:∀m,F (m+1) len (st len)=res) (n i0:aE) (h0:i0<=len) (hn:len-i0<n):F n i0 (st i0)=res:=by
 refine fQ (λn i=>F n i (st i)) (λi=>len-i) (λi=>i<=len) (λ_=>res) (λm i hi=> ?_) n i0 h0 hn;by_cases h:i<len
 ·exact .inr ⟨i+1,h,by omega,rfl,hS m i h⟩
 ·left;have:i=len:=by omega
  subst this;exact hE m
theorem o0{α R:Type}(l:aC α)(p:α->aW)(F:aE->aE->az R)(kf kt:az R)
  (hT:∀m i (h:i<l.length),p l[i]=ai->F (m+1) i=F m (i+1)) (hF:∀m i (h:i<l.length),p l[i]=ak->F (m+1) i=kf) (hE:∀m,F (m+1) l.length=kt) (n:aE) (hn:l.length<n):F n 0=bif l.all p then kt else kf:=by
 have:=fQ F (λi=>l.length-i) (λi=>i<=l.length) (λi=>bif(l.drop i).all p then kt else kf) (λm i hi=>by
  by_cases h:i<l.length
  ·have e:(l.drop i).all p=(p l[i]&&(l.drop (i+1)).all p):=by rw[dD h,uI]
   cases hp:p l[i]with
   |true=>right;exact⟨i+1,h,by omega,by rw[e,hp,bh],hT m i h hp⟩
   |false=>left;rw[e,hp,hF m i h hp];rfl
  ·left;have:i=l.length:=by omega
   subst this;rw[hE,di];rfl) n 0 (bB _) (by omega)
 simpa using this
theorem BK{α R:Type}(l:aC α)(p:α->aW)(F:aE->aE->az R)(kt kf:az R)
  (hT:∀m i (h:i<l.length),p l[i]=ai->F (m+1) i=kt) (hF:∀m i (h:i<l.length),p l[i]=ak->F (m+1) i=F m (i+1)) (hE:∀m,F (m+1) l.length=kf) (n:aE) (hn:l.length<n):F n 0=bif l.any p then kt else kf:=by have h:=o0 l (λx=> !p x) F kt kf (λm i h hp=>hF m i h (by simpa using hp)) (λm i h hp=>hT m i h (by simpa using hp)) hE n hn;rw[h,List.any_eq_not_all_not];cases l.all λx=> !p x<;>rfl
theorem getD_map'{α:Type}(f:α->aC CV)(l:aC α)(i:aE)(h:i<l.length):(l.map f).getD i []=f l[i]:=by simp[j_,h]
theorem fE{α:Type}(f:α->aC CV)(l:aC α)(i j:aE)(h:i<l.length):ar (l.map f) i j=(f l[i]).getD j (.b ak):=by unfold ar;rw[getD_map' f l i h]
theorem Kx{α:Type}(l:aC α)(p:α->aW)(q:aE->aW)(h:∀i (hi:i<l.length),q i=p l[i]):decide (fi q l.length 0≥0)=l.any p:=by
 rcases o_ q l.length 0 with ⟨h1,h2⟩|⟨k,_,hk,h3,h4,_⟩
 ·rw[h1];symm;rw[show decide ((-1:ax)≥0)=ak by decide,Z1];intro x hx;obtain⟨i,hi,rfl⟩:=c8 hx;have:=h2 i (bB _) (by omega);rw[h i hi]at this;simp[this]
 ·rw[h3];symm;rw[show decide ((k:ax)≥0)=ai by simp,List.any_eq_true];exact⟨l[k]'(by omega),bA _,by rw[<-h k (by omega)];exact h4⟩
theorem pF(ks:aC Ck)(y:aC CV):aA (aN ks 1) 0 y=[y]:=rfl
theorem oO{α β:Type}(f:α->β)(l:aC α)(i:aE)(h:i<l.length):(l.take i).map f++[f l[i]]=(l.take (i+1)).map f:=by rw[cB h,dh];rfl
def rs(l:aC aq):aQ:=l.map λk=>[CV.s k]
def ri(l:aC ax):aQ:=l.map λn=>[CV.i ao n]
def rr(l:aC (aC ax)):aQ:=l.map λq=>[CV.l 3 (ri q)]
structure En where
 k:aq
 st:ax
 li:ax
 bo:aq
 deriving DecidableEq
def En.row(e:En):aC CV:=[CV.s e.k,CV.i ao e.st,CV.i ao e.li,CV.s e.bo]
def re(l:aC En):aQ:=l.map En.row
structure Fe where
 k:aq
 t:aq
 sta:ax
 li:ax
 st:ax
 deriving DecidableEq
def Fe.row(e:Fe):aC CV:=[CV.s e.k,CV.s e.t,CV.i ao e.sta,CV.i ao e.li,CV.i ao e.st]
def rf(l:aC Fe):aQ:=l.map Fe.row
structure Cl where
 id:ax
 k:aq
 fe:ax
 fr:ax
 sta:ax
 got:aq
 age:ax
 deriving DecidableEq
def Cl.row(e:Cl):aC CV:=[CV.i ao e.id,CV.s e.k,CV.i ao e.fe,CV.i ao e.fr,CV.i ao e.sta,CV.s e.got,CV.i ao e.age]
def rc(l:aC Cl):aQ:=l.map Cl.row
structure Fi where
 n:aq
 t:aq
 kp:ax
 deriving DecidableEq
def Fi.row(e:Fi):aC CV:=[CV.s e.n,CV.s e.t,CV.i ao e.kp]
def rd(l:aC Fi):aQ:=l.map Fi.row
theorem eH(l):(rs l).length=l.length:=by unfold rs;simp
theorem gf(l):(ri l).length=l.length:=by unfold ri;simp
theorem gH(l):(rr l).length=l.length:=by unfold rr;simp
theorem dA(l):(re l).length=l.length:=by unfold re;simp
theorem dP(l):(rf l).length=l.length:=by unfold rf;simp
theorem e9(l):(rc l).length=l.length:=by unfold rc;simp
theorem er(l):(rd l).length=l.length:=by unfold rd;simp
theorem V0{l:aC aq}{i:aE}(h:i<l.length):ar (rs l) i 0=CV.s l[i]:=fE _ l i 0 h
theorem P9{l:aC ax}{i:aE}(h:i<l.length):ar (ri l) i 0=CV.i ao l[i]:=fE _ l i 0 h
theorem Jm{l:aC (aC ax)}{i:aE}(h:i<l.length):ar (rr l) i 0=CV.l 3 (ri l[i]):=fE _ l i 0 h
theorem rc0{l:aC Cl}{i:aE}(h:i<l.length):ar (rc l) i 0=CV.i ao l[i].id:=fE _ l i 0 h
theorem rc1{l:aC Cl}{i:aE}(h:i<l.length):ar (rc l) i 1=CV.s l[i].k:=fE _ l i 1 h
theorem rc2{l:aC Cl}{i:aE}(h:i<l.length):ar (rc l) i (1+1)=CV.i ao l[i].fe:=fE _ l i 2 h
theorem rc3{l:aC Cl}{i:aE}(h:i<l.length):ar (rc l) i (1+1+1)=CV.i ao l[i].fr:=fE _ l i 3 h
theorem rc4{l:aC Cl}{i:aE}(h:i<l.length):ar (rc l) i (1+1+1+1)=CV.i ao l[i].sta:=fE _ l i 4 h
theorem rc5{l:aC Cl}{i:aE}(h:i<l.length):ar (rc l) i (1+1+1+1+1)=CV.s l[i].got:=fE _ l i 5 h
theorem rc6{l:aC Cl}{i:aE}(h:i<l.length):ar (rc l) i (1+1+1+1+1+1)=CV.i ao l[i].age:=fE _ l i 6 h
theorem Jj{l:aC Fi}{i:aE}(h:i<l.length):ar (rd l) i 0=CV.s l[i].n:=fE _ l i 0 h
theorem VY{l:aC Fi}{i:aE}(h:i<l.length):ar (rd l) i 1=CV.s l[i].t:=fE _ l i 1 h
theorem VZ{l:aC Fi}{i:aE}(h:i<l.length):ar (rd l) i (1+1)=CV.i ao l[i].kp:=fE _ l i 2 h
end Go.FG.Lib
namespace Go.FG.Lib
theorem kO{α:Type}(f:α->aC CV)(l:aC α)(i j:aE)(ys:aC CV)(y:α)(h:i<l.length)(hs:iD (f l[i]) j ys=f y):eA (l.map f) i j ys=(l.set i y).map f:=by unfold eA;rw[getD_map' f l i h,hs,List.map_set]
def n8{α:Type}(l:aC α)(g:aE->α->α)(i:aE):aC α:=(l.mapIdx g).take i++l.drop i
theorem qG{α:Type}(l:aC α)(g:aE->α->α)(i:aE)(h:i<=l.length):(n8 l g i).length=l.length:=by unfold n8;simp;omega
theorem xY{α:Type}(l:aC α)(g:aE->α->α)(i:aE)(h:i<l.length)(h2:i<(n8 l g i).length):(n8 l g i)[i]=l[i]:=by
 have e:(n8 l g i)[i]? =ah l[i]:=by unfold n8;rw[dc (by simp;omega)];simp[show min i l.length=i by omega]
 rw[eR h2]at e;exact aJ e
theorem tO{α:Type}(l:aC α)(g:aE->α->α)(i:aE)(h:i<l.length):(n8 l g i).set i (g i l[i])=n8 l g (i+1):=by
 unfold n8;have hl:((l.mapIdx g).take i).length=i:=by simp;omega
 rw[List.set_append_right _ _ (by omega),hl,Nat.sub_self,dD h,List.set_cons_zero,cB (by simpa using h),cq];simp
theorem CU{α:Type}(l:aC α)(g:aE->α->α):n8 l g 0=l:=by unfold n8;simp
theorem qF{α:Type}(l:aC α)(g:aE->α->α):n8 l g l.length=l.mapIdx g:=by unfold n8;rw[di,dj,ja (by simp)]
theorem nE{α R:Type}(f:α->aC CV)(l:aC α)(g:aE->α->α)(F:aE->aE->aQ->az R)(K:aQ->az R)
  (hS:∀m i (L:aC α) (h:i<l.length) (h2:i<L.length),L.length=l.length->L[i]=l[i]->F (m+1) i (L.map f)=F m (i+1) ((L.set i (g i l[i])).map f))
  (hE:∀m (L:aC α),L.length=l.length->F (m+1) l.length (L.map f)=K (L.map f)) (n:aE) (hn:l.length<n):F n 0 (l.map f)=K ((l.mapIdx g).map f):=by
 have:=lY l.length F (λi=>(n8 l g i).map f) (K ((l.mapIdx g).map f)) (λm i h=>by
  have h1:=qG l g i (by omega);rw[hS m i (n8 l g i) h (by omega) h1 (xY l g i h (by omega)),tO l g i h]) (λm=>by
  rw[hE m _ (qG l g _ (cw _)),qF]) n 0 (bB _) (by omega)
 rw[show l.map f=(n8 l g 0).map f by rw[CU]];exact this
end Go.FG.Lib

namespace Go.FG.Lib
instance:Inhabited En:=⟨⟨⟨#[]⟩,0,0,⟨#[]⟩⟩⟩
instance:Inhabited Fe:=⟨⟨⟨#[]⟩,⟨#[]⟩,0,0,0⟩⟩
instance:Inhabited Cl:=⟨⟨0,⟨#[]⟩,0,0,0,⟨#[]⟩,0⟩⟩
instance:Inhabited Fi:=⟨⟨⟨#[]⟩,⟨#[]⟩,0⟩⟩
def el{α:Type}[Inhabited α](l:aC α)(i:aE):α:=l.getD i default
theorem fF{α:Type}[Inhabited α]{l:aC α}{i:aE}(h:i<l.length):el l i=l[i]:=by unfold el;simp[j_,h]
theorem mh{α:Type}[Inhabited α]{l:aC α}{i:aE}(h:i<l.length):el l i∈l:=by rw[fF h];exact bA h
theorem fY{α:Type}[Inhabited α](f:α->aC CV)(l:aC α)(i j:aE)(h:i<l.length):ar (l.map f) i j=(f (el l i)).getD j (.b ak):=by rw[fE f l i j h,fF h]
theorem pz{l:aC En}{i:aE}(h:i<l.length):ar (re l) i 0=CV.s (el l i).k:=fY _ l i 0 h
theorem rR{l:aC En}{i:aE}(h:i<l.length):ar (re l) i 1=CV.i ao (el l i).st:=fY _ l i 1 h
theorem rS{l:aC En}{i:aE}(h:i<l.length):ar (re l) i (1+1)=CV.i ao (el l i).li:=fY _ l i 2 h
theorem rT{l:aC En}{i:aE}(h:i<l.length):ar (re l) i (1+1+1)=CV.s (el l i).bo:=fY _ l i 3 h
theorem Hg{l:aC Fe}{i:aE}(h:i<l.length):ar (rf l) i 0=CV.s (el l i).k:=fY _ l i 0 h
theorem E0{l:aC Fe}{i:aE}(h:i<l.length):ar (rf l) i 1=CV.s (el l i).t:=fY _ l i 1 h
theorem Zi{l:aC Fe}{i:aE}(h:i<l.length):ar (rf l) i (1+1)=CV.i ao (el l i).sta:=fY _ l i 2 h
theorem zK{l:aC Fe}{i:aE}(h:i<l.length):ar (rf l) i 2=CV.i ao (el l i).sta:=fY _ l i 2 h
theorem Qa{l:aC Fe}{i:aE}(h:i<l.length):ar (rf l) i (1+1+1)=CV.i ao (el l i).li:=fY _ l i 3 h
theorem Qb{l:aC Fe}{i:aE}(h:i<l.length):ar (rf l) i (1+1+1+1)=CV.i ao (el l i).st:=fY _ l i 4 h
theorem PJ{l:aC Cl}{i:aE}(h:i<l.length):ar (rc l) i 0=CV.i ao (el l i).id:=fY _ l i 0 h
theorem wc1{l:aC Cl}{i:aE}(h:i<l.length):ar (rc l) i 1=CV.s (el l i).k:=fY _ l i 1 h
theorem wc2{l:aC Cl}{i:aE}(h:i<l.length):ar (rc l) i (1+1)=CV.i ao (el l i).fe:=fY _ l i 2 h
theorem wc3{l:aC Cl}{i:aE}(h:i<l.length):ar (rc l) i (1+1+1)=CV.i ao (el l i).fr:=fY _ l i 3 h
theorem wc4{l:aC Cl}{i:aE}(h:i<l.length):ar (rc l) i (1+1+1+1)=CV.i ao (el l i).sta:=fY _ l i 4 h
theorem wc5{l:aC Cl}{i:aE}(h:i<l.length):ar (rc l) i (1+1+1+1+1)=CV.s (el l i).got:=fY _ l i 5 h
theorem wc6{l:aC Cl}{i:aE}(h:i<l.length):ar (rc l) i (1+1+1+1+1+1)=CV.i ao (el l i).age:=fY _ l i 6 h
theorem wd0{l:aC Fi}{i:aE}(h:i<l.length):ar (rd l) i 0=CV.s (el l i).n:=fY _ l i 0 h
theorem wd1{l:aC Fi}{i:aE}(h:i<l.length):ar (rd l) i 1=CV.s (el l i).t:=fY _ l i 1 h
theorem wd2{l:aC Fi}{i:aE}(h:i<l.length):ar (rd l) i (1+1)=CV.i ao (el l i).kp:=fY _ l i 2 h
structure Px where
 now:ax
 en:aC En
 w:aC aq
 m:aC aq
 s:aC (aC ax)
 a:ax
 fe:aC Fe
 cl:aC Cl
 hits:ax
structure Px.Fit (p:Px) (n:aE):Prop where
 en:p.en.length<=n
 w:p.w.length<=n
 m:p.m.length<=n
 s:p.s.length<=n/\(∀q∈p.s,q.length<=n)/\(p.s.map bM).sum<=n
 fe:p.fe.length<=n
 cl:p.cl.length<=n
theorem Px.Fit.le{p:Px}{n m:aE}(h:p.Fit n)(hm:n<=m):p.Fit m:=⟨dg h.en hm,dg h.w hm,dg h.m hm,⟨dg h.s.1 hm,λq hq=>dg (h.s.2.1 q hq) hm,dg h.s.2.2 hm⟩,dg h.fe hm,dg h.cl hm⟩
theorem lS{i:aE}(h:0<i)(h2:i<=9223372036854775807):bH ((i:ax)-1)=((i-1:aE):ax):=by rw[c9 (by omega) (by omega)];omega
theorem Gf{n:aE}(f g:aE->aW):((cR n).all λi=>f i&&g i)=((cR n).all f&&(cR n).all g):=by
 induction n with
 |zero=>rfl
 |succ n ih=>simp only[VD,BB,uI,List.all_nil,jY,ih];cases (cR n).all f<;>cases (cR n).all g<;>cases f n<;>cases g n<;>rfl
end Go.FG.Lib

namespace Go.FG
namespace Lib
def ap{α β:Type}(f:α->β)(x:α):β:=f x
theorem bq{α R:Type}{o:az α}{d:α}{g:az R}{k:α->az R}(hc:nz o=ai)(h:g=Option.bind o k):g=ap k (Z4 o d):=by rw[h,some_ hc (d:=d)];rfl
end Lib
end Go.FG

namespace Go.FG.Lib
theorem MX{α R:Type}(l:aC α)(p:α->aW)(F0:aE->aE->az R)(F1:aE->aE->aC α->az R)(res:aC α->az R)
  (a1:∀m i (h:i<l.length),p l[i]=ai->F0 (m+1) i=F1 m (i+1) [l[i]]) (a2:∀m i (h:i<l.length),p l[i]=ak->F0 (m+1) i=F0 m (i+1)) (a3:∀m,F0 (m+1) l.length=res [])
  (b1:∀m i acc (h:i<l.length),acc.length<=i->p l[i]=ai->F1 (m+1) i acc=F1 m (i+1) (acc++[l[i]])) (b2:∀m i acc (h:i<l.length),p l[i]=ak->F1 (m+1) i acc=F1 m (i+1) acc) (b3:∀m acc,F1 (m+1) l.length acc=res acc)
  (n:aE) (hn:l.length<n):F0 n 0=res (l.filter p):=by
 have k1:∀d i acc m,l.length-i<=d->i<=l.length->acc.length<=i->d<m->F1 m i acc=res (acc++(l.drop i).filter p):=by
  intro d;induction d with
  |zero=>
   intro i acc m h1 h2 h3 h4;obtain⟨m,rfl⟩:∃m',m=m'+1:=⟨m-1,by omega⟩
   have:i=l.length:=by omega
   subst this;rw[b3,di];simp
  |succ d ih=>
   intro i acc m h1 h2 h3 h4;obtain⟨m,rfl⟩:∃m',m=m'+1:=⟨m-1,by omega⟩
   by_cases hi:i<l.length
   ·rw[dD hi];cases hp:p l[i]with
    |true=>rw[b1 m i acc hi h3 hp,ih (i+1) _ m (by omega) hi (by simp;omega) (by omega),dC hp];simp
    |false=>rw[b2 m i acc hi hp,ih (i+1) _ m (by omega) hi (by omega) (by omega),cy (by simp[hp])]
   ·have:i=l.length:=by omega
    subst this;rw[b3,di];simp
 have k0:∀d i m,l.length-i<=d->i<=l.length->d<m->F0 m i=res ((l.drop i).filter p):=by
  intro d;induction d with
  |zero=>
   intro i m h1 h2 h4;obtain⟨m,rfl⟩:∃m',m=m'+1:=⟨m-1,by omega⟩
   have:i=l.length:=by omega
   subst this;rw[a3,di];rfl
  |succ d ih=>
   intro i m h1 h2 h4;obtain⟨m,rfl⟩:∃m',m=m'+1:=⟨m-1,by omega⟩
   by_cases hi:i<l.length
   ·rw[dD hi];cases hp:p l[i]with
    |true=>rw[a1 m i hi hp,k1 d (i+1) _ m (by omega) hi (by simp) (by omega),dC hp];simp
    |false=>rw[a2 m i hi hp,ih (i+1) m (by omega) hi (by omega),cy (by simp[hp])]
   ·have:i=l.length:=by omega
    subst this;rw[a3,di];rfl
 have:=k0 l.length 0 n (by omega) (bB _) hn;rwa[fu]at this
theorem B3{α R:Type}(l:aC α)(p:α->aW)(F1:aE->aE->aC α->az R)(res:aC α->az R)(c0:aC α)
  (b1:∀m i acc (h:i<l.length),acc.length<=c0.length+i->p l[i]=ai->F1 (m+1) i acc=F1 m (i+1) (acc++[l[i]])) (b2:∀m i acc (h:i<l.length),p l[i]=ak->F1 (m+1) i acc=F1 m (i+1) acc) (b3:∀m acc,F1 (m+1) l.length acc=res acc)
  (n:aE) (hn:l.length<n):F1 n 0 c0=res (c0++l.filter p):=by
 have k1:∀d i acc m,l.length-i<=d->i<=l.length->acc.length<=c0.length+i->d<m->F1 m i acc=res (acc++(l.drop i).filter p):=by
  intro d;induction d with
  |zero=>
   intro i acc m h1 h2 h3 h4;obtain⟨m,rfl⟩:∃m',m=m'+1:=⟨m-1,by omega⟩
   have:i=l.length:=by omega
   subst this;rw[b3,di];simp
  |succ d ih=>
   intro i acc m h1 h2 h3 h4;obtain⟨m,rfl⟩:∃m',m=m'+1:=⟨m-1,by omega⟩
   by_cases hi:i<l.length
   ·rw[dD hi];cases hp:p l[i]with
    |true=>rw[b1 m i acc hi h3 hp,ih (i+1) _ m (by omega) hi (by simp;omega) (by omega),dC hp];simp
    |false=>rw[b2 m i acc hi hp,ih (i+1) _ m (by omega) hi (by omega) (by omega),cy (by simp[hp])]
   ·have:i=l.length:=by omega
    subst this;rw[b3,di];simp
 have:=k1 l.length 0 c0 n (by omega) (bB _) (by omega) hn;rwa[fu]at this
theorem zH{α:Type}(p q:α->aW):∀r:aC α,(∀y∈r,q y= !p y)->r.Pairwise (λy z=>p z=ai->p y=ai)->r.takeWhile p=r.filter p/\r.dropWhile p=r.filter q
 |[],_,_=>⟨rfl,rfl⟩
 |y::r,hq,h=>by
  rw[qn]at h;have hy:=hq y (by simp);cases hp:p y with
  |true=>rw[hp]at hy;obtain⟨i1,i2⟩:=zH p q r (λz hz=>hq z (by simp[hz])) h.2;rw[pY hp,dC hp,List.dropWhile_cons_of_pos hp,cy (by rw[hy];simp),i1,i2];exact⟨rfl,rfl⟩
  |false=>
   rw[hp]at hy;have hn:¬p y=true:=by rw[hp];simp
   have ha:∀z∈r,p z=false:=λz hz=>by
    cases DI:p z with
    |false=>rfl
    |true=>exact cO (h.1 z hz DI) hn
   rw[pX hn,cy hn,List.dropWhile_cons_of_neg hn,dC (by rw[hy];rfl)];refine⟨?_, ?_⟩
   ·symm;rw[List.filter_eq_nil_iff];intro z hz;rw[ha z hz];simp
   ·congr 1;symm;rw[eE];intro z hz;rw[hq z (by simp[hz]),ha z hz];rfl
end Go.FG.Lib

