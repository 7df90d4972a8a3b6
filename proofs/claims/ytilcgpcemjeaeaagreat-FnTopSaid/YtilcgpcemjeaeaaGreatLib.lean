/- Plain facts on numbers, texts and lists. No condition. -/
import Derived.Test.YtilcgpcemjeaeaaGreatCorec
set_option linter.unusedVariables false
set_option linter.unusedSimpArgs false
set_option maxRecDepth 100000
open Bool renaming true->ai,false->ak,true_and->ba,and_eq_true->aM,and_true->iL
open Go.IntKind renaming i64->ao
open List renaming beq->bW,takeWhile_cons_of_pos->qk,takeWhile_cons_of_neg->qj,length_cons->dc,length_nil->jR,length->bS,takeWhile_append_dropWhile->nD,length_append->bU,filter_cons_of_pos->dB,filter_cons_of_neg->cC,drop_length->di,range->b8,range'->iV,all_cons->u0,range_eq_range'->XD,range_succ->WO,all_append->Cc,drop_eq_getElem_cons->dC,getD->kA,getElem_of_mem->c8,any_eq_true->Gu,getElem_mem->bB,set->aD,take_succ_eq_append_getElem->cE,map_append->dh,getElem?_append_right->db,getElem?_eq_getElem->eR,append_assoc->cy,append_nil->dj,take_of_length_le->jg,drop_zero->fg,pairwise_cons->qE,filter_eq_self->eD
open Nat renaming zero_le->bD,sub_zero->sA,le_trans->dg,blt->qC,beq->bF,le_refl->cG
open Option renaming some->ah,isSome->nL
open Option.some renaming inj->aJ
open _root_ renaming Nat->aE,Option->aA,Int->ax,ByteArray->aq,List->az,Bool->aU,congrArg->lV,cond_true->au,cond_false->aw,absurd->cL
namespace Go.FG.Lib
theorem zT{σ β:Type}(F:aE->σ->aA β)(mu:σ->aE)(inv:σ->Prop)(post:β->Prop)
  (step:∀n s,inv s->(∃b,F (n+1) s=ah b/\post b)\/∃s',inv s'/\mu s'<mu s/\F (n+1) s=F n s'):∀n s,inv s->mu s<n->∃b,F n s=ah b/\post b:=by
 intro n;induction n with
 |zero=>intro s _ h;omega
 |succ n ih=>
  intro s hi hm;rcases step n s hi with h|⟨s',h1,h2,h4⟩
  ·exact h
  ·rw[h4];exact ih s' h1 (by omega)
theorem cu{n:aE}(h:n<=9223372036854775807):n<cJ:=by unfold cJ;omega
theorem c_{x:ax}(h1: -9223372036854775808<=x)(h2:x<=9223372036854775807):bG x=x:=iG h1 h2
theorem ayP{x:ax}(h0: -9223372036854775808<=x:=by omega)(h1:x<=9223372036854775807:=by omega):bG x=x:=c_ h0 h1
theorem fU(a:aq):bW a.toList a.toList=true:=qK _
theorem Du(x:CV):(bytesOf [[x]]).size=1:=by rw[iS];rfl
theorem aeI(p:az CV->aU):∀(r:aQ) (i:aE),i<(r.takeWhile p).length->∃h:i<r.length,p r[i]=ai
 |[],i,h=>by simp at h
 |y::r,i,h=>by
  by_cases hp:p y=ai
  ·rw[qk hp]at h;cases i with
   |zero=>exact⟨by simp,hp⟩
   |succ i=>obtain⟨h1,h2⟩:=aeI p r i (by simpa using h);exact⟨by simpa using h1,by simpa using h2⟩
  ·rw[qj hp]at h;simp at h
theorem aeH(p:az CV->aU):∀(r:aQ) (h:(r.takeWhile p).length<r.length),p r[(r.takeWhile p).length]=ak
 |[],h=>by simp at h
 |y::r,h=>by
  by_cases hp:p y=ai
  ·have e:=qk (l:=r) hp;have h':(r.takeWhile p).length<r.length:=by rw[e]at h;simpa using h
   have:=aeH p r h';simp only[e,dc,List.getElem_cons_succ];exact this
  ·have e:=qj (l:=r) hp;simp only[e,jR,List.getElem_cons_zero];simpa using hp
theorem F9(p:az CV->aU)(r:aQ):(r.takeWhile p).length<=r.length:=by have:=lV bS (nD (p:=p) (l:=r));rw[bU]at this;omega
theorem yF(p:az CV->aU)(r:aQ):r.take (r.takeWhile p).length=r.takeWhile p:=by have e:=nD (p:=p) (l:=r);have:=List.take_left (l₁:=r.takeWhile p) (l₂:=r.dropWhile p);rw[e]at this;exact this
theorem xH(p:az CV->aU)(r:aQ):r.drop (r.takeWhile p).length=r.dropWhile p:=by have e:=nD (p:=p) (l:=r);have:=List.drop_left (l₁:=r.takeWhile p) (l₂:=r.dropWhile p);rw[e]at this;exact this
theorem ue{R:Type}(p:az CV->aU)(r:aQ)(F:aE->aE->aA R)(K:aE->aA R)
  (hT:∀m i (h:i<r.length),p r[i]=ai->F (m+1) i=F m (i+1)) (hF:∀m i (h:i<r.length),p r[i]=ak->F (m+1) i=K i) (hE:∀m,F (m+1) r.length=K r.length)
  (n:aE) (hn:r.length<n):F n 0=K (r.takeWhile p).length:=by
 refine fE F (λi=>r.length-i) (λi=>i<=(r.takeWhile p).length) (λ_=>K (r.takeWhile p).length) (λm i hi=> ?_) n 0 (bD _) (by omega);have hl:=F9 p r;by_cases h:i<(r.takeWhile p).length
 ·obtain⟨h1,h2⟩:=aeI p r i h;exact .inr ⟨i+1,h,by omega,rfl,hT m i h1 h2⟩
 ·left;have mm:i=(r.takeWhile p).length:=by omega
  subst mm;by_cases h2:(r.takeWhile p).length<r.length
  ·exact hF m _ h2 (aeH p r h2)
  ·have h3:(r.takeWhile p).length=r.length:=by omega
   rw[h3];exact hE m
theorem xO{R:Type}(p:az CV->aU)(f:az CV->az CV)(r:aQ)(m0:aE)(F:aE->aE->aQ->aA R)(K:aQ->aA R)
  (hT:∀m i acc (h:i<r.length),acc.length<=m0+i->p r[i]=ai->F (m+1) i acc=F m (i+1) (acc++[f r[i]])) (hF:∀m i acc (h:i<r.length),acc.length<=m0+i->p r[i]=ak->F (m+1) i acc=F m (i+1) acc)
  (hE:∀m acc,F (m+1) r.length acc=K acc) (n:aE) (acc:aQ) (ha:acc.length<=m0) (hn:r.length<n):F n 0 acc=K (acc++(r.filter p).map f):=by
 have:=fE (λn (s:aE×aQ)=>F n s.1 s.2) (λs=>r.length-s.1) (λs=>s.1<=r.length/\s.2.length<=m0+s.1) (λs=>K (s.2++((r.drop s.1).filter p).map f)) (λm s hs=>by
  obtain⟨i,acc⟩:=s;obtain⟨h1,h2⟩:=hs;dsimp only at h1 h2⊢;by_cases h:i<r.length
  ·right;rw[eE h];cases hp:p r[i]with
   |true=>exact⟨(i+1,acc++[f r[i]]),⟨h,by simp;omega⟩,by dsimp only;omega,by rw[dB hp];simp,hT m i acc h h2 hp⟩
   |false=>exact⟨(i+1,acc),⟨h,by dsimp only;omega⟩,by dsimp only;omega,by rw[cC (by simp[hp])],hF m i acc h h2 hp⟩
  ·left;have hi:i=r.length:=by omega
   subst hi;rw[di];simpa using hE m acc) n (0,acc) ⟨bD _,by dsimp only;omega⟩ (by dsimp only;omega)
 simpa using this
theorem gJ{R:Type}(g:aE->aU)(len:aE)(F:aE->aE->aA R)(kf kt:aA R)(hT:∀m i,i<len->g i=ai->F (m+1) i=F m (i+1))(hF:∀m i,i<len->g i=ak->F (m+1) i=kf)(hE:∀m,F (m+1) len=kt)(n:aE)(hn:len<n):F n 0=bif(b8 len).all g then kt else kf:=by
 have:=fE F (λi=>len-i) (λi=>i<=len) (λi=>bif(iV i (len-i)).all g then kt else kf) (λm i hi=>by
  by_cases h:i<len
  ·have e:(iV i (len-i)).all g=(g i&&(iV (i+1) (len-(i+1))).all g):=by rw[show len-i=(len-(i+1))+1 by omega,List.range'_succ,u0]
   cases hp:g i with
   |true=>right;exact⟨i+1,h,by omega,by rw[e,hp,ba],hT m i h hp⟩
   |false=>left;rw[e,hp,hF m i h hp];rfl
  ·left;have:i=len:=by omega
   subst this;rw[hE,Nat.sub_self];rfl) n 0 (bD _) (by omega)
 rw[this,sA,<-XD]
theorem lS{R:Type}(p:aE->aU)(len:aE)(F:aE->aE->aA R)(kr:ax->aA R)(h1:∀m i,i<len->p i=ai->F (m+1) i=kr i)(h2:∀m i,i<len->p i=ak->F (m+1) i=F m (i+1))(h3:∀m,F (m+1) len=kr (-1))(n:aE)(hn:len<n):F n 0=kr (fi p len 0):=by
 have:=fE F (λi=>len-i) (λi=>i<=len) (λi=>kr (fi p (len-i) i)) (λm i hi=>by
  by_cases h:i<len
  ·have e:len-i=(len-(i+1))+1:=by omega
   cases hp:p i with
   |true=>left;rw[h1 m i h hp,e];simp[fi,hp]
   |false=>right;exact⟨i+1,h,by omega,by rw[e];simp[fi,hp],h2 m i h hp⟩
  ·left;have:i=len:=by omega
   subst this;rw[h3,Nat.sub_self];rfl) n 0 (by omega) (by omega)
 simpa using this
theorem all_congr{g h:aE->aU}{n:aE}(e:∀i,i<n->g i=h i):(b8 n).all g=(b8 n).all h:=by
 induction n with
 |zero=>rfl
 |succ n ih=>rw[WO,Cc,Cc,ih (λi hi=>e i (by omega))];simp[e n (by omega)]
theorem JA{T:Tab}(hT:∀e ti,T.ty e=ah ti->0<ti.bytes):∀y,rB T y->Fit y
 |_, .i k n _=>Fit.i k n
 |_, .b x=>Fit.b x
 |_, .s x h=>Fit.s x (dg h (by omega))
 |_, .l e xs ti h h1 h2 h3=>by
  have hp:=hT e ti h;have hle:xs.length*1<=xs.length*ti.bytes:=Nat.mul_le_mul_left _ hp;exact Fit.l e xs (by omega) (λy hy x hx=>JA hT x (h3 y hy x hx))
theorem Vi:∀{rows:az pV},rows.all (λr=>qC 0 r.ti.bytes)=ai->∀e ti,Bk rows e=ah ti->0<ti.bytes
 |[],_,_,_,h=>by cases h
 |r::rs,h,e,ti,h2=>by
  rw[u0,aM]at h;unfold Bk at h2;cases hb:bF e r.t with
  |true=>rw[hb,au]at h2;obtain rfl:=aJ h2;have h1:=h.1;simp[qC]at h1;omega
  |false=>rw[hb,aw]at h2;exact Vi h.2 e ti h2
theorem aby{rows:az pV}{T:Tab}(hT:T.ty=Bk rows)(h:rows.all (λr=>qC 0 r.ti.bytes)=ai){e:aE}{xs:aQ}(hf:rB T (.l e xs)):vM xs:=by
 cases JA (λe ti he=>Vi h e ti (by rw[<-hT];exact he)) _ hf with
 |l _ _ h1 h2=>exact⟨h1,h2⟩
end Go.FG.Lib

namespace Go.FG.Lib
theorem ml{σ R:Type}(len:aE)(F:aE->aE->σ->aA R)(st:aE->σ)(res:aA R)
  (hS:∀m i,i<len->F (m+1) i (st i)=F m (i+1) (st (i+1))) (hE:∀m,F (m+1) len (st len)=res) (n i0:aE) (h0:i0<=len) (hn:len-i0<n):F n i0 (st i0)=res:=by
 refine fE (λn i=>F n i (st i)) (λi=>len-i) (λi=>i<=len) (λ_=>res) (λm i hi=> ?_) n i0 h0 hn;by_cases h:i<len
 ·exact .inr ⟨i+1,h,by omega,rfl,hS m i h⟩
 ·left;have:i=len:=by omega
  subst this;exact hE m
theorem pj{α R:Type}(l:az α)(p:α->aU)(F:aE->aE->aA R)(kf kt:aA R)
  (hT:∀m i (h:i<l.length),p l[i]=ai->F (m+1) i=F m (i+1)) (hF:∀m i (h:i<l.length),p l[i]=ak->F (m+1) i=kf) (hE:∀m,F (m+1) l.length=kt) (n:aE) (hn:l.length<n):F n 0=bif l.all p then kt else kf:=by
 have:=fE F (λi=>l.length-i) (λi=>i<=l.length) (λi=>bif(l.drop i).all p then kt else kf) (λm i hi=>by
  by_cases h:i<l.length
  ·have e:(l.drop i).all p=(p l[i]&&(l.drop (i+1)).all p):=by rw[dC h,u0]
   cases hp:p l[i]with
   |true=>right;exact⟨i+1,h,by omega,by rw[e,hp,ba],hT m i h hp⟩
   |false=>left;rw[e,hp,hF m i h hp];rfl
  ·left;have:i=l.length:=by omega
   subst this;rw[hE,di];rfl) n 0 (bD _) (by omega)
 simpa using this
theorem Cn{α R:Type}(l:az α)(p:α->aU)(F:aE->aE->aA R)(kt kf:aA R)
  (hT:∀m i (h:i<l.length),p l[i]=ai->F (m+1) i=kt) (hF:∀m i (h:i<l.length),p l[i]=ak->F (m+1) i=F m (i+1)) (hE:∀m,F (m+1) l.length=kf) (n:aE) (hn:l.length<n):F n 0=bif l.any p then kt else kf:=by have h:=pj l (λx=> !p x) F kt kf (λm i h hp=>hF m i h (by simpa using hp)) (λm i h hp=>hT m i h (by simpa using hp)) hE n hn;rw[h,List.any_eq_not_all_not];cases l.all λx=> !p x<;>rfl
theorem getD_map'{α:Type}(f:α->az CV)(l:az α)(i:aE)(h:i<l.length):(l.map f).getD i []=f l[i]:=by simp[kA,h]
theorem fD{α:Type}(f:α->az CV)(l:az α)(i j:aE)(h:i<l.length):ar (l.map f) i j=(f l[i]).getD j (.b ak):=by unfold ar;rw[getD_map' f l i h]
theorem CI{α:Type}(l:az α)(p:α->aU)(q:aE->aU)(h:∀i (hi:i<l.length),q i=p l[i]):decide (fi q l.length 0≥0)=l.any p:=by
 rcases py q l.length 0 with ⟨h1,h2⟩|⟨k,_,hk,h3,h4,_⟩
 ·rw[h1];symm;rw[show decide ((-1:ax)≥0)=ak by decide,List.any_eq_false];intro x hx;obtain⟨i,hi,rfl⟩:=c8 hx;have:=h2 i (bD _) (by omega);rw[h i hi]at this;simp[this]
 ·rw[h3];symm;rw[show decide ((k:ax)≥0)=ai by simp,Gu];exact⟨l[k]'(by omega),bB _,by rw[<-h k (by omega)];exact h4⟩
theorem pR(ks:az Ck)(y:az CV):aD (aP ks 1) 0 y=[y]:=rfl
theorem o6{α β:Type}(f:α->β)(l:az α)(i:aE)(h:i<l.length):(l.take i).map f++[f l[i]]=(l.take (i+1)).map f:=by rw[cE h,dh];rfl
def rs(l:az aq):aQ:=l.map λk=>[CV.s k]
def ri(l:az ax):aQ:=l.map λn=>[CV.i ao n]
def rr(l:az (az ax)):aQ:=l.map λq=>[CV.l 3 (ri q)]
structure En where
 k:aq
 st:ax
 li:ax
 bo:aq
 deriving DecidableEq
def En.row(e:En):az CV:=[CV.s e.k,CV.i ao e.st,CV.i ao e.li,CV.s e.bo]
def re(l:az En):aQ:=l.map En.row
structure Fe where
 k:aq
 t:aq
 sta:ax
 li:ax
 st:ax
 deriving DecidableEq
def Fe.row(e:Fe):az CV:=[CV.s e.k,CV.s e.t,CV.i ao e.sta,CV.i ao e.li,CV.i ao e.st]
def rf(l:az Fe):aQ:=l.map Fe.row
structure Cl where
 id:ax
 k:aq
 fe:ax
 fr:ax
 sta:ax
 jV:aq
 age:ax
 deriving DecidableEq
def Cl.row(e:Cl):az CV:=[CV.i ao e.id,CV.s e.k,CV.i ao e.fe,CV.i ao e.fr,CV.i ao e.sta,CV.s e.jV,CV.i ao e.age]
def rc(l:az Cl):aQ:=l.map Cl.row
structure Fi where
 n:aq
 t:aq
 kp:ax
 deriving DecidableEq
def Fi.row(e:Fi):az CV:=[CV.s e.n,CV.s e.t,CV.i ao e.kp]
def rd(l:az Fi):aQ:=l.map Fi.row
theorem eJ(l):(rs l).length=l.length:=by unfold rs;simp
theorem gf(l):(ri l).length=l.length:=by unfold ri;simp
theorem gO(l):(rr l).length=l.length:=by unfold rr;simp
theorem de(l):(re l).length=l.length:=by unfold re;simp
theorem dD(l):(rf l).length=l.length:=by unfold rf;simp
theorem eI(l):(rc l).length=l.length:=by unfold rc;simp
theorem eg(l):(rd l).length=l.length:=by unfold rd;simp
theorem Xc{l:az aq}{i:aE}(h:i<l.length):ar (rs l) i 0=CV.s l[i]:=fD _ l i 0 h
theorem Rf{l:az ax}{i:aE}(h:i<l.length):ar (ri l) i 0=CV.i ao l[i]:=fD _ l i 0 h
theorem Ki{l:az (az ax)}{i:aE}(h:i<l.length):ar (rr l) i 0=CV.l 3 (ri l[i]):=fD _ l i 0 h
theorem rc0{l:az Cl}{i:aE}(h:i<l.length):ar (rc l) i 0=CV.i ao l[i].id:=fD _ l i 0 h
theorem rc1{l:az Cl}{i:aE}(h:i<l.length):ar (rc l) i 1=CV.s l[i].k:=fD _ l i 1 h
theorem rc2{l:az Cl}{i:aE}(h:i<l.length):ar (rc l) i (1+1)=CV.i ao l[i].fe:=fD _ l i 2 h
theorem rc3{l:az Cl}{i:aE}(h:i<l.length):ar (rc l) i (1+1+1)=CV.i ao l[i].fr:=fD _ l i 3 h
theorem rc4{l:az Cl}{i:aE}(h:i<l.length):ar (rc l) i (1+1+1+1)=CV.i ao l[i].sta:=fD _ l i 4 h
theorem rc5{l:az Cl}{i:aE}(h:i<l.length):ar (rc l) i (1+1+1+1+1)=CV.s l[i].jV:=fD _ l i 5 h
theorem rc6{l:az Cl}{i:aE}(h:i<l.length):ar (rc l) i (1+1+1+1+1+1)=CV.i ao l[i].age:=fD _ l i 6 h
theorem Kf{l:az Fi}{i:aE}(h:i<l.length):ar (rd l) i 0=CV.s l[i].n:=fD _ l i 0 h
theorem Xa{l:az Fi}{i:aE}(h:i<l.length):ar (rd l) i 1=CV.s l[i].t:=fD _ l i 1 h
theorem Xb{l:az Fi}{i:aE}(h:i<l.length):ar (rd l) i (1+1)=CV.i ao l[i].kp:=fD _ l i 2 h
end Go.FG.Lib
namespace Go.FG.Lib
theorem kW{α:Type}(f:α->az CV)(l:az α)(i j:aE)(ys:az CV)(y:α)(h:i<l.length)(hs:iF (f l[i]) j ys=f y):eC (l.map f) i j ys=(l.set i y).map f:=by unfold eC;rw[getD_map' f l i h,hs,List.map_set]
def ot{α:Type}(l:az α)(g:aE->α->α)(i:aE):az α:=(l.mapIdx g).take i++l.drop i
theorem qV{α:Type}(l:az α)(g:aE->α->α)(i:aE)(h:i<=l.length):(ot l g i).length=l.length:=by unfold ot;simp;omega
theorem yG{α:Type}(l:az α)(g:aE->α->α)(i:aE)(h:i<l.length)(h2:i<(ot l g i).length):(ot l g i)[i]=l[i]:=by
 have e:(ot l g i)[i]? =ah l[i]:=by unfold ot;rw[db (by simp;omega)];simp[show min i l.length=i by omega]
 rw[eR h2]at e;exact aJ e
theorem uh{α:Type}(l:az α)(g:aE->α->α)(i:aE)(h:i<l.length):(ot l g i).set i (g i l[i])=ot l g (i+1):=by
 unfold ot;have hl:((l.mapIdx g).take i).length=i:=by simp;omega
 rw[List.set_append_right _ _ (by omega),hl,Nat.sub_self,dC h,List.set_cons_zero,cE (by simpa using h),cy];simp
theorem DD{α:Type}(l:az α)(g:aE->α->α):ot l g 0=l:=by unfold ot;simp
theorem qU{α:Type}(l:az α)(g:aE->α->α):ot l g l.length=l.mapIdx g:=by unfold ot;rw[di,dj,jg (by simp)]
theorem nR{α R:Type}(f:α->az CV)(l:az α)(g:aE->α->α)(F:aE->aE->aQ->aA R)(K:aQ->aA R)
  (hS:∀m i (L:az α) (h:i<l.length) (h2:i<L.length),L.length=l.length->L[i]=l[i]->F (m+1) i (L.map f)=F m (i+1) ((L.set i (g i l[i])).map f))
  (hE:∀m (L:az α),L.length=l.length->F (m+1) l.length (L.map f)=K (L.map f)) (n:aE) (hn:l.length<n):F n 0 (l.map f)=K ((l.mapIdx g).map f):=by
 have:=ml l.length F (λi=>(ot l g i).map f) (K ((l.mapIdx g).map f)) (λm i h=>by
  have h1:=qV l g i (by omega);rw[hS m i (ot l g i) h (by omega) h1 (yG l g i h (by omega)),uh l g i h]) (λm=>by
  rw[hE m _ (qV l g _ (cG _)),qU]) n 0 (bD _) (by omega)
 rw[show l.map f=(ot l g 0).map f by rw[DD]];exact this
end Go.FG.Lib

namespace Go.FG.Lib
instance:Inhabited En:=⟨⟨⟨#[]⟩,0,0,⟨#[]⟩⟩⟩
instance:Inhabited Fe:=⟨⟨⟨#[]⟩,⟨#[]⟩,0,0,0⟩⟩
instance:Inhabited Cl:=⟨⟨0,⟨#[]⟩,0,0,0,⟨#[]⟩,0⟩⟩
instance:Inhabited Fi:=⟨⟨⟨#[]⟩,⟨#[]⟩,0⟩⟩
def el{α:Type}[Inhabited α](l:az α)(i:aE):α:=l.getD i default
theorem eG{α:Type}[Inhabited α]{l:az α}{i:aE}(h:i<l.length):el l i=l[i]:=by unfold el;simp[kA,h]
theorem jY{α:Type}[Inhabited α]{l:az α}{i:aE}(h:i<l.length):el l i∈l:=by rw[eG h];exact bB h
theorem fX{α:Type}[Inhabited α](f:α->az CV)(l:az α)(i j:aE)(h:i<l.length):ar (l.map f) i j=(f (el l i)).getD j (.b ak):=by rw[fD f l i j h,eG h]
theorem oD{l:az En}{i:aE}(h:i<l.length):ar (re l) i 0=CV.s (el l i).k:=fX _ l i 0 h
theorem qx{l:az En}{i:aE}(h:i<l.length):ar (re l) i 1=CV.i ao (el l i).st:=fX _ l i 1 h
theorem qy{l:az En}{i:aE}(h:i<l.length):ar (re l) i (1+1)=CV.i ao (el l i).li:=fX _ l i 2 h
theorem qz{l:az En}{i:aE}(h:i<l.length):ar (re l) i (1+1+1)=CV.s (el l i).bo:=fX _ l i 3 h
theorem Bl{l:az Fe}{i:aE}(h:i<l.length):ar (rf l) i 0=CV.s (el l i).k:=fX _ l i 0 h
theorem BX{l:az Fe}{i:aE}(h:i<l.length):ar (rf l) i 1=CV.s (el l i).t:=fX _ l i 1 h
theorem MD{l:az Fe}{i:aE}(h:i<l.length):ar (rf l) i (1+1)=CV.i ao (el l i).sta:=fX _ l i 2 h
theorem Ag{l:az Fe}{i:aE}(h:i<l.length):ar (rf l) i 2=CV.i ao (el l i).sta:=fX _ l i 2 h
theorem Rh{l:az Fe}{i:aE}(h:i<l.length):ar (rf l) i (1+1+1)=CV.i ao (el l i).li:=fX _ l i 3 h
theorem Ri{l:az Fe}{i:aE}(h:i<l.length):ar (rf l) i (1+1+1+1)=CV.i ao (el l i).st:=fX _ l i 4 h
theorem II{l:az Cl}{i:aE}(h:i<l.length):ar (rc l) i 0=CV.i ao (el l i).id:=fX _ l i 0 h
theorem QG{l:az Cl}{i:aE}(h:i<l.length):ar (rc l) i 1=CV.s (el l i).k:=fX _ l i 1 h
theorem QH{l:az Cl}{i:aE}(h:i<l.length):ar (rc l) i (1+1)=CV.i ao (el l i).fe:=fX _ l i 2 h
theorem QI{l:az Cl}{i:aE}(h:i<l.length):ar (rc l) i (1+1+1)=CV.i ao (el l i).fr:=fX _ l i 3 h
theorem QJ{l:az Cl}{i:aE}(h:i<l.length):ar (rc l) i (1+1+1+1)=CV.i ao (el l i).sta:=fX _ l i 4 h
theorem QK{l:az Cl}{i:aE}(h:i<l.length):ar (rc l) i (1+1+1+1+1)=CV.s (el l i).jV:=fX _ l i 5 h
theorem QL{l:az Cl}{i:aE}(h:i<l.length):ar (rc l) i (1+1+1+1+1+1)=CV.i ao (el l i).age:=fX _ l i 6 h
theorem wd0{l:az Fi}{i:aE}(h:i<l.length):ar (rd l) i 0=CV.s (el l i).n:=fX _ l i 0 h
theorem wd1{l:az Fi}{i:aE}(h:i<l.length):ar (rd l) i 1=CV.s (el l i).t:=fX _ l i 1 h
theorem wd2{l:az Fi}{i:aE}(h:i<l.length):ar (rd l) i (1+1)=CV.i ao (el l i).kp:=fX _ l i 2 h
structure Px where
 now:ax
 en:az En
 w:az aq
 m:az aq
 s:az (az ax)
 a:ax
 fe:az Fe
 cl:az Cl
 hits:ax
structure Px.Fit (p:Px) (n:aE):Prop where
 en:p.en.length<=n
 w:p.w.length<=n
 m:p.m.length<=n
 s:p.s.length<=n/\(∀q∈p.s,q.length<=n)/\(p.s.map bS).sum<=n
 fe:p.fe.length<=n
 cl:p.cl.length<=n
theorem Px.Fit.le{p:Px}{n m:aE}(h:p.Fit n)(hm:n<=m):p.Fit m:=⟨dg h.en hm,dg h.w hm,dg h.m hm,⟨dg h.s.1 hm,λq hq=>dg (h.s.2.1 q hq) hm,dg h.s.2.2 hm⟩,dg h.fe hm,dg h.cl hm⟩
theorem mf{i:aE}(h:0<i)(h2:i<=9223372036854775807):bG ((i:ax)-1)=((i-1:aE):ax):=by rw[c_ (by omega) (by omega)];omega
theorem Hc{n:aE}(f g:aE->aU):((b8 n).all λi=>f i&&g i)=((b8 n).all f&&(b8 n).all g):=by
 induction n with
 |zero=>rfl
 |succ n ih=>simp only[WO,Cc,u0,List.all_nil,iL,ih];cases (b8 n).all f<;>cases (b8 n).all g<;>cases f n<;>cases g n<;>rfl
end Go.FG.Lib

namespace Go.FG
namespace Lib
def ap{α β:Type}(f:α->β)(x:α):β:=f x
theorem bq{α R:Type}{o:aA α}{d:α}{g:aA R}{k:α->aA R}(hc:nL o=ai)(h:g=Option.bind o k):g=ap k (Option.getD o d):=by rw[h,some_ hc (d:=d)];rfl
end Lib
end Go.FG

namespace Go.FG.Lib
theorem NQ{α R:Type}(l:az α)(p:α->aU)(F0:aE->aE->aA R)(F1:aE->aE->az α->aA R)(res:az α->aA R)
  (a1:∀m i (h:i<l.length),p l[i]=ai->F0 (m+1) i=F1 m (i+1) [l[i]]) (a2:∀m i (h:i<l.length),p l[i]=ak->F0 (m+1) i=F0 m (i+1)) (a3:∀m,F0 (m+1) l.length=res [])
  (b1:∀m i acc (h:i<l.length),acc.length<=i->p l[i]=ai->F1 (m+1) i acc=F1 m (i+1) (acc++[l[i]])) (b2:∀m i acc (h:i<l.length),p l[i]=ak->F1 (m+1) i acc=F1 m (i+1) acc) (b3:∀m acc,F1 (m+1) l.length acc=res acc)
  (n:aE) (hn:l.length<n):F0 n 0=res (l.filter p):=by
 have k1:∀d i acc m,l.length-i<=d->i<=l.length->acc.length<=i->d<m->F1 m i acc=res (acc++(l.drop i).filter p):=by
  intro d;induction d with
  |zero=>
   intro i acc m h1 h2 h3 h4;obtain⟨m,rfl⟩:∃m',m=m'+1:=⟨m-1,by omega⟩
   have:i=l.length:=by omega
   subst this;rw[b3,di];simp
  |succ d ih=>
   intro i acc m h1 h2 h3 h4;obtain⟨m,rfl⟩:∃m',m=m'+1:=⟨m-1,by omega⟩
   by_cases hi:i<l.length
   ·rw[dC hi];cases hp:p l[i]with
    |true=>rw[b1 m i acc hi h3 hp,ih (i+1) _ m (by omega) hi (by simp;omega) (by omega),dB hp];simp
    |false=>rw[b2 m i acc hi hp,ih (i+1) _ m (by omega) hi (by omega) (by omega),cC (by simp[hp])]
   ·have:i=l.length:=by omega
    subst this;rw[b3,di];simp
 have k0:∀d i m,l.length-i<=d->i<=l.length->d<m->F0 m i=res ((l.drop i).filter p):=by
  intro d;induction d with
  |zero=>
   intro i m h1 h2 h4;obtain⟨m,rfl⟩:∃m',m=m'+1:=⟨m-1,by omega⟩
   have:i=l.length:=by omega
   subst this;rw[a3,di];rfl
  |succ d ih=>
   intro i m h1 h2 h4;obtain⟨m,rfl⟩:∃m',m=m'+1:=⟨m-1,by omega⟩
   by_cases hi:i<l.length
   ·rw[dC hi];cases hp:p l[i]with
    |true=>rw[a1 m i hi hp,k1 d (i+1) _ m (by omega) hi (by simp) (by omega),dB hp];simp
    |false=>rw[a2 m i hi hp,ih (i+1) m (by omega) hi (by omega),cC (by simp[hp])]
   ·have:i=l.length:=by omega
    subst this;rw[a3,di];rfl
 have:=k0 l.length 0 n (by omega) (bD _) hn;rwa[fg]at this
theorem CJ{α R:Type}(l:az α)(p:α->aU)(F1:aE->aE->az α->aA R)(res:az α->aA R)(c0:az α)
  (b1:∀m i acc (h:i<l.length),acc.length<=c0.length+i->p l[i]=ai->F1 (m+1) i acc=F1 m (i+1) (acc++[l[i]])) (b2:∀m i acc (h:i<l.length),p l[i]=ak->F1 (m+1) i acc=F1 m (i+1) acc) (b3:∀m acc,F1 (m+1) l.length acc=res acc)
  (n:aE) (hn:l.length<n):F1 n 0 c0=res (c0++l.filter p):=by
 have k1:∀d i acc m,l.length-i<=d->i<=l.length->acc.length<=c0.length+i->d<m->F1 m i acc=res (acc++(l.drop i).filter p):=by
  intro d;induction d with
  |zero=>
   intro i acc m h1 h2 h3 h4;obtain⟨m,rfl⟩:∃m',m=m'+1:=⟨m-1,by omega⟩
   have:i=l.length:=by omega
   subst this;rw[b3,di];simp
  |succ d ih=>
   intro i acc m h1 h2 h3 h4;obtain⟨m,rfl⟩:∃m',m=m'+1:=⟨m-1,by omega⟩
   by_cases hi:i<l.length
   ·rw[dC hi];cases hp:p l[i]with
    |true=>rw[b1 m i acc hi h3 hp,ih (i+1) _ m (by omega) hi (by simp;omega) (by omega),dB hp];simp
    |false=>rw[b2 m i acc hi hp,ih (i+1) _ m (by omega) hi (by omega) (by omega),cC (by simp[hp])]
   ·have:i=l.length:=by omega
    subst this;rw[b3,di];simp
 have:=k1 l.length 0 c0 n (by omega) (bD _) (by omega) hn;rwa[fg]at this
theorem Ad{α:Type}(p q:α->aU):∀r:az α,(∀y∈r,q y= !p y)->r.Pairwise (λy z=>p z=ai->p y=ai)->r.takeWhile p=r.filter p/\r.dropWhile p=r.filter q
 |[],_,_=>⟨rfl,rfl⟩
 |y::r,hq,h=>by
  rw[qE]at h;have hy:=hq y (by simp);cases hp:p y with
  |true=>rw[hp]at hy;obtain⟨i1,i2⟩:=Ad p q r (λz hz=>hq z (by simp[hz])) h.2;rw[qk hp,dB hp,List.dropWhile_cons_of_pos hp,cC (by rw[hy];simp),i1,i2];exact⟨rfl,rfl⟩
  |false=>
   rw[hp]at hy;have hn:¬p y=true:=by rw[hp];simp
   have ha:∀z∈r,p z=false:=λz hz=>by
    cases Eu:p z with
    |false=>rfl
    |true=>exact cL (h.1 z hz Eu) hn
   rw[qj hn,cC hn,List.dropWhile_cons_of_neg hn,dB (by rw[hy];rfl)];refine⟨?_, ?_⟩
   ·symm;rw[List.filter_eq_nil_iff];intro z hz;rw[ha z hz];simp
   ·congr 1;symm;rw[eD];intro z hz;rw[hq z (by simp[hz]),ha z hz];rfl
end Go.FG.Lib

