/- Plain facts on numbers, texts and lists. No condition. -/
import Derived.Test.YtilcgpcemjeaeaaGreatCorec
set_option linter.unusedVariables false
set_option linter.unusedSimpArgs false
set_option maxRecDepth 100000
open Bool renaming false->ak,true->ai,true_and->bc,and_eq_true->aL,and_true->ju
open Go.IntKind renaming i64->ao
open List renaming getD->jS,beq->bZ,takeWhile_cons_of_pos->ql,takeWhile_cons_of_neg->qk,length_cons->db,length_nil->jT,length->bT,takeWhile_append_dropWhile->nD,length_append->bP,filter_cons_of_pos->dC,filter_cons_of_neg->cC,drop_length->dj,range->b9,range'->mw,all_cons->td,range_eq_range'->R5,range_succ->Wk,all_append->BX,drop_eq_getElem_cons->dE,getElem_of_mem->c6,any_eq_true->F2,getElem_mem->bC,set->aD,take_succ_eq_append_getElem->cu,map_append->di,getElem?_append_right->da,getElem?_eq_getElem->eV,append_assoc->cz,append_nil->dn,take_of_length_le->jf,drop_zero->e_,pairwise_cons->qG,filter_eq_self->eK
open Nat renaming zero_le->bI,sub_zero->sr,le_trans->dh,blt->qE,beq->bD,le_refl->cF
open Option renaming some->ah,isSome->nM
open Option.some renaming inj->aJ
open _root_ renaming Nat->aF,Option->aC,Int->aw,List->az,ByteArray->aq,Bool->aX,congrArg->lO,cond_true->au,cond_false->ax,absurd->cJ
namespace Go.FG.Lib
theorem uJ{σ β:Type}(F:aF->σ->aC β)(mu:σ->aF)(inv:σ->Prop)(post:β->Prop)
  (step:∀n s,inv s->(∃b,F (n+1) s=ah b/\post b)\/∃s',inv s'/\mu s'<mu s/\F (n+1) s=F n s'):∀n s,inv s->mu s<n->∃b,F n s=ah b/\post b:=by
 intro n;induction n with
 |zero=>intro s _ h;omega
 |succ n ih=>
  intro s hi hm;rcases step n s hi with h|⟨s',h1,h2,h4⟩
  ·exact h
  ·rw[h4];exact ih s' h1 (by omega)
theorem cG{n:aF}(h:n<=9223372036854775807):n<cU:=by unfold cU;omega
theorem de{x:aw}(h1: -9223372036854775808<=x)(h2:x<=9223372036854775807):bJ x=x:=iI h1 h2
theorem aw8{x:aw}(h0: -9223372036854775808<=x:=by omega)(h1:x<=9223372036854775807:=by omega):bJ x=x:=de h0 h1
theorem v_(A:aR)(y:az CV)(B:aR)(i j:aF)(h:A.length=i):ar (A++y::B) i j=y.getD j (.b ak):=by
 subst h;unfold ar;have:(A++y::B).getD A.length []=y:=by simp[jS]
 rw[this]
theorem jW(a:aq):bZ a.toList a.toList=true:=qM _
theorem Dc(x:CV):(bytesOf [[x]]).size=1:=by rw[iU];rfl
theorem ad8(p:az CV->aX):∀(r:aR) (i:aF),i<(r.takeWhile p).length->∃h:i<r.length,p r[i]=ai
 |[],i,h=>by simp at h
 |y::r,i,h=>by
  by_cases hp:p y=ai
  ·rw[ql hp]at h;cases i with
   |zero=>exact⟨by simp,hp⟩
   |succ i=>obtain⟨h1,h2⟩:=ad8 p r i (by simpa using h);exact⟨by simpa using h1,by simpa using h2⟩
  ·rw[qk hp]at h;simp at h
theorem ad7(p:az CV->aX):∀(r:aR) (h:(r.takeWhile p).length<r.length),p r[(r.takeWhile p).length]=ak
 |[],h=>by simp at h
 |y::r,h=>by
  by_cases hp:p y=ai
  ·have e:=ql (l:=r) hp;have h':(r.takeWhile p).length<r.length:=by rw[e]at h;simpa using h
   have:=ad7 p r h';simp only[e,db,List.getElem_cons_succ];exact this
  ·have e:=qk (l:=r) hp;simp only[e,jT,List.getElem_cons_zero];simpa using hp
theorem FC(p:az CV->aX)(r:aR):(r.takeWhile p).length<=r.length:=by have:=lO bT (nD (p:=p) (l:=r));rw[bP]at this;omega
theorem yC(p:az CV->aX)(r:aR):r.take (r.takeWhile p).length=r.takeWhile p:=by have e:=nD (p:=p) (l:=r);have:=List.take_left (l₁:=r.takeWhile p) (l₂:=r.dropWhile p);rw[e]at this;exact this
theorem xC(p:az CV->aX)(r:aR):r.drop (r.takeWhile p).length=r.dropWhile p:=by have e:=nD (p:=p) (l:=r);have:=List.drop_left (l₁:=r.takeWhile p) (l₂:=r.dropWhile p);rw[e]at this;exact this
theorem uc{R:Type}(p:az CV->aX)(r:aR)(F:aF->aF->aC R)(K:aF->aC R)
  (hT:∀m i (h:i<r.length),p r[i]=ai->F (m+1) i=F m (i+1)) (hF:∀m i (h:i<r.length),p r[i]=ak->F (m+1) i=K i) (hE:∀m,F (m+1) r.length=K r.length)
  (n:aF) (hn:r.length<n):F n 0=K (r.takeWhile p).length:=by
 refine g9 F (λi=>r.length-i) (λi=>i<=(r.takeWhile p).length) (λ_=>K (r.takeWhile p).length) (λm i hi=> ?_) n 0 (bI _) (by omega);have hl:=FC p r;by_cases h:i<(r.takeWhile p).length
 ·obtain⟨h1,h2⟩:=ad8 p r i h;exact .inr ⟨i+1,h,by omega,rfl,hT m i h1 h2⟩
 ·left;have mh:i=(r.takeWhile p).length:=by omega
  subst mh;by_cases h2:(r.takeWhile p).length<r.length
  ·exact hF m _ h2 (ad7 p r h2)
  ·have h3:(r.takeWhile p).length=r.length:=by omega
   rw[h3];exact hE m
theorem xJ{R:Type}(p:az CV->aX)(f:az CV->az CV)(r:aR)(m0:aF)(F:aF->aF->aR->aC R)(K:aR->aC R)
  (hT:∀m i acc (h:i<r.length),acc.length<=m0+i->p r[i]=ai->F (m+1) i acc=F m (i+1) (acc++[f r[i]])) (hF:∀m i acc (h:i<r.length),acc.length<=m0+i->p r[i]=ak->F (m+1) i acc=F m (i+1) acc)
  (hE:∀m acc,F (m+1) r.length acc=K acc) (n:aF) (acc:aR) (ha:acc.length<=m0) (hn:r.length<n):F n 0 acc=K (acc++(r.filter p).map f):=by
 have:=g9 (λn (s:aF×aR)=>F n s.1 s.2) (λs=>r.length-s.1) (λs=>s.1<=r.length/\s.2.length<=m0+s.1) (λs=>K (s.2++((r.drop s.1).filter p).map f)) (λm s hs=>by
  obtain⟨i,acc⟩:=s;obtain⟨h1,h2⟩:=hs;dsimp only at h1 h2⊢;by_cases h:i<r.length
  ·right;rw[eL h];cases hp:p r[i]with
   |true=>exact⟨(i+1,acc++[f r[i]]),⟨h,by simp;omega⟩,by dsimp only;omega,by rw[dC hp];simp,hT m i acc h h2 hp⟩
   |false=>exact⟨(i+1,acc),⟨h,by dsimp only;omega⟩,by dsimp only;omega,by rw[cC (by simp[hp])],hF m i acc h h2 hp⟩
  ·left;have hi:i=r.length:=by omega
   subst hi;rw[dj];simpa using hE m acc) n (0,acc) ⟨bI _,by dsimp only;omega⟩ (by dsimp only;omega)
 simpa using this
theorem iC{R:Type}(g:aF->aX)(len:aF)(F:aF->aF->aC R)(kf kt:aC R)(hT:∀m i,i<len->g i=ai->F (m+1) i=F m (i+1))(hF:∀m i,i<len->g i=ak->F (m+1) i=kf)(hE:∀m,F (m+1) len=kt)(n:aF)(hn:len<n):F n 0=bif(b9 len).all g then kt else kf:=by
 have:=g9 F (λi=>len-i) (λi=>i<=len) (λi=>bif(mw i (len-i)).all g then kt else kf) (λm i hi=>by
  by_cases h:i<len
  ·have e:(mw i (len-i)).all g=(g i&&(mw (i+1) (len-(i+1))).all g):=by rw[show len-i=(len-(i+1))+1 by omega,List.range'_succ,td]
   cases hp:g i with
   |true=>right;exact⟨i+1,h,by omega,by rw[e,hp,bc],hT m i h hp⟩
   |false=>left;rw[e,hp,hF m i h hp];rfl
  ·left;have:i=len:=by omega
   subst this;rw[hE,Nat.sub_self];rfl) n 0 (bI _) (by omega)
 rw[this,sr,<-R5]
theorem m7{R:Type}(p:aF->aX)(len:aF)(F:aF->aF->aC R)(kr:aw->aC R)(h1:∀m i,i<len->p i=ai->F (m+1) i=kr i)(h2:∀m i,i<len->p i=ak->F (m+1) i=F m (i+1))(h3:∀m,F (m+1) len=kr (-1))(n:aF)(hn:len<n):F n 0=kr (fi p len 0):=by
 have:=g9 F (λi=>len-i) (λi=>i<=len) (λi=>kr (fi p (len-i) i)) (λm i hi=>by
  by_cases h:i<len
  ·have e:len-i=(len-(i+1))+1:=by omega
   cases hp:p i with
   |true=>left;rw[h1 m i h hp,e];simp[fi,hp]
   |false=>right;exact⟨i+1,h,by omega,by rw[e];simp[fi,hp],h2 m i h hp⟩
  ·left;have:i=len:=by omega
   subst this;rw[h3,Nat.sub_self];rfl) n 0 (by omega) (by omega)
 simpa using this
theorem all_congr{g h:aF->aX}{n:aF}(e:∀i,i<n->g i=h i):(b9 n).all g=(b9 n).all h:=by
 induction n with
 |zero=>rfl
 |succ n ih=>rw[Wk,BX,BX,ih (λi hi=>e i (by omega))];simp[e n (by omega)]
theorem I9{T:Tab}(hT:∀e ti,T.ty e=ah ti->0<ti.bytes):∀y,rB T y->Fit y
 |_, .i k n _=>Fit.i k n
 |_, .b x=>Fit.b x
 |_, .s x h=>Fit.s x (dh h (by omega))
 |_, .l e xs ti h h1 h2 h3=>by
  have hp:=hT e ti h;have hle:xs.length*1<=xs.length*ti.bytes:=Nat.mul_le_mul_left _ hp;exact Fit.l e xs (by omega) (λy hy x hx=>I9 hT x (h3 y hy x hx))
theorem UL:∀{rows:az pV},rows.all (λr=>qE 0 r.ti.bytes)=ai->∀e ti,Ba rows e=ah ti->0<ti.bytes
 |[],_,_,_,h=>by cases h
 |r::rs,h,e,ti,h2=>by
  rw[td,aL]at h;unfold Ba at h2;cases hb:bD e r.t with
  |true=>rw[hb,au]at h2;obtain rfl:=aJ h2;have h1:=h.1;simp[qE]at h1;omega
  |false=>rw[hb,ax]at h2;exact UL h.2 e ti h2
theorem aa4{rows:az pV}{T:Tab}(hT:T.ty=Ba rows)(h:rows.all (λr=>qE 0 r.ti.bytes)=ai){e:aF}{xs:aR}(hf:rB T (.l e xs)):vL xs:=by
 cases I9 (λe ti he=>UL h e ti (by rw[<-hT];exact he)) _ hf with
 |l _ _ h1 h2=>exact⟨h1,h2⟩
end Go.FG.Lib

namespace Go.FG.Lib
theorem mg{σ R:Type}(len:aF)(F:aF->aF->σ->aC R)(st:aF->σ)(res:aC R)
  (hS:∀m i,i<len->F (m+1) i (st i)=F m (i+1) (st (i+1))) (hE:∀m,F (m+1) len (st len)=res) (n i0:aF) (h0:i0<=len) (hn:len-i0<n):F n i0 (st i0)=res:=by
 refine g9 (λn i=>F n i (st i)) (λi=>len-i) (λi=>i<=len) (λ_=>res) (λm i hi=> ?_) n i0 h0 hn;by_cases h:i<len
 ·exact .inr ⟨i+1,h,by omega,rfl,hS m i h⟩
 ·left;have:i=len:=by omega
  subst this;exact hE m
theorem pk{α R:Type}(l:az α)(p:α->aX)(F:aF->aF->aC R)(kf kt:aC R)
  (hT:∀m i (h:i<l.length),p l[i]=ai->F (m+1) i=F m (i+1)) (hF:∀m i (h:i<l.length),p l[i]=ak->F (m+1) i=kf) (hE:∀m,F (m+1) l.length=kt) (n:aF) (hn:l.length<n):F n 0=bif l.all p then kt else kf:=by
 have:=g9 F (λi=>l.length-i) (λi=>i<=l.length) (λi=>bif(l.drop i).all p then kt else kf) (λm i hi=>by
  by_cases h:i<l.length
  ·have e:(l.drop i).all p=(p l[i]&&(l.drop (i+1)).all p):=by rw[dE h,td]
   cases hp:p l[i]with
   |true=>right;exact⟨i+1,h,by omega,by rw[e,hp,bc],hT m i h hp⟩
   |false=>left;rw[e,hp,hF m i h hp];rfl
  ·left;have:i=l.length:=by omega
   subst this;rw[hE,dj];rfl) n 0 (bI _) (by omega)
 simpa using this
theorem B7{α R:Type}(l:az α)(p:α->aX)(F:aF->aF->aC R)(kt kf:aC R)
  (hT:∀m i (h:i<l.length),p l[i]=ai->F (m+1) i=kt) (hF:∀m i (h:i<l.length),p l[i]=ak->F (m+1) i=F m (i+1)) (hE:∀m,F (m+1) l.length=kf) (n:aF) (hn:l.length<n):F n 0=bif l.any p then kt else kf:=by have h:=pk l (λx=> !p x) F kt kf (λm i h hp=>hF m i h (by simpa using hp)) (λm i h hp=>hT m i h (by simpa using hp)) hE n hn;rw[h,List.any_eq_not_all_not];cases l.all λx=> !p x<;>rfl
theorem getD_map'{α:Type}(f:α->az CV)(l:az α)(i:aF)(h:i<l.length):(l.map f).getD i []=f l[i]:=by simp[jS,h]
theorem eW{α:Type}(f:α->az CV)(l:az α)(i j:aF)(h:i<l.length):ar (l.map f) i j=(f l[i]).getD j (.b ak):=by unfold ar;rw[getD_map' f l i h]
theorem Cr{α:Type}(l:az α)(p:α->aX)(q:aF->aX)(h:∀i (hi:i<l.length),q i=p l[i]):decide (fi q l.length 0≥0)=l.any p:=by
 rcases pz q l.length 0 with ⟨h1,h2⟩|⟨k,_,hk,h3,h4,_⟩
 ·rw[h1];symm;rw[show decide ((-1:aw)≥0)=ak by decide,List.any_eq_false];intro x hx;obtain⟨i,hi,rfl⟩:=c6 hx;have:=h2 i (bI _) (by omega);rw[h i hi]at this;simp[this]
 ·rw[h3];symm;rw[show decide ((k:aw)≥0)=ai by simp,F2];exact⟨l[k]'(by omega),bC _,by rw[<-h k (by omega)];exact h4⟩
theorem pR(ks:az Ck)(y:az CV):aD (aP ks 1) 0 y=[y]:=rfl
theorem o6{α β:Type}(f:α->β)(l:az α)(i:aF)(h:i<l.length):(l.take i).map f++[f l[i]]=(l.take (i+1)).map f:=by rw[cu h,di];rfl
def rs(l:az aq):aR:=l.map λk=>[CV.s k]
def ri(l:az aw):aR:=l.map λn=>[CV.i ao n]
def rr(l:az (az aw)):aR:=l.map λq=>[CV.l 3 (ri q)]
structure En where
 k:aq
 st:aw
 li:aw
 bo:aq
 deriving DecidableEq
def En.row(e:En):az CV:=[CV.s e.k,CV.i ao e.st,CV.i ao e.li,CV.s e.bo]
def re(l:az En):aR:=l.map En.row
structure Fe where
 k:aq
 t:aq
 sta:aw
 li:aw
 st:aw
 deriving DecidableEq
def Fe.row(e:Fe):az CV:=[CV.s e.k,CV.s e.t,CV.i ao e.sta,CV.i ao e.li,CV.i ao e.st]
def rf(l:az Fe):aR:=l.map Fe.row
structure Cl where
 id:aw
 k:aq
 fe:aw
 fr:aw
 sta:aw
 mQ:aq
 age:aw
 deriving DecidableEq
def Cl.row(e:Cl):az CV:=[CV.i ao e.id,CV.s e.k,CV.i ao e.fe,CV.i ao e.fr,CV.i ao e.sta,CV.s e.mQ,CV.i ao e.age]
def rc(l:az Cl):aR:=l.map Cl.row
structure Fi where
 n:aq
 t:aq
 kp:aw
 deriving DecidableEq
def Fi.row(e:Fi):az CV:=[CV.s e.n,CV.s e.t,CV.i ao e.kp]
def rd(l:az Fi):aR:=l.map Fi.row
theorem eZ(l):(rs l).length=l.length:=by unfold rs;simp
theorem gW(l):(ri l).length=l.length:=by unfold ri;simp
theorem gX(l):(rr l).length=l.length:=by unfold rr;simp
theorem dc(l):(re l).length=l.length:=by unfold re;simp
theorem dM(l):(rf l).length=l.length:=by unfold rf;simp
theorem fc(l):(rc l).length=l.length:=by unfold rc;simp
theorem eB(l):(rd l).length=l.length:=by unfold rd;simp
theorem WG{l:az aq}{i:aF}(h:i<l.length):ar (rs l) i 0=CV.s l[i]:=eW _ l i 0 h
theorem QK{l:az aw}{i:aF}(h:i<l.length):ar (ri l) i 0=CV.i ao l[i]:=eW _ l i 0 h
theorem Ke{l:az (az aw)}{i:aF}(h:i<l.length):ar (rr l) i 0=CV.l 3 (ri l[i]):=eW _ l i 0 h
theorem re0{l:az En}{i:aF}(h:i<l.length):ar (re l) i 0=CV.s l[i].k:=eW _ l i 0 h
theorem re1{l:az En}{i:aF}(h:i<l.length):ar (re l) i 1=CV.i ao l[i].st:=eW _ l i 1 h
theorem re2{l:az En}{i:aF}(h:i<l.length):ar (re l) i (1+1)=CV.i ao l[i].li:=eW _ l i 2 h
theorem re3{l:az En}{i:aF}(h:i<l.length):ar (re l) i (1+1+1)=CV.s l[i].bo:=eW _ l i 3 h
theorem rc0{l:az Cl}{i:aF}(h:i<l.length):ar (rc l) i 0=CV.i ao l[i].id:=eW _ l i 0 h
theorem rc1{l:az Cl}{i:aF}(h:i<l.length):ar (rc l) i 1=CV.s l[i].k:=eW _ l i 1 h
theorem rc2{l:az Cl}{i:aF}(h:i<l.length):ar (rc l) i (1+1)=CV.i ao l[i].fe:=eW _ l i 2 h
theorem rc3{l:az Cl}{i:aF}(h:i<l.length):ar (rc l) i (1+1+1)=CV.i ao l[i].fr:=eW _ l i 3 h
theorem rc4{l:az Cl}{i:aF}(h:i<l.length):ar (rc l) i (1+1+1+1)=CV.i ao l[i].sta:=eW _ l i 4 h
theorem rc5{l:az Cl}{i:aF}(h:i<l.length):ar (rc l) i (1+1+1+1+1)=CV.s l[i].mQ:=eW _ l i 5 h
theorem rc6{l:az Cl}{i:aF}(h:i<l.length):ar (rc l) i (1+1+1+1+1+1)=CV.i ao l[i].age:=eW _ l i 6 h
theorem JO{l:az Fi}{i:aF}(h:i<l.length):ar (rd l) i 0=CV.s l[i].n:=eW _ l i 0 h
theorem WD{l:az Fi}{i:aF}(h:i<l.length):ar (rd l) i 1=CV.s l[i].t:=eW _ l i 1 h
theorem WE{l:az Fi}{i:aF}(h:i<l.length):ar (rd l) i (1+1)=CV.i ao l[i].kp:=eW _ l i 2 h
end Go.FG.Lib
namespace Go.FG.Lib
theorem kU{α:Type}(f:α->az CV)(l:az α)(i j:aF)(ys:az CV)(y:α)(h:i<l.length)(hs:iH (f l[i]) j ys=f y):eJ (l.map f) i j ys=(l.set i y).map f:=by unfold eJ;rw[getD_map' f l i h,hs,List.map_set]
def ou{α:Type}(l:az α)(g:aF->α->α)(i:aF):az α:=(l.mapIdx g).take i++l.drop i
theorem qX{α:Type}(l:az α)(g:aF->α->α)(i:aF)(h:i<=l.length):(ou l g i).length=l.length:=by unfold ou;simp;omega
theorem yD{α:Type}(l:az α)(g:aF->α->α)(i:aF)(h:i<l.length)(h2:i<(ou l g i).length):(ou l g i)[i]=l[i]:=by
 have e:(ou l g i)[i]? =ah l[i]:=by unfold ou;rw[da (by simp;omega)];simp[show min i l.length=i by omega]
 rw[eV h2]at e;exact aJ e
theorem uf{α:Type}(l:az α)(g:aF->α->α)(i:aF)(h:i<l.length):(ou l g i).set i (g i l[i])=ou l g (i+1):=by
 unfold ou;have hl:((l.mapIdx g).take i).length=i:=by simp;omega
 rw[List.set_append_right _ _ (by omega),hl,Nat.sub_self,dE h,List.set_cons_zero,cu (by simpa using h),cz];simp
theorem Dl{α:Type}(l:az α)(g:aF->α->α):ou l g 0=l:=by unfold ou;simp
theorem qW{α:Type}(l:az α)(g:aF->α->α):ou l g l.length=l.mapIdx g:=by unfold ou;rw[dj,dn,jf (by simp)]
theorem nR{α R:Type}(f:α->az CV)(l:az α)(g:aF->α->α)(F:aF->aF->aR->aC R)(K:aR->aC R)
  (hS:∀m i (L:az α) (h:i<l.length) (h2:i<L.length),L.length=l.length->L[i]=l[i]->F (m+1) i (L.map f)=F m (i+1) ((L.set i (g i l[i])).map f))
  (hE:∀m (L:az α),L.length=l.length->F (m+1) l.length (L.map f)=K (L.map f)) (n:aF) (hn:l.length<n):F n 0 (l.map f)=K ((l.mapIdx g).map f):=by
 have:=mg l.length F (λi=>(ou l g i).map f) (K ((l.mapIdx g).map f)) (λm i h=>by
  have h1:=qX l g i (by omega);rw[hS m i (ou l g i) h (by omega) h1 (yD l g i h (by omega)),uf l g i h]) (λm=>by
  rw[hE m _ (qX l g _ (cF _)),qW]) n 0 (bI _) (by omega)
 rw[show l.map f=(ou l g 0).map f by rw[Dl]];exact this
end Go.FG.Lib

namespace Go.FG.Lib
instance:Inhabited En:=⟨⟨⟨#[]⟩,0,0,⟨#[]⟩⟩⟩
instance:Inhabited Fe:=⟨⟨⟨#[]⟩,⟨#[]⟩,0,0,0⟩⟩
instance:Inhabited Cl:=⟨⟨0,⟨#[]⟩,0,0,0,⟨#[]⟩,0⟩⟩
instance:Inhabited Fi:=⟨⟨⟨#[]⟩,⟨#[]⟩,0⟩⟩
def el{α:Type}[Inhabited α](l:az α)(i:aF):α:=l.getD i default
theorem eN{α:Type}[Inhabited α]{l:az α}{i:aF}(h:i<l.length):el l i=l[i]:=by unfold el;simp[jS,h]
theorem kA{α:Type}[Inhabited α]{l:az α}{i:aF}(h:i<l.length):el l i∈l:=by rw[eN h];exact bC h
theorem fV{α:Type}[Inhabited α](f:α->az CV)(l:az α)(i j:aF)(h:i<l.length):ar (l.map f) i j=(f (el l i)).getD j (.b ak):=by rw[eW f l i j h,eN h]
theorem oE{l:az En}{i:aF}(h:i<l.length):ar (re l) i 0=CV.s (el l i).k:=fV _ l i 0 h
theorem qz{l:az En}{i:aF}(h:i<l.length):ar (re l) i 1=CV.i ao (el l i).st:=fV _ l i 1 h
theorem qA{l:az En}{i:aF}(h:i<l.length):ar (re l) i (1+1)=CV.i ao (el l i).li:=fV _ l i 2 h
theorem qB{l:az En}{i:aF}(h:i<l.length):ar (re l) i (1+1+1)=CV.s (el l i).bo:=fV _ l i 3 h
theorem Dp{l:az Fe}{i:aF}(h:i<l.length):ar (rf l) i 0=CV.s (el l i).k:=fV _ l i 0 h
theorem DB{l:az Fe}{i:aF}(h:i<l.length):ar (rf l) i 1=CV.s (el l i).t:=fV _ l i 1 h
theorem Qm{l:az Fe}{i:aF}(h:i<l.length):ar (rf l) i (1+1)=CV.i ao (el l i).sta:=fV _ l i 2 h
theorem z5{l:az Fe}{i:aF}(h:i<l.length):ar (rf l) i 2=CV.i ao (el l i).sta:=fV _ l i 2 h
theorem QM{l:az Fe}{i:aF}(h:i<l.length):ar (rf l) i (1+1+1)=CV.i ao (el l i).li:=fV _ l i 3 h
theorem QN{l:az Fe}{i:aF}(h:i<l.length):ar (rf l) i (1+1+1+1)=CV.i ao (el l i).st:=fV _ l i 4 h
theorem Kh{l:az Cl}{i:aF}(h:i<l.length):ar (rc l) i 0=CV.i ao (el l i).id:=fV _ l i 0 h
theorem VY{l:az Cl}{i:aF}(h:i<l.length):ar (rc l) i 1=CV.s (el l i).k:=fV _ l i 1 h
theorem VZ{l:az Cl}{i:aF}(h:i<l.length):ar (rc l) i (1+1)=CV.i ao (el l i).fe:=fV _ l i 2 h
theorem V0{l:az Cl}{i:aF}(h:i<l.length):ar (rc l) i (1+1+1)=CV.i ao (el l i).fr:=fV _ l i 3 h
theorem V1{l:az Cl}{i:aF}(h:i<l.length):ar (rc l) i (1+1+1+1)=CV.i ao (el l i).sta:=fV _ l i 4 h
theorem V2{l:az Cl}{i:aF}(h:i<l.length):ar (rc l) i (1+1+1+1+1)=CV.s (el l i).mQ:=fV _ l i 5 h
theorem V3{l:az Cl}{i:aF}(h:i<l.length):ar (rc l) i (1+1+1+1+1+1)=CV.i ao (el l i).age:=fV _ l i 6 h
theorem wd0{l:az Fi}{i:aF}(h:i<l.length):ar (rd l) i 0=CV.s (el l i).n:=fV _ l i 0 h
theorem wd1{l:az Fi}{i:aF}(h:i<l.length):ar (rd l) i 1=CV.s (el l i).t:=fV _ l i 1 h
theorem wd2{l:az Fi}{i:aF}(h:i<l.length):ar (rd l) i (1+1)=CV.i ao (el l i).kp:=fV _ l i 2 h
structure Px where
 now:aw
 en:az En
 w:az aq
 m:az aq
 s:az (az aw)
 a:aw
 fe:az Fe
 cl:az Cl
 hits:aw
structure Px.Fit (p:Px) (n:aF):Prop where
 en:p.en.length<=n
 w:p.w.length<=n
 m:p.m.length<=n
 s:p.s.length<=n/\(∀q∈p.s,q.length<=n)/\(p.s.map bT).sum<=n
 fe:p.fe.length<=n
 cl:p.cl.length<=n
theorem Px.Fit.le{p:Px}{n m:aF}(h:p.Fit n)(hm:n<=m):p.Fit m:=⟨dh h.en hm,dh h.w hm,dh h.m hm,⟨dh h.s.1 hm,λq hq=>dh (h.s.2.1 q hq) hm,dh h.s.2.2 hm⟩,dh h.fe hm,dh h.cl hm⟩
theorem l_{i:aF}(h:0<i)(h2:i<=9223372036854775807):bJ ((i:aw)-1)=((i-1:aF):aw):=by rw[de (by omega) (by omega)];omega
theorem GO{n:aF}(f g:aF->aX):((b9 n).all λi=>f i&&g i)=((b9 n).all f&&(b9 n).all g):=by
 induction n with
 |zero=>rfl
 |succ n ih=>simp only[Wk,BX,td,List.all_nil,ju,ih];cases (b9 n).all f<;>cases (b9 n).all g<;>cases f n<;>cases g n<;>rfl
end Go.FG.Lib

namespace Go.FG
namespace Lib
def ap{α β:Type}(f:α->β)(x:α):β:=f x
theorem bq{α R:Type}{o:aC α}{d:α}{g:aC R}{k:α->aC R}(hc:nM o=ai)(h:g=Option.bind o k):g=ap k (Option.getD o d):=by rw[h,some_ hc (d:=d)];rfl
end Lib
end Go.FG

namespace Go.FG.Lib
theorem Nr{α R:Type}(l:az α)(p:α->aX)(F0:aF->aF->aC R)(F1:aF->aF->az α->aC R)(res:az α->aC R)
  (a1:∀m i (h:i<l.length),p l[i]=ai->F0 (m+1) i=F1 m (i+1) [l[i]]) (a2:∀m i (h:i<l.length),p l[i]=ak->F0 (m+1) i=F0 m (i+1)) (a3:∀m,F0 (m+1) l.length=res [])
  (b1:∀m i acc (h:i<l.length),acc.length<=i->p l[i]=ai->F1 (m+1) i acc=F1 m (i+1) (acc++[l[i]])) (b2:∀m i acc (h:i<l.length),p l[i]=ak->F1 (m+1) i acc=F1 m (i+1) acc) (b3:∀m acc,F1 (m+1) l.length acc=res acc)
  (n:aF) (hn:l.length<n):F0 n 0=res (l.filter p):=by
 have k1:∀d i acc m,l.length-i<=d->i<=l.length->acc.length<=i->d<m->F1 m i acc=res (acc++(l.drop i).filter p):=by
  intro d;induction d with
  |zero=>
   intro i acc m h1 h2 h3 h4;obtain⟨m,rfl⟩:∃m',m=m'+1:=⟨m-1,by omega⟩
   have:i=l.length:=by omega
   subst this;rw[b3,dj];simp
  |succ d ih=>
   intro i acc m h1 h2 h3 h4;obtain⟨m,rfl⟩:∃m',m=m'+1:=⟨m-1,by omega⟩
   by_cases hi:i<l.length
   ·rw[dE hi];cases hp:p l[i]with
    |true=>rw[b1 m i acc hi h3 hp,ih (i+1) _ m (by omega) hi (by simp;omega) (by omega),dC hp];simp
    |false=>rw[b2 m i acc hi hp,ih (i+1) _ m (by omega) hi (by omega) (by omega),cC (by simp[hp])]
   ·have:i=l.length:=by omega
    subst this;rw[b3,dj];simp
 have k0:∀d i m,l.length-i<=d->i<=l.length->d<m->F0 m i=res ((l.drop i).filter p):=by
  intro d;induction d with
  |zero=>
   intro i m h1 h2 h4;obtain⟨m,rfl⟩:∃m',m=m'+1:=⟨m-1,by omega⟩
   have:i=l.length:=by omega
   subst this;rw[a3,dj];rfl
  |succ d ih=>
   intro i m h1 h2 h4;obtain⟨m,rfl⟩:∃m',m=m'+1:=⟨m-1,by omega⟩
   by_cases hi:i<l.length
   ·rw[dE hi];cases hp:p l[i]with
    |true=>rw[a1 m i hi hp,k1 d (i+1) _ m (by omega) hi (by simp) (by omega),dC hp];simp
    |false=>rw[a2 m i hi hp,ih (i+1) m (by omega) hi (by omega),cC (by simp[hp])]
   ·have:i=l.length:=by omega
    subst this;rw[a3,dj];rfl
 have:=k0 l.length 0 n (by omega) (bI _) hn;rwa[e_]at this
theorem Cs{α R:Type}(l:az α)(p:α->aX)(F1:aF->aF->az α->aC R)(res:az α->aC R)(c0:az α)
  (b1:∀m i acc (h:i<l.length),acc.length<=c0.length+i->p l[i]=ai->F1 (m+1) i acc=F1 m (i+1) (acc++[l[i]])) (b2:∀m i acc (h:i<l.length),p l[i]=ak->F1 (m+1) i acc=F1 m (i+1) acc) (b3:∀m acc,F1 (m+1) l.length acc=res acc)
  (n:aF) (hn:l.length<n):F1 n 0 c0=res (c0++l.filter p):=by
 have k1:∀d i acc m,l.length-i<=d->i<=l.length->acc.length<=c0.length+i->d<m->F1 m i acc=res (acc++(l.drop i).filter p):=by
  intro d;induction d with
  |zero=>
   intro i acc m h1 h2 h3 h4;obtain⟨m,rfl⟩:∃m',m=m'+1:=⟨m-1,by omega⟩
   have:i=l.length:=by omega
   subst this;rw[b3,dj];simp
  |succ d ih=>
   intro i acc m h1 h2 h3 h4;obtain⟨m,rfl⟩:∃m',m=m'+1:=⟨m-1,by omega⟩
   by_cases hi:i<l.length
   ·rw[dE hi];cases hp:p l[i]with
    |true=>rw[b1 m i acc hi h3 hp,ih (i+1) _ m (by omega) hi (by simp;omega) (by omega),dC hp];simp
    |false=>rw[b2 m i acc hi hp,ih (i+1) _ m (by omega) hi (by omega) (by omega),cC (by simp[hp])]
   ·have:i=l.length:=by omega
    subst this;rw[b3,dj];simp
 have:=k1 l.length 0 c0 n (by omega) (bI _) (by omega) hn;rwa[e_]at this
theorem zX{α:Type}(p q:α->aX):∀r:az α,(∀y∈r,q y= !p y)->r.Pairwise (λy z=>p z=ai->p y=ai)->r.takeWhile p=r.filter p/\r.dropWhile p=r.filter q
 |[],_,_=>⟨rfl,rfl⟩
 |y::r,hq,h=>by
  rw[qG]at h;have hy:=hq y (by simp);cases hp:p y with
  |true=>rw[hp]at hy;obtain⟨i1,i2⟩:=zX p q r (λz hz=>hq z (by simp[hz])) h.2;rw[ql hp,dC hp,List.dropWhile_cons_of_pos hp,cC (by rw[hy];simp),i1,i2];exact⟨rfl,rfl⟩
  |false=>
   rw[hp]at hy;have hn:¬p y=true:=by rw[hp];simp
   have ha:∀z∈r,p z=false:=λz hz=>by
    cases Ea:p z with
    |false=>rfl
    |true=>exact cJ (h.1 z hz Ea) hn
   rw[qk hn,cC hn,List.dropWhile_cons_of_neg hn,dC (by rw[hy];rfl)];refine⟨?_, ?_⟩
   ·symm;rw[List.filter_eq_nil_iff];intro z hz;rw[ha z hz];simp
   ·congr 1;symm;rw[eK];intro z hz;rw[hq z (by simp[hz]),ha z hz];rfl
end Go.FG.Lib

