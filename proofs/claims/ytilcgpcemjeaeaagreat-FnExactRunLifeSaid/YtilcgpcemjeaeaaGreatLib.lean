/- Plain facts on numbers, texts and lists. No condition. -/
import Derived.Test.YtilcgpcemjeaeaaGreatCorec
set_option linter.unusedVariables false
set_option linter.unusedSimpArgs false
set_option maxRecDepth 100000
open Bool renaming false->ak,true->ai,true_and->bm,and_eq_true->aK,and_true->j4
open Go.IntKind renaming i64->ao
open List renaming getD->gg,set_append_right->NW,set_cons_zero->Tt,range->ch,range_succ->CZ,map_append->cQ,beq->cW,takeWhile_cons_of_pos->qd,takeWhile_cons_of_neg->qc,length_cons->dh,length_nil->jN,length->bK,takeWhile_append_dropWhile->np,length_append->cf,filter_cons_of_pos->dA,filter_cons_of_neg->cE,drop_length->cD,getElem_mem->bu,range'->iw,all_cons->pQ,range_eq_range'->zO,all_append->CX,drop_eq_getElem_cons->di,getElem_of_mem->c_,set->aL,take_succ_eq_append_getElem->bQ,getElem?_append_right->c8,getElem?_eq_getElem->dK,append_assoc->bU,append_nil->cu,take_of_length_le->fX,drop_zero->eN,pairwise_cons->qu,filter_eq_self->eJ
open Nat renaming le_refl->cJ,sub_self->vP,zero_le->bk,sub_zero->oN,le_trans->dc,blt->qs,beq->bD
open Option renaming some->ah,isSome->nB
open Option.some renaming inj->aF
open _root_ renaming Nat->aC,Option->ay,Int->aw,List->az,ByteArray->aq,Bool->aY,congrArg->lH,cond_true->au,cond_false->ax,absurd->cS
namespace Go.FG.Lib
theorem uB{σ β:Type}(F:aC->σ->ay β)(mu:σ->aC)(inv:σ->Prop)(post:β->Prop)
  (step:∀n s,inv s->(∃b,F (n+1) s=ah b/\post b)\/∃s',inv s'/\mu s'<mu s/\F (n+1) s=F n s'):∀n s,inv s->mu s<n->∃b,F n s=ah b/\post b:=by
 intro n;induction n with
 |zero=>intro s _ h;omega
 |succ n ih=>
  intro s hi hm;rcases step n s hi with h|⟨s',h1,h2,h4⟩
  ·exact h
  ·rw[h4];exact ih s' h1 (by omega)
theorem ck{n:aC}(h:n<=9223372036854775807):n<cy:=by unfold cy;omega
theorem bZ{x:aw}(h1: -9223372036854775808<=x)(h2:x<=9223372036854775807):br x=x:=ir h1 h2
theorem aA1{x:aw}(h0: -9223372036854775808<=x:=by omega)(h1:x<=9223372036854775807:=by omega):br x=x:=bZ h0 h1
theorem lT(A:aQ)(y:az CV)(B:aQ)(i j:aC)(cs:az CV)(h:A.length=i):cK (A++y::B) i j cs=A++dS y j cs::B:=by
 subst h;unfold cK;have:(A++y::B).getD A.length []=y:=by simp[gg]
 rw[this,NW _ _ (cJ _),vP,Tt]
theorem nF(A:aQ)(y:az CV)(B:aQ):(A++y::B).length=A.length+1+B.length:=by simp;omega
theorem rK(A:aQ)(y:az CV)(B:aQ)(i j:aC)(h:A.length=i):ar (A++y::B) i j=y.getD j (.b ak):=by
 subst h;unfold ar;have:(A++y::B).getD A.length []=y:=by simp[gg]
 rw[this]
theorem iq{α:Type}(f:aC->α)(n:aC):(ch (n+1)).map f=(ch n).map f++[f n]:=by rw[CZ,cQ];rfl
theorem fT(a:aq):cW a.toList a.toList=true:=qA _
theorem getD_map{α:Type}(f:aC->az CV)(n i:aC)(h:i<n):((ch n).map f).getD i []=f i:=by simp[gg,h]
theorem eU(f:aC->az CV)(n i j:aC)(h:i<n):ar ((ch n).map f) i j=(f i).getD j (.b ak):=by unfold ar;rw[getD_map (α:=Unit) f n i h]
theorem Ea(x:CV):(bytesOf [[x]]).size=1:=by rw[ie];rfl
theorem afS(p:az CV->aY):∀(r:aQ) (i:aC),i<(r.takeWhile p).length->∃h:i<r.length,p r[i]=ai
 |[],i,h=>by simp at h
 |y::r,i,h=>by
  by_cases hp:p y=ai
  ·rw[qd hp]at h;cases i with
   |zero=>exact⟨by simp,hp⟩
   |succ i=>obtain⟨h1,h2⟩:=afS p r i (by simpa using h);exact⟨by simpa using h1,by simpa using h2⟩
  ·rw[qc hp]at h;simp at h
theorem afR(p:az CV->aY):∀(r:aQ) (h:(r.takeWhile p).length<r.length),p r[(r.takeWhile p).length]=ak
 |[],h=>by simp at h
 |y::r,h=>by
  by_cases hp:p y=ai
  ·have e:=qd (l:=r) hp;have h':(r.takeWhile p).length<r.length:=by rw[e]at h;simpa using h
   have:=afR p r h';simp only[e,dh,List.getElem_cons_succ];exact this
  ·have e:=qc (l:=r) hp;simp only[e,jN,List.getElem_cons_zero];simpa using hp
theorem GI(p:az CV->aY)(r:aQ):(r.takeWhile p).length<=r.length:=by have:=lH bK (np (p:=p) (l:=r));rw[cf]at this;omega
theorem yQ(p:az CV->aY)(r:aQ):r.take (r.takeWhile p).length=r.takeWhile p:=by have e:=np (p:=p) (l:=r);have:=List.take_left (l₁:=r.takeWhile p) (l₂:=r.dropWhile p);rw[e]at this;exact this
theorem xJ(p:az CV->aY)(r:aQ):r.drop (r.takeWhile p).length=r.dropWhile p:=by have e:=np (p:=p) (l:=r);have:=List.drop_left (l₁:=r.takeWhile p) (l₂:=r.dropWhile p);rw[e]at this;exact this
theorem tW{R:Type}(p:az CV->aY)(r:aQ)(F:aC->aC->ay R)(K:aC->ay R)
  (hT:∀m i (h:i<r.length),p r[i]=ai->F (m+1) i=F m (i+1)) (hF:∀m i (h:i<r.length),p r[i]=ak->F (m+1) i=K i) (hE:∀m,F (m+1) r.length=K r.length)
  (n:aC) (hn:r.length<n):F n 0=K (r.takeWhile p).length:=by
 refine dB F (λi=>r.length-i) (λi=>i<=(r.takeWhile p).length) (λ_=>K (r.takeWhile p).length) (λm i hi=> ?_) n 0 (bk _) (by omega);have hl:=GI p r;by_cases h:i<(r.takeWhile p).length
 ·obtain⟨h1,h2⟩:=afS p r i h;exact .inr ⟨i+1,h,by omega,rfl,hT m i h1 h2⟩
 ·left;have lZ:i=(r.takeWhile p).length:=by omega
  subst lZ;by_cases h2:(r.takeWhile p).length<r.length
  ·exact hF m _ h2 (afR p r h2)
  ·have h3:(r.takeWhile p).length=r.length:=by omega
   rw[h3];exact hE m
theorem xQ{R:Type}(p:az CV->aY)(f:az CV->az CV)(r:aQ)(m0:aC)(F:aC->aC->aQ->ay R)(K:aQ->ay R)
  (hT:∀m i acc (h:i<r.length),acc.length<=m0+i->p r[i]=ai->F (m+1) i acc=F m (i+1) (acc++[f r[i]])) (hF:∀m i acc (h:i<r.length),acc.length<=m0+i->p r[i]=ak->F (m+1) i acc=F m (i+1) acc)
  (hE:∀m acc,F (m+1) r.length acc=K acc) (n:aC) (acc:aQ) (ha:acc.length<=m0) (hn:r.length<n):F n 0 acc=K (acc++(r.filter p).map f):=by
 have:=dB (λn (s:aC×aQ)=>F n s.1 s.2) (λs=>r.length-s.1) (λs=>s.1<=r.length/\s.2.length<=m0+s.1) (λs=>K (s.2++((r.drop s.1).filter p).map f)) (λm s hs=>by
  obtain⟨i,acc⟩:=s;obtain⟨h1,h2⟩:=hs;dsimp only at h1 h2⊢;by_cases h:i<r.length
  ·right;rw[dG h];cases hp:p r[i]with
   |true=>exact⟨(i+1,acc++[f r[i]]),⟨h,by simp;omega⟩,by dsimp only;omega,by rw[dA hp];simp,hT m i acc h h2 hp⟩
   |false=>exact⟨(i+1,acc),⟨h,by dsimp only;omega⟩,by dsimp only;omega,by rw[cE (by simp[hp])],hF m i acc h h2 hp⟩
  ·left;have hi:i=r.length:=by omega
   subst hi;rw[cD];simpa using hE m acc) n (0,acc) ⟨bk _,by dsimp only;omega⟩ (by dsimp only;omega)
 simpa using this
theorem OD{xs:aQ}(ha:ng xs)(i j:aC):Fit (ar xs i j):=by
 unfold ar;by_cases hi:i<xs.length
 ·rw[nD hi];by_cases hj:j<xs[i].length
  ·rw[show xs[i].getD j (.b ak)=xs[i][j]by simp[gg,hj]];exact ha.2 _ (bu hi) _ (bu hj)
  ·rw[show xs[i].getD j (.b ak)= .b ak by simp[gg,Nat.not_lt.1 hj]];exact Fit.b _
 ·rw[show xs.getD i []=[]by simp[gg,Nat.not_lt.1 hi]];exact Fit.b _
theorem DP{xs:aQ}(ha:ng xs)(i j:aC):CD (bz (ar xs i j)):=by
 have h:=OD ha i j;generalize ar xs i j=y at h;cases h with
 |s x h=>exact h
 |_=>exact bk _
theorem zK{xs:aQ}(ha:ng xs)(i j:aC):ng (gD (ar xs i j)):=by
 have h:=OD ha i j;generalize ar xs i j=y at h;cases h with
 |l e xs h hc=>exact⟨h,hc⟩
 |_=>exact⟨bk _,λy hy=>by cases hy⟩
theorem jS{R:Type}(g:aC->aY)(len:aC)(F:aC->aC->ay R)(kf kt:ay R)(hT:∀m i,i<len->g i=ai->F (m+1) i=F m (i+1))(hF:∀m i,i<len->g i=ak->F (m+1) i=kf)(hE:∀m,F (m+1) len=kt)(n:aC)(hn:len<n):F n 0=bif(ch len).all g then kt else kf:=by
 have:=dB F (λi=>len-i) (λi=>i<=len) (λi=>bif(iw i (len-i)).all g then kt else kf) (λm i hi=>by
  by_cases h:i<len
  ·have e:(iw i (len-i)).all g=(g i&&(iw (i+1) (len-(i+1))).all g):=by rw[show len-i=(len-(i+1))+1 by omega,List.range'_succ,pQ]
   cases hp:g i with
   |true=>right;exact⟨i+1,h,by omega,by rw[e,hp,bm],hT m i h hp⟩
   |false=>left;rw[e,hp,hF m i h hp];rfl
  ·left;have:i=len:=by omega
   subst this;rw[hE,vP];rfl) n 0 (bk _) (by omega)
 rw[this,oN,<-zO]
theorem n6{R:Type}(p:aC->aY)(len:aC)(F:aC->aC->ay R)(kr:aw->ay R)(h1:∀m i,i<len->p i=ai->F (m+1) i=kr i)(h2:∀m i,i<len->p i=ak->F (m+1) i=F m (i+1))(h3:∀m,F (m+1) len=kr (-1))(n:aC)(hn:len<n):F n 0=kr (fi p len 0):=by
 have:=dB F (λi=>len-i) (λi=>i<=len) (λi=>kr (fi p (len-i) i)) (λm i hi=>by
  by_cases h:i<len
  ·have e:len-i=(len-(i+1))+1:=by omega
   cases hp:p i with
   |true=>left;rw[h1 m i h hp,e];simp[fi,hp]
   |false=>right;exact⟨i+1,h,by omega,by rw[e];simp[fi,hp],h2 m i h hp⟩
  ·left;have:i=len:=by omega
   subst this;rw[h3,vP];rfl) n 0 (by omega) (by omega)
 simpa using this
theorem all_congr{g h:aC->aY}{n:aC}(e:∀i,i<n->g i=h i):(ch n).all g=(ch n).all h:=by
 induction n with
 |zero=>rfl
 |succ n ih=>rw[CZ,CX,CX,ih (λi hi=>e i (by omega))];simp[e n (by omega)]
theorem J8{T:Tab}(hT:∀e ti,T.ty e=ah ti->0<ti.bytes):∀y,q_ T y->Fit y
 |_, .i k n _=>Fit.i k n
 |_, .b x=>Fit.b x
 |_, .s x h=>Fit.s x (dc h (by omega))
 |_, .l e xs ti h h1 h2 h3=>by
  have hp:=hT e ti h;have hle:xs.length*1<=xs.length*ti.bytes:=Nat.mul_le_mul_left _ hp;exact Fit.l e xs (by omega) (λy hy x hx=>J8 hT x (h3 y hy x hx))
theorem VZ:∀{rows:az pS},rows.all (λr=>qs 0 r.ti.bytes)=ai->∀e ti,B8 rows e=ah ti->0<ti.bytes
 |[],_,_,_,h=>by cases h
 |r::rs,h,e,ti,h2=>by
  rw[pQ,aK]at h;unfold B8 at h2;cases hb:bD e r.t with
  |true=>rw[hb,au]at h2;obtain rfl:=aF h2;have h1:=h.1;simp[qs]at h1;omega
  |false=>rw[hb,ax]at h2;exact VZ h.2 e ti h2
theorem acg{rows:az pS}{T:Tab}(hT:T.ty=B8 rows)(h:rows.all (λr=>qs 0 r.ti.bytes)=ai){e:aC}{xs:aQ}(hf:q_ T (.l e xs)):ng xs:=by
 cases J8 (λe ti he=>VZ h e ti (by rw[<-hT];exact he)) _ hf with
 |l _ _ h1 h2=>exact⟨h1,h2⟩
end Go.FG.Lib

namespace Go.FG.Lib
theorem jU{σ R:Type}(len:aC)(F:aC->aC->σ->ay R)(st:aC->σ)(res:ay R)
  (hS:∀m i,i<len->F (m+1) i (st i)=F m (i+1) (st (i+1))) (hE:∀m,F (m+1) len (st len)=res) (n i0:aC) (h0:i0<=len) (hn:len-i0<n):F n i0 (st i0)=res:=by
 refine dB (λn i=>F n i (st i)) (λi=>len-i) (λi=>i<=len) (λ_=>res) (λm i hi=> ?_) n i0 h0 hn;by_cases h:i<len
 ·exact .inr ⟨i+1,h,by omega,rfl,hS m i h⟩
 ·left;have:i=len:=by omega
  subst this;exact hE m
theorem o_{α R:Type}(l:az α)(p:α->aY)(F:aC->aC->ay R)(kf kt:ay R)
  (hT:∀m i (h:i<l.length),p l[i]=ai->F (m+1) i=F m (i+1)) (hF:∀m i (h:i<l.length),p l[i]=ak->F (m+1) i=kf) (hE:∀m,F (m+1) l.length=kt) (n:aC) (hn:l.length<n):F n 0=bif l.all p then kt else kf:=by
 have:=dB F (λi=>l.length-i) (λi=>i<=l.length) (λi=>bif(l.drop i).all p then kt else kf) (λm i hi=>by
  by_cases h:i<l.length
  ·have e:(l.drop i).all p=(p l[i]&&(l.drop (i+1)).all p):=by rw[di h,pQ]
   cases hp:p l[i]with
   |true=>right;exact⟨i+1,h,by omega,by rw[e,hp,bm],hT m i h hp⟩
   |false=>left;rw[e,hp,hF m i h hp];rfl
  ·left;have:i=l.length:=by omega
   subst this;rw[hE,cD];rfl) n 0 (bk _) (by omega)
 simpa using this
theorem C9{α R:Type}(l:az α)(p:α->aY)(F:aC->aC->ay R)(kt kf:ay R)
  (hT:∀m i (h:i<l.length),p l[i]=ai->F (m+1) i=kt) (hF:∀m i (h:i<l.length),p l[i]=ak->F (m+1) i=F m (i+1)) (hE:∀m,F (m+1) l.length=kf) (n:aC) (hn:l.length<n):F n 0=bif l.any p then kt else kf:=by have h:=o_ l (λx=> !p x) F kt kf (λm i h hp=>hF m i h (by simpa using hp)) (λm i h hp=>hT m i h (by simpa using hp)) hE n hn;rw[h,List.any_eq_not_all_not];cases l.all λx=> !p x<;>rfl
theorem getD_map'{α:Type}(f:α->az CV)(l:az α)(i:aC)(h:i<l.length):(l.map f).getD i []=f l[i]:=by simp[gg,h]
theorem fE{α:Type}(f:α->az CV)(l:az α)(i j:aC)(h:i<l.length):ar (l.map f) i j=(f l[i]).getD j (.b ak):=by unfold ar;rw[getD_map' f l i h]
theorem L_{α:Type}(l:az α)(p:α->aY)(q:aC->aY)(h:∀i (hi:i<l.length),q i=p l[i]):decide (fi q l.length 0≥0)=l.any p:=by
 rcases ph q l.length 0 with ⟨h1,h2⟩|⟨k,_,hk,h3,h4,_⟩
 ·rw[h1];symm;rw[show decide ((-1:aw)≥0)=ak by decide,List.any_eq_false];intro x hx;obtain⟨i,hi,rfl⟩:=c_ hx;have:=h2 i (bk _) (by omega);rw[h i hi]at this;simp[this]
 ·rw[h3];symm;rw[show decide ((k:aw)≥0)=ai by simp,List.any_eq_true];exact⟨l[k]'(by omega),bu _,by rw[<-h k (by omega)];exact h4⟩
theorem pL(ks:az Ck)(y:az CV):aL (aN ks 1) 0 y=[y]:=rfl
theorem oU{α β:Type}(f:α->β)(l:az α)(i:aC)(h:i<l.length):(l.take i).map f++[f l[i]]=(l.take (i+1)).map f:=by rw[bQ h,cQ];rfl
def rs(l:az aq):aQ:=l.map λk=>[CV.s k]
def ri(l:az aw):aQ:=l.map λn=>[CV.i ao n]
def rr(l:az (az aw)):aQ:=l.map λq=>[CV.l 3 (ri q)]
structure En where
 k:aq
 st:aw
 li:aw
 bo:aq
 deriving DecidableEq
def En.row(e:En):az CV:=[CV.s e.k,CV.i ao e.st,CV.i ao e.li,CV.s e.bo]
def re(l:az En):aQ:=l.map En.row
structure Fe where
 k:aq
 t:aq
 sta:aw
 li:aw
 st:aw
 deriving DecidableEq
def Fe.row(e:Fe):az CV:=[CV.s e.k,CV.s e.t,CV.i ao e.sta,CV.i ao e.li,CV.i ao e.st]
def rf(l:az Fe):aQ:=l.map Fe.row
structure Cl where
 id:aw
 k:aq
 fe:aw
 fr:aw
 sta:aw
 got:aq
 age:aw
 deriving DecidableEq
def Cl.row(e:Cl):az CV:=[CV.i ao e.id,CV.s e.k,CV.i ao e.fe,CV.i ao e.fr,CV.i ao e.sta,CV.s e.got,CV.i ao e.age]
def rc(l:az Cl):aQ:=l.map Cl.row
structure Fi where
 n:aq
 t:aq
 kp:aw
 deriving DecidableEq
def Fi.row(e:Fi):az CV:=[CV.s e.n,CV.s e.t,CV.i ao e.kp]
def rd(l:az Fi):aQ:=l.map Fi.row
theorem eD(l):(rs l).length=l.length:=by unfold rs;simp
theorem f_(l):(ri l).length=l.length:=by unfold ri;simp
theorem gL(l):(rr l).length=l.length:=by unfold rr;simp
theorem dr(l):(re l).length=l.length:=by unfold re;simp
theorem dQ(l):(rf l).length=l.length:=by unfold rf;simp
theorem fc(l):(rc l).length=l.length:=by unfold rc;simp
theorem ed(l):(rd l).length=l.length:=by unfold rd;simp
theorem XT{l:az aq}{i:aC}(h:i<l.length):ar (rs l) i 0=CV.s l[i]:=fE _ l i 0 h
theorem RJ{l:az aw}{i:aC}(h:i<l.length):ar (ri l) i 0=CV.i ao l[i]:=fE _ l i 0 h
theorem Lc{l:az (az aw)}{i:aC}(h:i<l.length):ar (rr l) i 0=CV.l 3 (ri l[i]):=fE _ l i 0 h
theorem rc0{l:az Cl}{i:aC}(h:i<l.length):ar (rc l) i 0=CV.i ao l[i].id:=fE _ l i 0 h
theorem rc1{l:az Cl}{i:aC}(h:i<l.length):ar (rc l) i 1=CV.s l[i].k:=fE _ l i 1 h
theorem rc2{l:az Cl}{i:aC}(h:i<l.length):ar (rc l) i (1+1)=CV.i ao l[i].fe:=fE _ l i 2 h
theorem rc3{l:az Cl}{i:aC}(h:i<l.length):ar (rc l) i (1+1+1)=CV.i ao l[i].fr:=fE _ l i 3 h
theorem rc4{l:az Cl}{i:aC}(h:i<l.length):ar (rc l) i (1+1+1+1)=CV.i ao l[i].sta:=fE _ l i 4 h
theorem rc5{l:az Cl}{i:aC}(h:i<l.length):ar (rc l) i (1+1+1+1+1)=CV.s l[i].got:=fE _ l i 5 h
theorem rc6{l:az Cl}{i:aC}(h:i<l.length):ar (rc l) i (1+1+1+1+1+1)=CV.i ao l[i].age:=fE _ l i 6 h
theorem KJ{l:az Fi}{i:aC}(h:i<l.length):ar (rd l) i 0=CV.s l[i].n:=fE _ l i 0 h
theorem XR{l:az Fi}{i:aC}(h:i<l.length):ar (rd l) i 1=CV.s l[i].t:=fE _ l i 1 h
theorem XS{l:az Fi}{i:aC}(h:i<l.length):ar (rd l) i (1+1)=CV.i ao l[i].kp:=fE _ l i 2 h
end Go.FG.Lib
namespace Go.FG.Lib
theorem kO{α:Type}(f:α->az CV)(l:az α)(i j:aC)(ys:az CV)(y:α)(h:i<l.length)(hs:dS (f l[i]) j ys=f y):cK (l.map f) i j ys=(l.set i y).map f:=by unfold cK;rw[getD_map' f l i h,hs,List.map_set]
def oa{α:Type}(l:az α)(g:aC->α->α)(i:aC):az α:=(l.mapIdx g).take i++l.drop i
theorem qN{α:Type}(l:az α)(g:aC->α->α)(i:aC)(h:i<=l.length):(oa l g i).length=l.length:=by unfold oa;simp;omega
theorem yR{α:Type}(l:az α)(g:aC->α->α)(i:aC)(h:i<l.length)(h2:i<(oa l g i).length):(oa l g i)[i]=l[i]:=by
 have e:(oa l g i)[i]? =ah l[i]:=by unfold oa;rw[c8 (by simp;omega)];simp[show min i l.length=i by omega]
 rw[dK h2]at e;exact aF e
theorem tZ{α:Type}(l:az α)(g:aC->α->α)(i:aC)(h:i<l.length):(oa l g i).set i (g i l[i])=oa l g (i+1):=by
 unfold oa;have hl:((l.mapIdx g).take i).length=i:=by simp;omega
 rw[NW _ _ (by omega),hl,vP,di h,Tt,bQ (by simpa using h),bU];simp
theorem Ei{α:Type}(l:az α)(g:aC->α->α):oa l g 0=l:=by unfold oa;simp
theorem qM{α:Type}(l:az α)(g:aC->α->α):oa l g l.length=l.mapIdx g:=by unfold oa;rw[cD,cu,fX (by simp)]
theorem nJ{α R:Type}(f:α->az CV)(l:az α)(g:aC->α->α)(F:aC->aC->aQ->ay R)(K:aQ->ay R)
  (hS:∀m i (L:az α) (h:i<l.length) (h2:i<L.length),L.length=l.length->L[i]=l[i]->F (m+1) i (L.map f)=F m (i+1) ((L.set i (g i l[i])).map f))
  (hE:∀m (L:az α),L.length=l.length->F (m+1) l.length (L.map f)=K (L.map f)) (n:aC) (hn:l.length<n):F n 0 (l.map f)=K ((l.mapIdx g).map f):=by
 have:=jU l.length F (λi=>(oa l g i).map f) (K ((l.mapIdx g).map f)) (λm i h=>by
  have h1:=qN l g i (by omega);rw[hS m i (oa l g i) h (by omega) h1 (yR l g i h (by omega)),tZ l g i h]) (λm=>by
  rw[hE m _ (qN l g _ (cJ _)),qM]) n 0 (bk _) (by omega)
 rw[show l.map f=(oa l g 0).map f by rw[Ei]];exact this
end Go.FG.Lib

namespace Go.FG.Lib
instance:Inhabited En:=⟨⟨⟨#[]⟩,0,0,⟨#[]⟩⟩⟩
instance:Inhabited Fe:=⟨⟨⟨#[]⟩,⟨#[]⟩,0,0,0⟩⟩
instance:Inhabited Cl:=⟨⟨0,⟨#[]⟩,0,0,0,⟨#[]⟩,0⟩⟩
instance:Inhabited Fi:=⟨⟨⟨#[]⟩,⟨#[]⟩,0⟩⟩
def el{α:Type}[Inhabited α](l:az α)(i:aC):α:=l.getD i default
theorem fF{α:Type}[Inhabited α]{l:az α}{i:aC}(h:i<l.length):el l i=l[i]:=by unfold el;simp[gg,h]
theorem mO{α:Type}[Inhabited α]{l:az α}{i:aC}(h:i<l.length):el l i∈l:=by rw[fF h];exact bu h
theorem gi{α:Type}[Inhabited α](f:α->az CV)(l:az α)(i j:aC)(h:i<l.length):ar (l.map f) i j=(f (el l i)).getD j (.b ak):=by rw[fE f l i j h,fF h]
theorem pF{l:az En}{i:aC}(h:i<l.length):ar (re l) i 0=CV.s (el l i).k:=gi _ l i 0 h
theorem r_{l:az En}{i:aC}(h:i<l.length):ar (re l) i 1=CV.i ao (el l i).st:=gi _ l i 1 h
theorem sa{l:az En}{i:aC}(h:i<l.length):ar (re l) i (1+1)=CV.i ao (el l i).li:=gi _ l i 2 h
theorem sb{l:az En}{i:aC}(h:i<l.length):ar (re l) i (1+1+1)=CV.s (el l i).bo:=gi _ l i 3 h
theorem I1{l:az Fe}{i:aC}(h:i<l.length):ar (rf l) i 0=CV.s (el l i).k:=gi _ l i 0 h
theorem GM{l:az Fe}{i:aC}(h:i<l.length):ar (rf l) i 1=CV.s (el l i).t:=gi _ l i 1 h
theorem wf2{l:az Fe}{i:aC}(h:i<l.length):ar (rf l) i (1+1)=CV.i ao (el l i).sta:=gi _ l i 2 h
theorem Bh{l:az Fe}{i:aC}(h:i<l.length):ar (rf l) i 2=CV.i ao (el l i).sta:=gi _ l i 2 h
theorem RM{l:az Fe}{i:aC}(h:i<l.length):ar (rf l) i (1+1+1)=CV.i ao (el l i).li:=gi _ l i 3 h
theorem RN{l:az Fe}{i:aC}(h:i<l.length):ar (rf l) i (1+1+1+1)=CV.i ao (el l i).st:=gi _ l i 4 h
theorem Ro{l:az Cl}{i:aC}(h:i<l.length):ar (rc l) i 0=CV.i ao (el l i).id:=gi _ l i 0 h
theorem wc1{l:az Cl}{i:aC}(h:i<l.length):ar (rc l) i 1=CV.s (el l i).k:=gi _ l i 1 h
theorem wc2{l:az Cl}{i:aC}(h:i<l.length):ar (rc l) i (1+1)=CV.i ao (el l i).fe:=gi _ l i 2 h
theorem wc3{l:az Cl}{i:aC}(h:i<l.length):ar (rc l) i (1+1+1)=CV.i ao (el l i).fr:=gi _ l i 3 h
theorem wc4{l:az Cl}{i:aC}(h:i<l.length):ar (rc l) i (1+1+1+1)=CV.i ao (el l i).sta:=gi _ l i 4 h
theorem wc5{l:az Cl}{i:aC}(h:i<l.length):ar (rc l) i (1+1+1+1+1)=CV.s (el l i).got:=gi _ l i 5 h
theorem wc6{l:az Cl}{i:aC}(h:i<l.length):ar (rc l) i (1+1+1+1+1+1)=CV.i ao (el l i).age:=gi _ l i 6 h
theorem wd0{l:az Fi}{i:aC}(h:i<l.length):ar (rd l) i 0=CV.s (el l i).n:=gi _ l i 0 h
theorem wd1{l:az Fi}{i:aC}(h:i<l.length):ar (rd l) i 1=CV.s (el l i).t:=gi _ l i 1 h
theorem wd2{l:az Fi}{i:aC}(h:i<l.length):ar (rd l) i (1+1)=CV.i ao (el l i).kp:=gi _ l i 2 h
structure Px where
 now:aw
 en:az En
 w:az aq
 m:az aq
 s:az (az aw)
 a:aw
 fe:az Fe
 cl:az Cl
 hits:aw
structure Px.Fit (p:Px) (n:aC):Prop where
 en:p.en.length<=n
 w:p.w.length<=n
 m:p.m.length<=n
 s:p.s.length<=n/\(∀q∈p.s,q.length<=n)/\(p.s.map bK).sum<=n
 fe:p.fe.length<=n
 cl:p.cl.length<=n
theorem Px.Fit.le{p:Px}{n m:aC}(h:p.Fit n)(hm:n<=m):p.Fit m:=⟨dc h.en hm,dc h.w hm,dc h.m hm,⟨dc h.s.1 hm,λq hq=>dc (h.s.2.1 q hq) hm,dc h.s.2.2 hm⟩,dc h.fe hm,dc h.cl hm⟩
theorem lS{i:aC}(h:0<i)(h2:i<=9223372036854775807):br ((i:aw)-1)=((i-1:aC):aw):=by rw[bZ (by omega) (by omega)];omega
theorem HS{n:aC}(f g:aC->aY):((ch n).all λi=>f i&&g i)=((ch n).all f&&(ch n).all g):=by
 induction n with
 |zero=>rfl
 |succ n ih=>simp only[CZ,CX,pQ,List.all_nil,j4,ih];cases (ch n).all f<;>cases (ch n).all g<;>cases f n<;>cases g n<;>rfl
end Go.FG.Lib

namespace Go.FG
namespace Lib
def ap{α β:Type}(f:α->β)(x:α):β:=f x
theorem bq{α R:Type}{o:ay α}{d:α}{g:ay R}{k:α->ay R}(hc:nB o=ai)(h:g=Option.bind o k):g=ap k (Option.getD o d):=by rw[h,some_ hc (d:=d)];rfl
end Lib
end Go.FG

namespace Go.FG.Lib
theorem OB{α R:Type}(l:az α)(p:α->aY)(F0:aC->aC->ay R)(F1:aC->aC->az α->ay R)(res:az α->ay R)
  (a1:∀m i (h:i<l.length),p l[i]=ai->F0 (m+1) i=F1 m (i+1) [l[i]]) (a2:∀m i (h:i<l.length),p l[i]=ak->F0 (m+1) i=F0 m (i+1)) (a3:∀m,F0 (m+1) l.length=res [])
  (b1:∀m i acc (h:i<l.length),acc.length<=i->p l[i]=ai->F1 (m+1) i acc=F1 m (i+1) (acc++[l[i]])) (b2:∀m i acc (h:i<l.length),p l[i]=ak->F1 (m+1) i acc=F1 m (i+1) acc) (b3:∀m acc,F1 (m+1) l.length acc=res acc)
  (n:aC) (hn:l.length<n):F0 n 0=res (l.filter p):=by
 have k1:∀d i acc m,l.length-i<=d->i<=l.length->acc.length<=i->d<m->F1 m i acc=res (acc++(l.drop i).filter p):=by
  intro d;induction d with
  |zero=>
   intro i acc m h1 h2 h3 h4;obtain⟨m,rfl⟩:∃m',m=m'+1:=⟨m-1,by omega⟩
   have:i=l.length:=by omega
   subst this;rw[b3,cD];simp
  |succ d ih=>
   intro i acc m h1 h2 h3 h4;obtain⟨m,rfl⟩:∃m',m=m'+1:=⟨m-1,by omega⟩
   by_cases hi:i<l.length
   ·rw[di hi];cases hp:p l[i]with
    |true=>rw[b1 m i acc hi h3 hp,ih (i+1) _ m (by omega) hi (by simp;omega) (by omega),dA hp];simp
    |false=>rw[b2 m i acc hi hp,ih (i+1) _ m (by omega) hi (by omega) (by omega),cE (by simp[hp])]
   ·have:i=l.length:=by omega
    subst this;rw[b3,cD];simp
 have k0:∀d i m,l.length-i<=d->i<=l.length->d<m->F0 m i=res ((l.drop i).filter p):=by
  intro d;induction d with
  |zero=>
   intro i m h1 h2 h4;obtain⟨m,rfl⟩:∃m',m=m'+1:=⟨m-1,by omega⟩
   have:i=l.length:=by omega
   subst this;rw[a3,cD];rfl
  |succ d ih=>
   intro i m h1 h2 h4;obtain⟨m,rfl⟩:∃m',m=m'+1:=⟨m-1,by omega⟩
   by_cases hi:i<l.length
   ·rw[di hi];cases hp:p l[i]with
    |true=>rw[a1 m i hi hp,k1 d (i+1) _ m (by omega) hi (by simp) (by omega),dA hp];simp
    |false=>rw[a2 m i hi hp,ih (i+1) m (by omega) hi (by omega),cE (by simp[hp])]
   ·have:i=l.length:=by omega
    subst this;rw[a3,cD];rfl
 have:=k0 l.length 0 n (by omega) (bk _) hn;rwa[eN]at this
theorem Dq{α R:Type}(l:az α)(p:α->aY)(F1:aC->aC->az α->ay R)(res:az α->ay R)(c0:az α)
  (b1:∀m i acc (h:i<l.length),acc.length<=c0.length+i->p l[i]=ai->F1 (m+1) i acc=F1 m (i+1) (acc++[l[i]])) (b2:∀m i acc (h:i<l.length),p l[i]=ak->F1 (m+1) i acc=F1 m (i+1) acc) (b3:∀m acc,F1 (m+1) l.length acc=res acc)
  (n:aC) (hn:l.length<n):F1 n 0 c0=res (c0++l.filter p):=by
 have k1:∀d i acc m,l.length-i<=d->i<=l.length->acc.length<=c0.length+i->d<m->F1 m i acc=res (acc++(l.drop i).filter p):=by
  intro d;induction d with
  |zero=>
   intro i acc m h1 h2 h3 h4;obtain⟨m,rfl⟩:∃m',m=m'+1:=⟨m-1,by omega⟩
   have:i=l.length:=by omega
   subst this;rw[b3,cD];simp
  |succ d ih=>
   intro i acc m h1 h2 h3 h4;obtain⟨m,rfl⟩:∃m',m=m'+1:=⟨m-1,by omega⟩
   by_cases hi:i<l.length
   ·rw[di hi];cases hp:p l[i]with
    |true=>rw[b1 m i acc hi h3 hp,ih (i+1) _ m (by omega) hi (by simp;omega) (by omega),dA hp];simp
    |false=>rw[b2 m i acc hi hp,ih (i+1) _ m (by omega) hi (by omega) (by omega),cE (by simp[hp])]
   ·have:i=l.length:=by omega
    subst this;rw[b3,cD];simp
 have:=k1 l.length 0 c0 n (by omega) (bk _) (by omega) hn;rwa[eN]at this
theorem Be{α:Type}(p q:α->aY):∀r:az α,(∀y∈r,q y= !p y)->r.Pairwise (λy z=>p z=ai->p y=ai)->r.takeWhile p=r.filter p/\r.dropWhile p=r.filter q
 |[],_,_=>⟨rfl,rfl⟩
 |y::r,hq,h=>by
  rw[qu]at h;have hy:=hq y (by simp);cases hp:p y with
  |true=>rw[hp]at hy;obtain⟨i1,i2⟩:=Be p q r (λz hz=>hq z (by simp[hz])) h.2;rw[qd hp,dA hp,List.dropWhile_cons_of_pos hp,cE (by rw[hy];simp),i1,i2];exact⟨rfl,rfl⟩
  |false=>
   rw[hp]at hy;have hn:¬p y=true:=by rw[hp];simp
   have ha:∀z∈r,p z=false:=λz hz=>by
    cases Fj:p z with
    |false=>rfl
    |true=>exact cS (h.1 z hz Fj) hn
   rw[qc hn,cE hn,List.dropWhile_cons_of_neg hn,dA (by rw[hy];rfl)];refine⟨?_, ?_⟩
   ·symm;rw[List.filter_eq_nil_iff];intro z hz;rw[ha z hz];simp
   ·congr 1;symm;rw[eJ];intro z hz;rw[hq z (by simp[hz]),ha z hz];rfl
end Go.FG.Lib

