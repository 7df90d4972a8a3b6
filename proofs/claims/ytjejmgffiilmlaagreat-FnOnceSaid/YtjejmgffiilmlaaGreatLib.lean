/- Plain facts on numbers, texts and lists. No condition. -/
import Derived.Test.YtjejmgffiilmlaaGreatCorec
set_option linter.unusedVariables false
set_option linter.unusedSimpArgs false
set_option maxRecDepth 100000
open Bool renaming false->aq,true->ak,true_and->bj,and_eq_true->aK,and_true->ph
open Go.IntKind renaming i64->ar
open List renaming getD->jq,beq->dC,takeWhile_cons_of_pos->pL,takeWhile_cons_of_neg->pK,length_cons->c5,length_nil->jr,length->bW,takeWhile_append_dropWhile->mK,length_append->bO,filter_cons_of_pos->dt,filter_cons_of_neg->cm,drop_length->dm,range->cM,range'->lJ,all_cons->r_,range_eq_range'->PK,range_succ->TG,all_append->Ap,drop_eq_getElem_cons->dG,any_eq_false->Aq,getElem_of_mem->c9,getElem_mem->bD,set->aE,take_succ_eq_append_getElem->c6,map_append->dh,getElem?_append_right->cZ,getElem?_eq_getElem->eD,append_assoc->cj,append_nil->di,take_of_length_le->iJ,drop_zero->fm,pairwise_cons->qb,filter_eq_nil_iff->IC,filter_eq_self->eI
open Nat renaming zero_le->bK,sub_self->wU,sub_zero->uF,le_trans->c_,blt->pZ,beq->bA,le_refl->cu
open Option renaming some->aj,isSome->mU,bind->lQ,getD->XQ
open Option.some renaming inj->aF
open _root_ renaming Nat->aG,Option->aD,Int->aA,List->az,ByteArray->au,Bool->aY,congrArg->ml,cond_true->ay,cond_false->aC,absurd->cq
namespace Go.FG.Lib
theorem tf{σ β:Type}(F:aG->σ->aD β)(mu:σ->aG)(inv:σ->Prop)(post:β->Prop)
  (step:∀n s,inv s->(∃b,F (n+1) s=aj b/\post b)\/∃s',inv s'/\mu s'<mu s/\F (n+1) s=F n s'):∀n s,inv s->mu s<n->∃b,F n s=aj b/\post b:=by
 intro n;induction n with
 |zero=>intro s _ h;omega
 |succ n ih=>
  intro s hi hm;rcases step n s hi with h|⟨s',h1,h2,h4⟩
  ·exact h
  ·rw[h4];exact ih s' h1 (by omega)
theorem cT{n:aG}(h:n<=9223372036854775807):n<c7:=by unfold c7;omega
theorem dc{x:aA}(h1: -9223372036854775808<=x)(h2:x<=9223372036854775807):bM x=x:=jQ h1 h2
theorem ark{x:aA}(h0: -9223372036854775808<=x:=by omega)(h1:x<=9223372036854775807:=by omega):bM x=x:=dc h0 h1
theorem uQ(A:aX)(y:az CV)(B:aX)(i j:aG)(h:A.length=i):aw (A++y::B) i j=y.getD j (.b aq):=by
 subst h;unfold aw;have:(A++y::B).getD A.length []=y:=by simp[jq]
 rw[this]
theorem se(a:au):dC a.toList a.toList=true:=qg _
theorem BK(x:CV):(bytesOf [[x]]).size=1:=by rw[iw];rfl
theorem aah(p:az CV->aY):∀(r:aX) (i:aG),i<(r.takeWhile p).length->∃h:i<r.length,p r[i]=ak
 |[],i,h=>by simp at h
 |y::r,i,h=>by
  by_cases hp:p y=ak
  ·rw[pL hp]at h;cases i with
   |zero=>exact⟨by simp,hp⟩
   |succ i=>obtain⟨h1,h2⟩:=aah p r i (by simpa using h);exact⟨by simpa using h1,by simpa using h2⟩
  ·rw[pK hp]at h;simp at h
theorem aag(p:az CV->aY):∀(r:aX) (h:(r.takeWhile p).length<r.length),p r[(r.takeWhile p).length]=aq
 |[],h=>by simp at h
 |y::r,h=>by
  by_cases hp:p y=ak
  ·have e:=pL (l:=r) hp;have h':(r.takeWhile p).length<r.length:=by rw[e]at h;simpa using h
   have:=aag p r h';simp only[e,c5,List.getElem_cons_succ];exact this
  ·have e:=pK (l:=r) hp;simp only[e,jr,List.getElem_cons_zero];simpa using hp
theorem H8(p:az CV->aY)(r:aX):(r.takeWhile p).length<=r.length:=by have:=ml bW (mK (p:=p) (l:=r));rw[bO]at this;omega
theorem Aa(p:az CV->aY)(r:aX):r.take (r.takeWhile p).length=r.takeWhile p:=by have e:=mK (p:=p) (l:=r);have:=List.take_left (l₁:=r.takeWhile p) (l₂:=r.dropWhile p);rw[e]at this;exact this
theorem zN(p:az CV->aY)(r:aX):r.drop (r.takeWhile p).length=r.dropWhile p:=by have e:=mK (p:=p) (l:=r);have:=List.drop_left (l₁:=r.takeWhile p) (l₂:=r.dropWhile p);rw[e]at this;exact this
theorem wv{R:Type}(p:az CV->aY)(r:aX)(F:aG->aG->aD R)(K:aG->aD R)
  (hT:∀m i (h:i<r.length),p r[i]=ak->F (m+1) i=F m (i+1)) (hF:∀m i (h:i<r.length),p r[i]=aq->F (m+1) i=K i) (hE:∀m,F (m+1) r.length=K r.length)
  (n:aG) (hn:r.length<n):F n 0=K (r.takeWhile p).length:=by
 refine ij F (λi=>r.length-i) (λi=>i<=(r.takeWhile p).length) (λ_=>K (r.takeWhile p).length) (λm i hi=> ?_) n 0 (bK _) (by omega);have hl:=H8 p r;by_cases h:i<(r.takeWhile p).length
 ·obtain⟨h1,h2⟩:=aah p r i h;exact .inr ⟨i+1,h,by omega,rfl,hT m i h1 h2⟩
 ·left;have lE:i=(r.takeWhile p).length:=by omega
  subst lE;by_cases h2:(r.takeWhile p).length<r.length
  ·exact hF m _ h2 (aag p r h2)
  ·have h3:(r.takeWhile p).length=r.length:=by omega
   rw[h3];exact hE m
theorem vQ{R:Type}(p:az CV->aY)(f:az CV->az CV)(r:aX)(m0:aG)(F:aG->aG->aX->aD R)(K:aX->aD R)
  (hT:∀m i acc (h:i<r.length),acc.length<=m0+i->p r[i]=ak->F (m+1) i acc=F m (i+1) (acc++[f r[i]])) (hF:∀m i acc (h:i<r.length),acc.length<=m0+i->p r[i]=aq->F (m+1) i acc=F m (i+1) acc)
  (hE:∀m acc,F (m+1) r.length acc=K acc) (n:aG) (acc:aX) (ha:acc.length<=m0) (hn:r.length<n):F n 0 acc=K (acc++(r.filter p).map f):=by
 have:=ij (λn (s:aG×aX)=>F n s.1 s.2) (λs=>r.length-s.1) (λs=>s.1<=r.length/\s.2.length<=m0+s.1) (λs=>K (s.2++((r.drop s.1).filter p).map f)) (λm s hs=>by
  obtain⟨i,acc⟩:=s;obtain⟨h1,h2⟩:=hs;dsimp only at h1 h2⊢;by_cases h:i<r.length
  ·right;rw[e_ h];cases hp:p r[i]with
   |true=>exact⟨(i+1,acc++[f r[i]]),⟨h,by simp;omega⟩,by dsimp only;omega,by rw[dt hp];simp,hT m i acc h h2 hp⟩
   |false=>exact⟨(i+1,acc),⟨h,by dsimp only;omega⟩,by dsimp only;omega,by rw[cm (by simp[hp])],hF m i acc h h2 hp⟩
  ·left;have hi:i=r.length:=by omega
   subst hi;rw[dm];simpa using hE m acc) n (0,acc) ⟨bK _,by dsimp only;omega⟩ (by dsimp only;omega)
 simpa using this
theorem jS{R:Type}(g:aG->aY)(len:aG)(F:aG->aG->aD R)(kf kt:aD R)(hT:∀m i,i<len->g i=ak->F (m+1) i=F m (i+1))(hF:∀m i,i<len->g i=aq->F (m+1) i=kf)(hE:∀m,F (m+1) len=kt)(n:aG)(hn:len<n):F n 0=bif(cM len).all g then kt else kf:=by
 have:=ij F (λi=>len-i) (λi=>i<=len) (λi=>bif(lJ i (len-i)).all g then kt else kf) (λm i hi=>by
  by_cases h:i<len
  ·have e:(lJ i (len-i)).all g=(g i&&(lJ (i+1) (len-(i+1))).all g):=by rw[show len-i=(len-(i+1))+1 by omega,List.range'_succ,r_]
   cases hp:g i with
   |true=>right;exact⟨i+1,h,by omega,by rw[e,hp,bj],hT m i h hp⟩
   |false=>left;rw[e,hp,hF m i h hp];rfl
  ·left;have:i=len:=by omega
   subst this;rw[hE,wU];rfl) n 0 (bK _) (by omega)
 rw[this,uF,<-PK]
theorem oL{R:Type}(p:aG->aY)(len:aG)(F:aG->aG->aD R)(kr:aA->aD R)(h1:∀m i,i<len->p i=ak->F (m+1) i=kr i)(h2:∀m i,i<len->p i=aq->F (m+1) i=F m (i+1))(h3:∀m,F (m+1) len=kr (-1))(n:aG)(hn:len<n):F n 0=kr (fi p len 0):=by
 have:=ij F (λi=>len-i) (λi=>i<=len) (λi=>kr (fi p (len-i) i)) (λm i hi=>by
  by_cases h:i<len
  ·have e:len-i=(len-(i+1))+1:=by omega
   cases hp:p i with
   |true=>left;rw[h1 m i h hp,e];simp[fi,hp]
   |false=>right;exact⟨i+1,h,by omega,by rw[e];simp[fi,hp],h2 m i h hp⟩
  ·left;have:i=len:=by omega
   subst this;rw[h3,wU];rfl) n 0 (by omega) (by omega)
 simpa using this
theorem all_congr{g h:aG->aY}{n:aG}(e:∀i,i<n->g i=h i):(cM n).all g=(cM n).all h:=by
 induction n with
 |zero=>rfl
 |succ n ih=>rw[TG,Ap,Ap,ih (λi hi=>e i (by omega))];simp[e n (by omega)]
theorem G9{T:Tab}(hT:∀e ti,T.ty e=aj ti->0<ti.bytes):∀y,qG T y->Fit y
 |_, .i k n _=>Fit.i k n
 |_, .b x=>Fit.b x
 |_, .s x h=>Fit.s x (c_ h (by omega))
 |_, .l e xs ti h h1 h2 h3=>by
  have hp:=hT e ti h;have hle:xs.length*1<=xs.length*ti.bytes:=Nat.mul_le_mul_left _ hp;exact Fit.l e xs (by omega) (λy hy x hx=>G9 hT x (h3 y hy x hx))
theorem RX:∀{rows:az pn},rows.all (λr=>pZ 0 r.ti.bytes)=ak->∀e ti,zx rows e=aj ti->0<ti.bytes
 |[],_,_,_,h=>by cases h
 |r::rs,h,e,ti,h2=>by
  rw[r_,aK]at h;unfold zx at h2;cases hb:bA e r.t with
  |true=>rw[hb,ay]at h2;obtain rfl:=aF h2;have h1:=h.1;simp[pZ]at h1;omega
  |false=>rw[hb,aC]at h2;exact RX h.2 e ti h2
theorem XY{rows:az pn}{T:Tab}(hT:T.ty=zx rows)(h:rows.all (λr=>pZ 0 r.ti.bytes)=ak){e:aG}{xs:aX}(hf:qG T (.l e xs)):uw xs:=by
 cases G9 (λe ti he=>RX h e ti (by rw[<-hT];exact he)) _ hf with
 |l _ _ h1 h2=>exact⟨h1,h2⟩
end Go.FG.Lib

namespace Go.FG.Lib
theorem mn{σ R:Type}(len:aG)(F:aG->aG->σ->aD R)(st:aG->σ)(res:aD R)
  (hS:∀m i,i<len->F (m+1) i (st i)=F m (i+1) (st (i+1))) (hE:∀m,F (m+1) len (st len)=res) (n i0:aG) (h0:i0<=len) (hn:len-i0<n):F n i0 (st i0)=res:=by
 refine ij (λn i=>F n i (st i)) (λi=>len-i) (λi=>i<=len) (λ_=>res) (λm i hi=> ?_) n i0 h0 hn;by_cases h:i<len
 ·exact .inr ⟨i+1,h,by omega,rfl,hS m i h⟩
 ·left;have:i=len:=by omega
  subst this;exact hE m
theorem oH{α R:Type}(l:az α)(p:α->aY)(F:aG->aG->aD R)(kf kt:aD R)
  (hT:∀m i (h:i<l.length),p l[i]=ak->F (m+1) i=F m (i+1)) (hF:∀m i (h:i<l.length),p l[i]=aq->F (m+1) i=kf) (hE:∀m,F (m+1) l.length=kt) (n:aG) (hn:l.length<n):F n 0=bif l.all p then kt else kf:=by
 have:=ij F (λi=>l.length-i) (λi=>i<=l.length) (λi=>bif(l.drop i).all p then kt else kf) (λm i hi=>by
  by_cases h:i<l.length
  ·have e:(l.drop i).all p=(p l[i]&&(l.drop (i+1)).all p):=by rw[dG h,r_]
   cases hp:p l[i]with
   |true=>right;exact⟨i+1,h,by omega,by rw[e,hp,bj],hT m i h hp⟩
   |false=>left;rw[e,hp,hF m i h hp];rfl
  ·left;have:i=l.length:=by omega
   subst this;rw[hE,dm];rfl) n 0 (bK _) (by omega)
 simpa using this
theorem AF{α R:Type}(l:az α)(p:α->aY)(F:aG->aG->aD R)(kt kf:aD R)
  (hT:∀m i (h:i<l.length),p l[i]=ak->F (m+1) i=kt) (hF:∀m i (h:i<l.length),p l[i]=aq->F (m+1) i=F m (i+1)) (hE:∀m,F (m+1) l.length=kf) (n:aG) (hn:l.length<n):F n 0=bif l.any p then kt else kf:=by have h:=oH l (λx=> !p x) F kt kf (λm i h hp=>hF m i h (by simpa using hp)) (λm i h hp=>hT m i h (by simpa using hp)) hE n hn;rw[h,List.any_eq_not_all_not];cases l.all λx=> !p x<;>rfl
theorem getD_map'{α:Type}(f:α->az CV)(l:az α)(i:aG)(h:i<l.length):(l.map f).getD i []=f l[i]:=by simp[jq,h]
theorem e8{α:Type}(f:α->az CV)(l:az α)(i j:aG)(h:i<l.length):aw (l.map f) i j=(f l[i]).getD j (.b aq):=by unfold aw;rw[getD_map' f l i h]
theorem Jk{α:Type}(l:az α)(p:α->aY)(q:aG->aY)(h:∀i (hi:i<l.length),q i=p l[i]):decide (fi q l.length 0≥0)=l.any p:=by
 rcases pR q l.length 0 with ⟨h1,h2⟩|⟨k,_,hk,h3,h4,_⟩
 ·rw[h1];symm;rw[show decide ((-1:aA)≥0)=aq by decide,Aq];intro x hx;obtain⟨i,hi,rfl⟩:=c9 hx;have:=h2 i (bK _) (by omega);rw[h i hi]at this;simp[this]
 ·rw[h3];symm;rw[show decide ((k:aA)≥0)=ak by simp,List.any_eq_true];exact⟨l[k]'(by omega),bD _,by rw[<-h k (by omega)];exact h4⟩
theorem pe(ks:az Ck)(y:az CV):aE (aT ks 1) 0 y=[y]:=rfl
theorem ou{α β:Type}(f:α->β)(l:az α)(i:aG)(h:i<l.length):(l.take i).map f++[f l[i]]=(l.take (i+1)).map f:=by rw[c6 h,dh];rfl
def rs(l:az au):aX:=l.map λk=>[CV.s k]
def ri(l:az aA):aX:=l.map λn=>[CV.i ar n]
def rr(l:az (az aA)):aX:=l.map λq=>[CV.l 3 (ri q)]
structure En where
 k:au
 st:aA
 li:aA
 bo:au
 deriving DecidableEq
def En.row(e:En):az CV:=[CV.s e.k,CV.i ar e.st,CV.i ar e.li,CV.s e.bo]
def re(l:az En):aX:=l.map En.row
structure Fe where
 k:au
 t:au
 sta:aA
 li:aA
 st:aA
 deriving DecidableEq
def Fe.row(e:Fe):az CV:=[CV.s e.k,CV.s e.t,CV.i ar e.sta,CV.i ar e.li,CV.i ar e.st]
def rf(l:az Fe):aX:=l.map Fe.row
structure Cl where
 id:aA
 k:au
 fe:aA
 fr:aA
 sta:aA
 got:au
 age:aA
 deriving DecidableEq
def Cl.row(e:Cl):az CV:=[CV.i ar e.id,CV.s e.k,CV.i ar e.fe,CV.i ar e.fr,CV.i ar e.sta,CV.s e.got,CV.i ar e.age]
def rc(l:az Cl):aX:=l.map Cl.row
structure Fi where
 n:au
 t:au
 kp:aA
 deriving DecidableEq
def Fi.row(e:Fi):az CV:=[CV.s e.n,CV.s e.t,CV.i ar e.kp]
def rd(l:az Fi):aX:=l.map Fi.row
theorem eE(l):(rs l).length=l.length:=by unfold rs;simp
theorem gW(l):(ri l).length=l.length:=by unfold ri;simp
theorem gu(l):(rr l).length=l.length:=by unfold rr;simp
theorem dQ(l):(re l).length=l.length:=by unfold re;simp
theorem dI(l):(rf l).length=l.length:=by unfold rf;simp
theorem eN(l):(rc l).length=l.length:=by unfold rc;simp
theorem gm(l):(rd l).length=l.length:=by unfold rd;simp
theorem TW{l:az au}{i:aG}(h:i<l.length):aw (rs l) i 0=CV.s l[i]:=e8 _ l i 0 h
theorem Oh{l:az aA}{i:aG}(h:i<l.length):aw (ri l) i 0=CV.i ar l[i]:=e8 _ l i 0 h
theorem Iq{l:az (az aA)}{i:aG}(h:i<l.length):aw (rr l) i 0=CV.l 3 (ri l[i]):=e8 _ l i 0 h
theorem rc0{l:az Cl}{i:aG}(h:i<l.length):aw (rc l) i 0=CV.i ar l[i].id:=e8 _ l i 0 h
theorem rc1{l:az Cl}{i:aG}(h:i<l.length):aw (rc l) i 1=CV.s l[i].k:=e8 _ l i 1 h
theorem rc2{l:az Cl}{i:aG}(h:i<l.length):aw (rc l) i (1+1)=CV.i ar l[i].fe:=e8 _ l i 2 h
theorem rc3{l:az Cl}{i:aG}(h:i<l.length):aw (rc l) i (1+1+1)=CV.i ar l[i].fr:=e8 _ l i 3 h
theorem rc4{l:az Cl}{i:aG}(h:i<l.length):aw (rc l) i (1+1+1+1)=CV.i ar l[i].sta:=e8 _ l i 4 h
theorem rc5{l:az Cl}{i:aG}(h:i<l.length):aw (rc l) i (1+1+1+1+1)=CV.s l[i].got:=e8 _ l i 5 h
theorem rc6{l:az Cl}{i:aG}(h:i<l.length):aw (rc l) i (1+1+1+1+1+1)=CV.i ar l[i].age:=e8 _ l i 6 h
theorem J0{l:az Fi}{i:aG}(h:i<l.length):aw (rd l) i 0=CV.s l[i].n:=e8 _ l i 0 h
theorem Zo{l:az Fi}{i:aG}(h:i<l.length):aw (rd l) i 1=CV.s l[i].t:=e8 _ l i 1 h
theorem Zp{l:az Fi}{i:aG}(h:i<l.length):aw (rd l) i (1+1)=CV.i ar l[i].kp:=e8 _ l i 2 h
end Go.FG.Lib
namespace Go.FG.Lib
theorem ly{α:Type}(f:α->az CV)(l:az α)(i j:aG)(ys:az CV)(y:α)(h:i<l.length)(hs:iF (f l[i]) j ys=f y):eh (l.map f) i j ys=(l.set i y).map f:=by unfold eh;rw[getD_map' f l i h,hs,List.map_set]
def nI{α:Type}(l:az α)(g:aG->α->α)(i:aG):az α:=(l.mapIdx g).take i++l.drop i
theorem qt{α:Type}(l:az α)(g:aG->α->α)(i:aG)(h:i<=l.length):(nI l g i).length=l.length:=by unfold nI;simp;omega
theorem wy{α:Type}(l:az α)(g:aG->α->α)(i:aG)(h:i<l.length)(h2:i<(nI l g i).length):(nI l g i)[i]=l[i]:=by
 have e:(nI l g i)[i]? =aj l[i]:=by unfold nI;rw[cZ (by simp;omega)];simp[show min i l.length=i by omega]
 rw[eD h2]at e;exact aF e
theorem sQ{α:Type}(l:az α)(g:aG->α->α)(i:aG)(h:i<l.length):(nI l g i).set i (g i l[i])=nI l g (i+1):=by
 unfold nI;have hl:((l.mapIdx g).take i).length=i:=by simp;omega
 rw[List.set_append_right _ _ (by omega),hl,wU,dG h,List.set_cons_zero,c6 (by simpa using h),cj];simp
theorem BR{α:Type}(l:az α)(g:aG->α->α):nI l g 0=l:=by unfold nI;simp
theorem qs{α:Type}(l:az α)(g:aG->α->α):nI l g l.length=l.mapIdx g:=by unfold nI;rw[dm,di,iJ (by simp)]
theorem oa{α R:Type}(f:α->az CV)(l:az α)(g:aG->α->α)(F:aG->aG->aX->aD R)(K:aX->aD R)
  (hS:∀m i (L:az α) (h:i<l.length) (h2:i<L.length),L.length=l.length->L[i]=l[i]->F (m+1) i (L.map f)=F m (i+1) ((L.set i (g i l[i])).map f))
  (hE:∀m (L:az α),L.length=l.length->F (m+1) l.length (L.map f)=K (L.map f)) (n:aG) (hn:l.length<n):F n 0 (l.map f)=K ((l.mapIdx g).map f):=by
 have:=mn l.length F (λi=>(nI l g i).map f) (K ((l.mapIdx g).map f)) (λm i h=>by
  have h1:=qt l g i (by omega);rw[hS m i (nI l g i) h (by omega) h1 (wy l g i h (by omega)),sQ l g i h]) (λm=>by
  rw[hE m _ (qt l g _ (cu _)),qs]) n 0 (bK _) (by omega)
 rw[show l.map f=(nI l g 0).map f by rw[BR]];exact this
end Go.FG.Lib

namespace Go.FG.Lib
instance:Inhabited En:=⟨⟨⟨#[]⟩,0,0,⟨#[]⟩⟩⟩
instance:Inhabited Fe:=⟨⟨⟨#[]⟩,⟨#[]⟩,0,0,0⟩⟩
instance:Inhabited Cl:=⟨⟨0,⟨#[]⟩,0,0,0,⟨#[]⟩,0⟩⟩
instance:Inhabited Fi:=⟨⟨⟨#[]⟩,⟨#[]⟩,0⟩⟩
def el{α:Type}[Inhabited α](l:az α)(i:aG):α:=l.getD i default
theorem eQ{α:Type}[Inhabited α]{l:az α}{i:aG}(h:i<l.length):el l i=l[i]:=by unfold el;simp[jq,h]
theorem oK{α:Type}[Inhabited α]{l:az α}{i:aG}(h:i<l.length):el l i∈l:=by rw[eQ h];exact bD h
theorem gL{α:Type}[Inhabited α](f:α->az CV)(l:az α)(i j:aG)(h:i<l.length):aw (l.map f) i j=(f (el l i)).getD j (.b aq):=by rw[e8 f l i j h,eQ h]
theorem qz{l:az En}{i:aG}(h:i<l.length):aw (re l) i 0=CV.s (el l i).k:=gL _ l i 0 h
theorem tY{l:az En}{i:aG}(h:i<l.length):aw (re l) i 1=CV.i ar (el l i).st:=gL _ l i 1 h
theorem tZ{l:az En}{i:aG}(h:i<l.length):aw (re l) i (1+1)=CV.i ar (el l i).li:=gL _ l i 2 h
theorem t_{l:az En}{i:aG}(h:i<l.length):aw (re l) i (1+1+1)=CV.s (el l i).bo:=gL _ l i 3 h
theorem Ib{l:az Fe}{i:aG}(h:i<l.length):aw (rf l) i 0=CV.s (el l i).k:=gL _ l i 0 h
theorem Ge{l:az Fe}{i:aG}(h:i<l.length):aw (rf l) i 1=CV.s (el l i).t:=gL _ l i 1 h
theorem W4{l:az Fe}{i:aG}(h:i<l.length):aw (rf l) i (1+1)=CV.i ar (el l i).sta:=gL _ l i 2 h
theorem yD{l:az Fe}{i:aG}(h:i<l.length):aw (rf l) i 2=CV.i ar (el l i).sta:=gL _ l i 2 h
theorem TX{l:az Fe}{i:aG}(h:i<l.length):aw (rf l) i (1+1+1)=CV.i ar (el l i).li:=gL _ l i 3 h
theorem TY{l:az Fe}{i:aG}(h:i<l.length):aw (rf l) i (1+1+1+1)=CV.i ar (el l i).st:=gL _ l i 4 h
theorem Ko{l:az Cl}{i:aG}(h:i<l.length):aw (rc l) i 0=CV.i ar (el l i).id:=gL _ l i 0 h
theorem Th{l:az Cl}{i:aG}(h:i<l.length):aw (rc l) i 1=CV.s (el l i).k:=gL _ l i 1 h
theorem Ti{l:az Cl}{i:aG}(h:i<l.length):aw (rc l) i (1+1)=CV.i ar (el l i).fe:=gL _ l i 2 h
theorem Tj{l:az Cl}{i:aG}(h:i<l.length):aw (rc l) i (1+1+1)=CV.i ar (el l i).fr:=gL _ l i 3 h
theorem Tk{l:az Cl}{i:aG}(h:i<l.length):aw (rc l) i (1+1+1+1)=CV.i ar (el l i).sta:=gL _ l i 4 h
theorem Tl{l:az Cl}{i:aG}(h:i<l.length):aw (rc l) i (1+1+1+1+1)=CV.s (el l i).got:=gL _ l i 5 h
theorem Tm{l:az Cl}{i:aG}(h:i<l.length):aw (rc l) i (1+1+1+1+1+1)=CV.i ar (el l i).age:=gL _ l i 6 h
theorem wd0{l:az Fi}{i:aG}(h:i<l.length):aw (rd l) i 0=CV.s (el l i).n:=gL _ l i 0 h
theorem wd1{l:az Fi}{i:aG}(h:i<l.length):aw (rd l) i 1=CV.s (el l i).t:=gL _ l i 1 h
theorem wd2{l:az Fi}{i:aG}(h:i<l.length):aw (rd l) i (1+1)=CV.i ar (el l i).kp:=gL _ l i 2 h
structure Px where
 now:aA
 en:az En
 w:az au
 m:az au
 s:az (az aA)
 a:aA
 fe:az Fe
 cl:az Cl
 hits:aA
structure Px.Fit (p:Px) (n:aG):Prop where
 en:p.en.length<=n
 w:p.w.length<=n
 m:p.m.length<=n
 s:p.s.length<=n/\(∀q∈p.s,q.length<=n)/\(p.s.map bW).sum<=n
 fe:p.fe.length<=n
 cl:p.cl.length<=n
theorem Px.Fit.le{p:Px}{n m:aG}(h:p.Fit n)(hm:n<=m):p.Fit m:=⟨c_ h.en hm,c_ h.w hm,c_ h.m hm,⟨c_ h.s.1 hm,λq hq=>c_ (h.s.2.1 q hq) hm,c_ h.s.2.2 hm⟩,c_ h.fe hm,c_ h.cl hm⟩
theorem lx{i:aG}(h:0<i)(h2:i<=9223372036854775807):bM ((i:aA)-1)=((i-1:aG):aA):=by rw[dc (by omega) (by omega)];omega
theorem EG{n:aG}(f g:aG->aY):((cM n).all λi=>f i&&g i)=((cM n).all f&&(cM n).all g):=by
 induction n with
 |zero=>rfl
 |succ n ih=>simp only[TG,Ap,r_,List.all_nil,ph,ih];cases (cM n).all f<;>cases (cM n).all g<;>cases f n<;>cases g n<;>rfl
end Go.FG.Lib

namespace Go.FG
namespace Lib
def ap{α β:Type}(f:α->β)(x:α):β:=f x
theorem bq{α R:Type}{o:aD α}{d:α}{g:aD R}{k:α->aD R}(hc:mU o=ak)(h:g=lQ o k):g=ap k (XQ o d):=by rw[h,some_ hc (d:=d)];rfl
theorem B1{α β γ:Type}(a:α)(f:α->aD β)(g:β->aD γ):lQ (lt a f) g=lt a (λx=>lQ (f x) g):=rfl
theorem B2{α β:Type}(c:aY)(x y:aD α)(f:α->aD β):lQ (bif c then x else y) f=bif c then lQ x f else lQ y f:=MQ c x y f
end Lib
end Go.FG

namespace Go.FG.Lib
theorem Lk{α R:Type}(l:az α)(p:α->aY)(F0:aG->aG->aD R)(F1:aG->aG->az α->aD R)(res:az α->aD R)
  (a1:∀m i (h:i<l.length),p l[i]=ak->F0 (m+1) i=F1 m (i+1) [l[i]]) (a2:∀m i (h:i<l.length),p l[i]=aq->F0 (m+1) i=F0 m (i+1)) (a3:∀m,F0 (m+1) l.length=res [])
  (b1:∀m i acc (h:i<l.length),acc.length<=i->p l[i]=ak->F1 (m+1) i acc=F1 m (i+1) (acc++[l[i]])) (b2:∀m i acc (h:i<l.length),p l[i]=aq->F1 (m+1) i acc=F1 m (i+1) acc) (b3:∀m acc,F1 (m+1) l.length acc=res acc)
  (n:aG) (hn:l.length<n):F0 n 0=res (l.filter p):=by
 have k1:∀d i acc m,l.length-i<=d->i<=l.length->acc.length<=i->d<m->F1 m i acc=res (acc++(l.drop i).filter p):=by
  intro d;induction d with
  |zero=>
   intro i acc m h1 h2 h3 h4;obtain⟨m,rfl⟩:∃m',m=m'+1:=⟨m-1,by omega⟩
   have:i=l.length:=by omega
   subst this;rw[b3,dm];simp
  |succ d ih=>
   intro i acc m h1 h2 h3 h4;obtain⟨m,rfl⟩:∃m',m=m'+1:=⟨m-1,by omega⟩
   by_cases hi:i<l.length
   ·rw[dG hi];cases hp:p l[i]with
    |true=>rw[b1 m i acc hi h3 hp,ih (i+1) _ m (by omega) hi (by simp;omega) (by omega),dt hp];simp
    |false=>rw[b2 m i acc hi hp,ih (i+1) _ m (by omega) hi (by omega) (by omega),cm (by simp[hp])]
   ·have:i=l.length:=by omega
    subst this;rw[b3,dm];simp
 have k0:∀d i m,l.length-i<=d->i<=l.length->d<m->F0 m i=res ((l.drop i).filter p):=by
  intro d;induction d with
  |zero=>
   intro i m h1 h2 h4;obtain⟨m,rfl⟩:∃m',m=m'+1:=⟨m-1,by omega⟩
   have:i=l.length:=by omega
   subst this;rw[a3,dm];rfl
  |succ d ih=>
   intro i m h1 h2 h4;obtain⟨m,rfl⟩:∃m',m=m'+1:=⟨m-1,by omega⟩
   by_cases hi:i<l.length
   ·rw[dG hi];cases hp:p l[i]with
    |true=>rw[a1 m i hi hp,k1 d (i+1) _ m (by omega) hi (by simp) (by omega),dt hp];simp
    |false=>rw[a2 m i hi hp,ih (i+1) m (by omega) hi (by omega),cm (by simp[hp])]
   ·have:i=l.length:=by omega
    subst this;rw[a3,dm];rfl
 have:=k0 l.length 0 n (by omega) (bK _) hn;rwa[fm]at this
theorem Dk{α R:Type}(l:az α)(p:α->aY)(F1:aG->aG->az α->aD R)(res:az α->aD R)(c0:az α)
  (b1:∀m i acc (h:i<l.length),acc.length<=c0.length+i->p l[i]=ak->F1 (m+1) i acc=F1 m (i+1) (acc++[l[i]])) (b2:∀m i acc (h:i<l.length),p l[i]=aq->F1 (m+1) i acc=F1 m (i+1) acc) (b3:∀m acc,F1 (m+1) l.length acc=res acc)
  (n:aG) (hn:l.length<n):F1 n 0 c0=res (c0++l.filter p):=by
 have k1:∀d i acc m,l.length-i<=d->i<=l.length->acc.length<=c0.length+i->d<m->F1 m i acc=res (acc++(l.drop i).filter p):=by
  intro d;induction d with
  |zero=>
   intro i acc m h1 h2 h3 h4;obtain⟨m,rfl⟩:∃m',m=m'+1:=⟨m-1,by omega⟩
   have:i=l.length:=by omega
   subst this;rw[b3,dm];simp
  |succ d ih=>
   intro i acc m h1 h2 h3 h4;obtain⟨m,rfl⟩:∃m',m=m'+1:=⟨m-1,by omega⟩
   by_cases hi:i<l.length
   ·rw[dG hi];cases hp:p l[i]with
    |true=>rw[b1 m i acc hi h3 hp,ih (i+1) _ m (by omega) hi (by simp;omega) (by omega),dt hp];simp
    |false=>rw[b2 m i acc hi hp,ih (i+1) _ m (by omega) hi (by omega) (by omega),cm (by simp[hp])]
   ·have:i=l.length:=by omega
    subst this;rw[b3,dm];simp
 have:=k1 l.length 0 c0 n (by omega) (bK _) (by omega) hn;rwa[fm]at this
theorem BQ{α:Type}(p q:α->aY):∀r:az α,(∀y∈r,q y= !p y)->r.Pairwise (λy z=>p z=ak->p y=ak)->r.takeWhile p=r.filter p/\r.dropWhile p=r.filter q
 |[],_,_=>⟨rfl,rfl⟩
 |y::r,hq,h=>by
  rw[qb]at h;have hy:=hq y (by simp);cases hp:p y with
  |true=>rw[hp]at hy;obtain⟨i1,i2⟩:=BQ p q r (λz hz=>hq z (by simp[hz])) h.2;rw[pL hp,dt hp,List.dropWhile_cons_of_pos hp,cm (by rw[hy];simp),i1,i2];exact⟨rfl,rfl⟩
  |false=>
   rw[hp]at hy;have hn:¬p y=true:=by rw[hp];simp
   have ha:∀z∈r,p z=false:=λz hz=>by
    cases CG:p z with
    |false=>rfl
    |true=>exact cq (h.1 z hz CG) hn
   rw[pK hn,cm hn,List.dropWhile_cons_of_neg hn,dt (by rw[hy];rfl)];refine⟨?_, ?_⟩
   ·symm;rw[IC];intro z hz;rw[ha z hz];simp
   ·congr 1;symm;rw[eI];intro z hz;rw[hq z (by simp[hz]),ha z hz];rfl
end Go.FG.Lib

