/- Plain facts on numbers, texts and lists. No condition. -/
import Derived.Test.YtilcgpcemjeaeaaGreatCorec
set_option linter.unusedVariables false
set_option linter.unusedSimpArgs false
set_option maxRecDepth 100000
open Bool renaming false->ak,true->ai,true_and->bc,and_eq_true->aL,and_true->js
open Go.IntKind renaming i64->ao
open List renaming getD->jR,beq->bZ,takeWhile_cons_of_pos->qi,takeWhile_cons_of_neg->qh,length_cons->dc,length_nil->jS,length->bT,takeWhile_append_dropWhile->nz,length_append->bP,filter_cons_of_pos->dD,filter_cons_of_neg->cD,drop_length->dm,range->b9,range'->mo,all_cons->s7,range_eq_range'->R2,range_succ->Wh,all_append->BS,drop_eq_getElem_cons->dF,getElem_of_mem->c7,any_eq_true->FR,getElem_mem->bC,set->aD,take_succ_eq_append_getElem->cw,map_append->dj,getElem?_append_right->db,getElem?_eq_getElem->eW,append_assoc->cB,append_nil->dp,take_of_length_le->je,drop_zero->fa,pairwise_cons->qD,filter_eq_self->eK
open Nat renaming zero_le->bI,sub_zero->si,le_trans->di,blt->qB,beq->bD,le_refl->cG
open Option renaming some->ah,isSome->nI
open Option.some renaming inj->aJ
open _root_ renaming Nat->aF,Option->az,Int->aw,List->aA,ByteArray->aq,Bool->aX,congrArg->lN,cond_true->au,cond_false->ax,absurd->cK
namespace Go.FG.Lib
theorem uF{σ β:Type}(F:aF->σ->az β)(mu:σ->aF)(inv:σ->Prop)(post:β->Prop)
  (step:∀n s,inv s->(∃b,F (n+1) s=ah b/\post b)\/∃s',inv s'/\mu s'<mu s/\F (n+1) s=F n s'):∀n s,inv s->mu s<n->∃b,F n s=ah b/\post b:=by
 intro n;induction n with
 |zero=>intro s _ h;omega
 |succ n ih=>
  intro s hi hm;rcases step n s hi with h|⟨s',h1,h2,h4⟩
  ·exact h
  ·rw[h4];exact ih s' h1 (by omega)
theorem cJ{n:aF}(h:n<=9223372036854775807):n<cW:=by unfold cW;omega
theorem dg{x:aw}(h1: -9223372036854775808<=x)(h2:x<=9223372036854775807):bJ x=x:=iI h1 h2
theorem aw7{x:aw}(h0: -9223372036854775808<=x:=by omega)(h1:x<=9223372036854775807:=by omega):bJ x=x:=dg h0 h1
theorem v8(A:aQ)(y:aA CV)(B:aQ)(i j:aF)(h:A.length=i):ar (A++y::B) i j=y.getD j (.b ak):=by
 subst h;unfold ar;have:(A++y::B).getD A.length []=y:=by simp[jR]
 rw[this]
theorem jV(a:aq):bZ a.toList a.toList=true:=qJ _
theorem C8(x:CV):(bytesOf [[x]]).size=1:=by rw[iU];rfl
theorem ad6(p:aA CV->aX):∀(r:aQ) (i:aF),i<(r.takeWhile p).length->∃h:i<r.length,p r[i]=ai
 |[],i,h=>by simp at h
 |y::r,i,h=>by
  by_cases hp:p y=ai
  ·rw[qi hp]at h;cases i with
   |zero=>exact⟨by simp,hp⟩
   |succ i=>obtain⟨h1,h2⟩:=ad6 p r i (by simpa using h);exact⟨by simpa using h1,by simpa using h2⟩
  ·rw[qh hp]at h;simp at h
theorem ad5(p:aA CV->aX):∀(r:aQ) (h:(r.takeWhile p).length<r.length),p r[(r.takeWhile p).length]=ak
 |[],h=>by simp at h
 |y::r,h=>by
  by_cases hp:p y=ai
  ·have e:=qi (l:=r) hp;have h':(r.takeWhile p).length<r.length:=by rw[e]at h;simpa using h
   have:=ad5 p r h';simp only[e,dc,List.getElem_cons_succ];exact this
  ·have e:=qh (l:=r) hp;simp only[e,jS,List.getElem_cons_zero];simpa using hp
theorem Fv(p:aA CV->aX)(r:aQ):(r.takeWhile p).length<=r.length:=by have:=lN bT (nz (p:=p) (l:=r));rw[bP]at this;omega
theorem yv(p:aA CV->aX)(r:aQ):r.take (r.takeWhile p).length=r.takeWhile p:=by have e:=nz (p:=p) (l:=r);have:=List.take_left (l₁:=r.takeWhile p) (l₂:=r.dropWhile p);rw[e]at this;exact this
theorem w7(p:aA CV->aX)(r:aQ):r.drop (r.takeWhile p).length=r.dropWhile p:=by have e:=nz (p:=p) (l:=r);have:=List.drop_left (l₁:=r.takeWhile p) (l₂:=r.dropWhile p);rw[e]at this;exact this
theorem tY{R:Type}(p:aA CV->aX)(r:aQ)(F:aF->aF->az R)(K:aF->az R)
  (hT:∀m i (h:i<r.length),p r[i]=ai->F (m+1) i=F m (i+1)) (hF:∀m i (h:i<r.length),p r[i]=ak->F (m+1) i=K i) (hE:∀m,F (m+1) r.length=K r.length)
  (n:aF) (hn:r.length<n):F n 0=K (r.takeWhile p).length:=by
 refine g8 F (λi=>r.length-i) (λi=>i<=(r.takeWhile p).length) (λ_=>K (r.takeWhile p).length) (λm i hi=> ?_) n 0 (bI _) (by omega);have hl:=Fv p r;by_cases h:i<(r.takeWhile p).length
 ·obtain⟨h1,h2⟩:=ad6 p r i h;exact .inr ⟨i+1,h,by omega,rfl,hT m i h1 h2⟩
 ·left;have mc:i=(r.takeWhile p).length:=by omega
  subst mc;by_cases h2:(r.takeWhile p).length<r.length
  ·exact hF m _ h2 (ad5 p r h2)
  ·have h3:(r.takeWhile p).length=r.length:=by omega
   rw[h3];exact hE m
theorem xD{R:Type}(p:aA CV->aX)(f:aA CV->aA CV)(r:aQ)(m0:aF)(F:aF->aF->aQ->az R)(K:aQ->az R)
  (hT:∀m i acc (h:i<r.length),acc.length<=m0+i->p r[i]=ai->F (m+1) i acc=F m (i+1) (acc++[f r[i]])) (hF:∀m i acc (h:i<r.length),acc.length<=m0+i->p r[i]=ak->F (m+1) i acc=F m (i+1) acc)
  (hE:∀m acc,F (m+1) r.length acc=K acc) (n:aF) (acc:aQ) (ha:acc.length<=m0) (hn:r.length<n):F n 0 acc=K (acc++(r.filter p).map f):=by
 have:=g8 (λn (s:aF×aQ)=>F n s.1 s.2) (λs=>r.length-s.1) (λs=>s.1<=r.length/\s.2.length<=m0+s.1) (λs=>K (s.2++((r.drop s.1).filter p).map f)) (λm s hs=>by
  obtain⟨i,acc⟩:=s;obtain⟨h1,h2⟩:=hs;dsimp only at h1 h2⊢;by_cases h:i<r.length
  ·right;rw[eL h];cases hp:p r[i]with
   |true=>exact⟨(i+1,acc++[f r[i]]),⟨h,by simp;omega⟩,by dsimp only;omega,by rw[dD hp];simp,hT m i acc h h2 hp⟩
   |false=>exact⟨(i+1,acc),⟨h,by dsimp only;omega⟩,by dsimp only;omega,by rw[cD (by simp[hp])],hF m i acc h h2 hp⟩
  ·left;have hi:i=r.length:=by omega
   subst hi;rw[dm];simpa using hE m acc) n (0,acc) ⟨bI _,by dsimp only;omega⟩ (by dsimp only;omega)
 simpa using this
theorem iC{R:Type}(g:aF->aX)(len:aF)(F:aF->aF->az R)(kf kt:az R)(hT:∀m i,i<len->g i=ai->F (m+1) i=F m (i+1))(hF:∀m i,i<len->g i=ak->F (m+1) i=kf)(hE:∀m,F (m+1) len=kt)(n:aF)(hn:len<n):F n 0=bif(b9 len).all g then kt else kf:=by
 have:=g8 F (λi=>len-i) (λi=>i<=len) (λi=>bif(mo i (len-i)).all g then kt else kf) (λm i hi=>by
  by_cases h:i<len
  ·have e:(mo i (len-i)).all g=(g i&&(mo (i+1) (len-(i+1))).all g):=by rw[show len-i=(len-(i+1))+1 by omega,List.range'_succ,s7]
   cases hp:g i with
   |true=>right;exact⟨i+1,h,by omega,by rw[e,hp,bc],hT m i h hp⟩
   |false=>left;rw[e,hp,hF m i h hp];rfl
  ·left;have:i=len:=by omega
   subst this;rw[hE,Nat.sub_self];rfl) n 0 (bI _) (by omega)
 rw[this,si,<-R2]
theorem mW{R:Type}(p:aF->aX)(len:aF)(F:aF->aF->az R)(kr:aw->az R)(h1:∀m i,i<len->p i=ai->F (m+1) i=kr i)(h2:∀m i,i<len->p i=ak->F (m+1) i=F m (i+1))(h3:∀m,F (m+1) len=kr (-1))(n:aF)(hn:len<n):F n 0=kr (fi p len 0):=by
 have:=g8 F (λi=>len-i) (λi=>i<=len) (λi=>kr (fi p (len-i) i)) (λm i hi=>by
  by_cases h:i<len
  ·have e:len-i=(len-(i+1))+1:=by omega
   cases hp:p i with
   |true=>left;rw[h1 m i h hp,e];simp[fi,hp]
   |false=>right;exact⟨i+1,h,by omega,by rw[e];simp[fi,hp],h2 m i h hp⟩
  ·left;have:i=len:=by omega
   subst this;rw[h3,Nat.sub_self];rfl) n 0 (by omega) (by omega)
 simpa using this
theorem all_congr{g h:aF->aX}{n:aF}(e:∀i,i<n->g i=h i):(b9 n).all g=(b9 n).all h:=by
 induction n with
 |zero=>rfl
 |succ n ih=>rw[Wh,BS,BS,ih (λi hi=>e i (by omega))];simp[e n (by omega)]
theorem IY{T:Tab}(hT:∀e ti,T.ty e=ah ti->0<ti.bytes):∀y,ru T y->Fit y
 |_, .i k n _=>Fit.i k n
 |_, .b x=>Fit.b x
 |_, .s x h=>Fit.s x (di h (by omega))
 |_, .l e xs ti h h1 h2 h3=>by
  have hp:=hT e ti h;have hle:xs.length*1<=xs.length*ti.bytes:=Nat.mul_le_mul_left _ hp;exact Fit.l e xs (by omega) (λy hy x hx=>IY hT x (h3 y hy x hx))
theorem UI:∀{rows:aA pT},rows.all (λr=>qB 0 r.ti.bytes)=ai->∀e ti,A2 rows e=ah ti->0<ti.bytes
 |[],_,_,_,h=>by cases h
 |r::rs,h,e,ti,h2=>by
  rw[s7,aL]at h;unfold A2 at h2;cases hb:bD e r.t with
  |true=>rw[hb,au]at h2;obtain rfl:=aJ h2;have h1:=h.1;simp[qB]at h1;omega
  |false=>rw[hb,ax]at h2;exact UI h.2 e ti h2
theorem aa2{rows:aA pT}{T:Tab}(hT:T.ty=A2 rows)(h:rows.all (λr=>qB 0 r.ti.bytes)=ai){e:aF}{xs:aQ}(hf:ru T (.l e xs)):vJ xs:=by
 cases IY (λe ti he=>UI h e ti (by rw[<-hT];exact he)) _ hf with
 |l _ _ h1 h2=>exact⟨h1,h2⟩
end Go.FG.Lib

namespace Go.FG.Lib
theorem mb{σ R:Type}(len:aF)(F:aF->aF->σ->az R)(st:aF->σ)(res:az R)
  (hS:∀m i,i<len->F (m+1) i (st i)=F m (i+1) (st (i+1))) (hE:∀m,F (m+1) len (st len)=res) (n i0:aF) (h0:i0<=len) (hn:len-i0<n):F n i0 (st i0)=res:=by
 refine g8 (λn i=>F n i (st i)) (λi=>len-i) (λi=>i<=len) (λ_=>res) (λm i hi=> ?_) n i0 h0 hn;by_cases h:i<len
 ·exact .inr ⟨i+1,h,by omega,rfl,hS m i h⟩
 ·left;have:i=len:=by omega
  subst this;exact hE m
theorem pf{α R:Type}(l:aA α)(p:α->aX)(F:aF->aF->az R)(kf kt:az R)
  (hT:∀m i (h:i<l.length),p l[i]=ai->F (m+1) i=F m (i+1)) (hF:∀m i (h:i<l.length),p l[i]=ak->F (m+1) i=kf) (hE:∀m,F (m+1) l.length=kt) (n:aF) (hn:l.length<n):F n 0=bif l.all p then kt else kf:=by
 have:=g8 F (λi=>l.length-i) (λi=>i<=l.length) (λi=>bif(l.drop i).all p then kt else kf) (λm i hi=>by
  by_cases h:i<l.length
  ·have e:(l.drop i).all p=(p l[i]&&(l.drop (i+1)).all p):=by rw[dF h,s7]
   cases hp:p l[i]with
   |true=>right;exact⟨i+1,h,by omega,by rw[e,hp,bc],hT m i h hp⟩
   |false=>left;rw[e,hp,hF m i h hp];rfl
  ·left;have:i=l.length:=by omega
   subst this;rw[hE,dm];rfl) n 0 (bI _) (by omega)
 simpa using this
theorem B2{α R:Type}(l:aA α)(p:α->aX)(F:aF->aF->az R)(kt kf:az R)
  (hT:∀m i (h:i<l.length),p l[i]=ai->F (m+1) i=kt) (hF:∀m i (h:i<l.length),p l[i]=ak->F (m+1) i=F m (i+1)) (hE:∀m,F (m+1) l.length=kf) (n:aF) (hn:l.length<n):F n 0=bif l.any p then kt else kf:=by have h:=pf l (λx=> !p x) F kt kf (λm i h hp=>hF m i h (by simpa using hp)) (λm i h hp=>hT m i h (by simpa using hp)) hE n hn;rw[h,List.any_eq_not_all_not];cases l.all λx=> !p x<;>rfl
theorem getD_map'{α:Type}(f:α->aA CV)(l:aA α)(i:aF)(h:i<l.length):(l.map f).getD i []=f l[i]:=by simp[jR,h]
theorem eZ{α:Type}(f:α->aA CV)(l:aA α)(i j:aF)(h:i<l.length):ar (l.map f) i j=(f l[i]).getD j (.b ak):=by unfold ar;rw[getD_map' f l i h]
theorem Cm{α:Type}(l:aA α)(p:α->aX)(q:aF->aX)(h:∀i (hi:i<l.length),q i=p l[i]):decide (fi q l.length 0≥0)=l.any p:=by
 rcases pr q l.length 0 with ⟨h1,h2⟩|⟨k,_,hk,h3,h4,_⟩
 ·rw[h1];symm;rw[show decide ((-1:aw)≥0)=ak by decide,List.any_eq_false];intro x hx;obtain⟨i,hi,rfl⟩:=c7 hx;have:=h2 i (bI _) (by omega);rw[h i hi]at this;simp[this]
 ·rw[h3];symm;rw[show decide ((k:aw)≥0)=ai by simp,FR];exact⟨l[k]'(by omega),bC _,by rw[<-h k (by omega)];exact h4⟩
theorem pO(ks:aA Ck)(y:aA CV):aD (aP ks 1) 0 y=[y]:=rfl
theorem oY{α β:Type}(f:α->β)(l:aA α)(i:aF)(h:i<l.length):(l.take i).map f++[f l[i]]=(l.take (i+1)).map f:=by rw[cw h,dj];rfl
def rs(l:aA aq):aQ:=l.map λk=>[CV.s k]
def ri(l:aA aw):aQ:=l.map λn=>[CV.i ao n]
def rr(l:aA (aA aw)):aQ:=l.map λq=>[CV.l 3 (ri q)]
structure En where
 k:aq
 st:aw
 li:aw
 bo:aq
 deriving DecidableEq
def En.row(e:En):aA CV:=[CV.s e.k,CV.i ao e.st,CV.i ao e.li,CV.s e.bo]
def re(l:aA En):aQ:=l.map En.row
structure Fe where
 k:aq
 t:aq
 sta:aw
 li:aw
 st:aw
 deriving DecidableEq
def Fe.row(e:Fe):aA CV:=[CV.s e.k,CV.s e.t,CV.i ao e.sta,CV.i ao e.li,CV.i ao e.st]
def rf(l:aA Fe):aQ:=l.map Fe.row
structure Cl where
 id:aw
 k:aq
 fe:aw
 fr:aw
 sta:aw
 mM:aq
 age:aw
 deriving DecidableEq
def Cl.row(e:Cl):aA CV:=[CV.i ao e.id,CV.s e.k,CV.i ao e.fe,CV.i ao e.fr,CV.i ao e.sta,CV.s e.mM,CV.i ao e.age]
def rc(l:aA Cl):aQ:=l.map Cl.row
structure Fi where
 n:aq
 t:aq
 kp:aw
 deriving DecidableEq
def Fi.row(e:Fi):aA CV:=[CV.s e.n,CV.s e.t,CV.i ao e.kp]
def rd(l:aA Fi):aQ:=l.map Fi.row
theorem e6(l):(rs l).length=l.length:=by unfold rs;simp
theorem gW(l):(ri l).length=l.length:=by unfold ri;simp
theorem gX(l):(rr l).length=l.length:=by unfold rr;simp
theorem de(l):(re l).length=l.length:=by unfold re;simp
theorem dN(l):(rf l).length=l.length:=by unfold rf;simp
theorem fg(l):(rc l).length=l.length:=by unfold rc;simp
theorem eB(l):(rd l).length=l.length:=by unfold rd;simp
theorem WC{l:aA aq}{i:aF}(h:i<l.length):ar (rs l) i 0=CV.s l[i]:=eZ _ l i 0 h
theorem QG{l:aA aw}{i:aF}(h:i<l.length):ar (ri l) i 0=CV.i ao l[i]:=eZ _ l i 0 h
theorem J9{l:aA (aA aw)}{i:aF}(h:i<l.length):ar (rr l) i 0=CV.l 3 (ri l[i]):=eZ _ l i 0 h
theorem re0{l:aA En}{i:aF}(h:i<l.length):ar (re l) i 0=CV.s l[i].k:=eZ _ l i 0 h
theorem re1{l:aA En}{i:aF}(h:i<l.length):ar (re l) i 1=CV.i ao l[i].st:=eZ _ l i 1 h
theorem re2{l:aA En}{i:aF}(h:i<l.length):ar (re l) i (1+1)=CV.i ao l[i].li:=eZ _ l i 2 h
theorem re3{l:aA En}{i:aF}(h:i<l.length):ar (re l) i (1+1+1)=CV.s l[i].bo:=eZ _ l i 3 h
theorem rc0{l:aA Cl}{i:aF}(h:i<l.length):ar (rc l) i 0=CV.i ao l[i].id:=eZ _ l i 0 h
theorem rc1{l:aA Cl}{i:aF}(h:i<l.length):ar (rc l) i 1=CV.s l[i].k:=eZ _ l i 1 h
theorem rc2{l:aA Cl}{i:aF}(h:i<l.length):ar (rc l) i (1+1)=CV.i ao l[i].fe:=eZ _ l i 2 h
theorem rc3{l:aA Cl}{i:aF}(h:i<l.length):ar (rc l) i (1+1+1)=CV.i ao l[i].fr:=eZ _ l i 3 h
theorem rc4{l:aA Cl}{i:aF}(h:i<l.length):ar (rc l) i (1+1+1+1)=CV.i ao l[i].sta:=eZ _ l i 4 h
theorem rc5{l:aA Cl}{i:aF}(h:i<l.length):ar (rc l) i (1+1+1+1+1)=CV.s l[i].mM:=eZ _ l i 5 h
theorem rc6{l:aA Cl}{i:aF}(h:i<l.length):ar (rc l) i (1+1+1+1+1+1)=CV.i ao l[i].age:=eZ _ l i 6 h
theorem JI{l:aA Fi}{i:aF}(h:i<l.length):ar (rd l) i 0=CV.s l[i].n:=eZ _ l i 0 h
theorem WA{l:aA Fi}{i:aF}(h:i<l.length):ar (rd l) i 1=CV.s l[i].t:=eZ _ l i 1 h
theorem WB{l:aA Fi}{i:aF}(h:i<l.length):ar (rd l) i (1+1)=CV.i ao l[i].kp:=eZ _ l i 2 h
end Go.FG.Lib
namespace Go.FG.Lib
theorem kS{α:Type}(f:α->aA CV)(l:aA α)(i j:aF)(ys:aA CV)(y:α)(h:i<l.length)(hs:iH (f l[i]) j ys=f y):eJ (l.map f) i j ys=(l.set i y).map f:=by unfold eJ;rw[getD_map' f l i h,hs,List.map_set]
def oq{α:Type}(l:aA α)(g:aF->α->α)(i:aF):aA α:=(l.mapIdx g).take i++l.drop i
theorem qU{α:Type}(l:aA α)(g:aF->α->α)(i:aF)(h:i<=l.length):(oq l g i).length=l.length:=by unfold oq;simp;omega
theorem yw{α:Type}(l:aA α)(g:aF->α->α)(i:aF)(h:i<l.length)(h2:i<(oq l g i).length):(oq l g i)[i]=l[i]:=by
 have e:(oq l g i)[i]? =ah l[i]:=by unfold oq;rw[db (by simp;omega)];simp[show min i l.length=i by omega]
 rw[eW h2]at e;exact aJ e
theorem ua{α:Type}(l:aA α)(g:aF->α->α)(i:aF)(h:i<l.length):(oq l g i).set i (g i l[i])=oq l g (i+1):=by
 unfold oq;have hl:((l.mapIdx g).take i).length=i:=by simp;omega
 rw[List.set_append_right _ _ (by omega),hl,Nat.sub_self,dF h,List.set_cons_zero,cw (by simpa using h),cB];simp
theorem Dg{α:Type}(l:aA α)(g:aF->α->α):oq l g 0=l:=by unfold oq;simp
theorem qT{α:Type}(l:aA α)(g:aF->α->α):oq l g l.length=l.mapIdx g:=by unfold oq;rw[dm,dp,je (by simp)]
theorem nN{α R:Type}(f:α->aA CV)(l:aA α)(g:aF->α->α)(F:aF->aF->aQ->az R)(K:aQ->az R)
  (hS:∀m i (L:aA α) (h:i<l.length) (h2:i<L.length),L.length=l.length->L[i]=l[i]->F (m+1) i (L.map f)=F m (i+1) ((L.set i (g i l[i])).map f))
  (hE:∀m (L:aA α),L.length=l.length->F (m+1) l.length (L.map f)=K (L.map f)) (n:aF) (hn:l.length<n):F n 0 (l.map f)=K ((l.mapIdx g).map f):=by
 have:=mb l.length F (λi=>(oq l g i).map f) (K ((l.mapIdx g).map f)) (λm i h=>by
  have h1:=qU l g i (by omega);rw[hS m i (oq l g i) h (by omega) h1 (yw l g i h (by omega)),ua l g i h]) (λm=>by
  rw[hE m _ (qU l g _ (cG _)),qT]) n 0 (bI _) (by omega)
 rw[show l.map f=(oq l g 0).map f by rw[Dg]];exact this
end Go.FG.Lib

namespace Go.FG.Lib
instance:Inhabited En:=⟨⟨⟨#[]⟩,0,0,⟨#[]⟩⟩⟩
instance:Inhabited Fe:=⟨⟨⟨#[]⟩,⟨#[]⟩,0,0,0⟩⟩
instance:Inhabited Cl:=⟨⟨0,⟨#[]⟩,0,0,0,⟨#[]⟩,0⟩⟩
instance:Inhabited Fi:=⟨⟨⟨#[]⟩,⟨#[]⟩,0⟩⟩
def el{α:Type}[Inhabited α](l:aA α)(i:aF):α:=l.getD i default
theorem eN{α:Type}[Inhabited α]{l:aA α}{i:aF}(h:i<l.length):el l i=l[i]:=by unfold el;simp[jR,h]
theorem kq{α:Type}[Inhabited α]{l:aA α}{i:aF}(h:i<l.length):el l i∈l:=by rw[eN h];exact bC h
theorem fW{α:Type}[Inhabited α](f:α->aA CV)(l:aA α)(i j:aF)(h:i<l.length):ar (l.map f) i j=(f (el l i)).getD j (.b ak):=by rw[eZ f l i j h,eN h]
theorem oA{l:aA En}{i:aF}(h:i<l.length):ar (re l) i 0=CV.s (el l i).k:=fW _ l i 0 h
theorem qw{l:aA En}{i:aF}(h:i<l.length):ar (re l) i 1=CV.i ao (el l i).st:=fW _ l i 1 h
theorem qx{l:aA En}{i:aF}(h:i<l.length):ar (re l) i (1+1)=CV.i ao (el l i).li:=fW _ l i 2 h
theorem qy{l:aA En}{i:aF}(h:i<l.length):ar (re l) i (1+1+1)=CV.s (el l i).bo:=fW _ l i 3 h
theorem Dj{l:aA Fe}{i:aF}(h:i<l.length):ar (rf l) i 0=CV.s (el l i).k:=fW _ l i 0 h
theorem Dw{l:aA Fe}{i:aF}(h:i<l.length):ar (rf l) i 1=CV.s (el l i).t:=fW _ l i 1 h
theorem Qi{l:aA Fe}{i:aF}(h:i<l.length):ar (rf l) i (1+1)=CV.i ao (el l i).sta:=fW _ l i 2 h
theorem zW{l:aA Fe}{i:aF}(h:i<l.length):ar (rf l) i 2=CV.i ao (el l i).sta:=fW _ l i 2 h
theorem QI{l:aA Fe}{i:aF}(h:i<l.length):ar (rf l) i (1+1+1)=CV.i ao (el l i).li:=fW _ l i 3 h
theorem QJ{l:aA Fe}{i:aF}(h:i<l.length):ar (rf l) i (1+1+1+1)=CV.i ao (el l i).st:=fW _ l i 4 h
theorem Kb{l:aA Cl}{i:aF}(h:i<l.length):ar (rc l) i 0=CV.i ao (el l i).id:=fW _ l i 0 h
theorem VV{l:aA Cl}{i:aF}(h:i<l.length):ar (rc l) i 1=CV.s (el l i).k:=fW _ l i 1 h
theorem VW{l:aA Cl}{i:aF}(h:i<l.length):ar (rc l) i (1+1)=CV.i ao (el l i).fe:=fW _ l i 2 h
theorem VX{l:aA Cl}{i:aF}(h:i<l.length):ar (rc l) i (1+1+1)=CV.i ao (el l i).fr:=fW _ l i 3 h
theorem VY{l:aA Cl}{i:aF}(h:i<l.length):ar (rc l) i (1+1+1+1)=CV.i ao (el l i).sta:=fW _ l i 4 h
theorem VZ{l:aA Cl}{i:aF}(h:i<l.length):ar (rc l) i (1+1+1+1+1)=CV.s (el l i).mM:=fW _ l i 5 h
theorem V0{l:aA Cl}{i:aF}(h:i<l.length):ar (rc l) i (1+1+1+1+1+1)=CV.i ao (el l i).age:=fW _ l i 6 h
theorem wd0{l:aA Fi}{i:aF}(h:i<l.length):ar (rd l) i 0=CV.s (el l i).n:=fW _ l i 0 h
theorem wd1{l:aA Fi}{i:aF}(h:i<l.length):ar (rd l) i 1=CV.s (el l i).t:=fW _ l i 1 h
theorem wd2{l:aA Fi}{i:aF}(h:i<l.length):ar (rd l) i (1+1)=CV.i ao (el l i).kp:=fW _ l i 2 h
structure Px where
 now:aw
 en:aA En
 w:aA aq
 m:aA aq
 s:aA (aA aw)
 a:aw
 fe:aA Fe
 cl:aA Cl
 hits:aw
structure Px.Fit (p:Px) (n:aF):Prop where
 en:p.en.length<=n
 w:p.w.length<=n
 m:p.m.length<=n
 s:p.s.length<=n/\(∀q∈p.s,q.length<=n)/\(p.s.map bT).sum<=n
 fe:p.fe.length<=n
 cl:p.cl.length<=n
theorem Px.Fit.le{p:Px}{n m:aF}(h:p.Fit n)(hm:n<=m):p.Fit m:=⟨di h.en hm,di h.w hm,di h.m hm,⟨di h.s.1 hm,λq hq=>di (h.s.2.1 q hq) hm,di h.s.2.2 hm⟩,di h.fe hm,di h.cl hm⟩
theorem lY{i:aF}(h:0<i)(h2:i<=9223372036854775807):bJ ((i:aw)-1)=((i-1:aF):aw):=by rw[dg (by omega) (by omega)];omega
theorem GH{n:aF}(f g:aF->aX):((b9 n).all λi=>f i&&g i)=((b9 n).all f&&(b9 n).all g):=by
 induction n with
 |zero=>rfl
 |succ n ih=>simp only[Wh,BS,s7,List.all_nil,js,ih];cases (b9 n).all f<;>cases (b9 n).all g<;>cases f n<;>cases g n<;>rfl
end Go.FG.Lib

namespace Go.FG
namespace Lib
def ap{α β:Type}(f:α->β)(x:α):β:=f x
theorem bq{α R:Type}{o:az α}{d:α}{g:az R}{k:α->az R}(hc:nI o=ai)(h:g=Option.bind o k):g=ap k (Option.getD o d):=by rw[h,some_ hc (d:=d)];rfl
end Lib
end Go.FG

namespace Go.FG.Lib
theorem Nl{α R:Type}(l:aA α)(p:α->aX)(F0:aF->aF->az R)(F1:aF->aF->aA α->az R)(res:aA α->az R)
  (a1:∀m i (h:i<l.length),p l[i]=ai->F0 (m+1) i=F1 m (i+1) [l[i]]) (a2:∀m i (h:i<l.length),p l[i]=ak->F0 (m+1) i=F0 m (i+1)) (a3:∀m,F0 (m+1) l.length=res [])
  (b1:∀m i acc (h:i<l.length),acc.length<=i->p l[i]=ai->F1 (m+1) i acc=F1 m (i+1) (acc++[l[i]])) (b2:∀m i acc (h:i<l.length),p l[i]=ak->F1 (m+1) i acc=F1 m (i+1) acc) (b3:∀m acc,F1 (m+1) l.length acc=res acc)
  (n:aF) (hn:l.length<n):F0 n 0=res (l.filter p):=by
 have k1:∀d i acc m,l.length-i<=d->i<=l.length->acc.length<=i->d<m->F1 m i acc=res (acc++(l.drop i).filter p):=by
  intro d;induction d with
  |zero=>
   intro i acc m h1 h2 h3 h4;obtain⟨m,rfl⟩:∃m',m=m'+1:=⟨m-1,by omega⟩
   have:i=l.length:=by omega
   subst this;rw[b3,dm];simp
  |succ d ih=>
   intro i acc m h1 h2 h3 h4;obtain⟨m,rfl⟩:∃m',m=m'+1:=⟨m-1,by omega⟩
   by_cases hi:i<l.length
   ·rw[dF hi];cases hp:p l[i]with
    |true=>rw[b1 m i acc hi h3 hp,ih (i+1) _ m (by omega) hi (by simp;omega) (by omega),dD hp];simp
    |false=>rw[b2 m i acc hi hp,ih (i+1) _ m (by omega) hi (by omega) (by omega),cD (by simp[hp])]
   ·have:i=l.length:=by omega
    subst this;rw[b3,dm];simp
 have k0:∀d i m,l.length-i<=d->i<=l.length->d<m->F0 m i=res ((l.drop i).filter p):=by
  intro d;induction d with
  |zero=>
   intro i m h1 h2 h4;obtain⟨m,rfl⟩:∃m',m=m'+1:=⟨m-1,by omega⟩
   have:i=l.length:=by omega
   subst this;rw[a3,dm];rfl
  |succ d ih=>
   intro i m h1 h2 h4;obtain⟨m,rfl⟩:∃m',m=m'+1:=⟨m-1,by omega⟩
   by_cases hi:i<l.length
   ·rw[dF hi];cases hp:p l[i]with
    |true=>rw[a1 m i hi hp,k1 d (i+1) _ m (by omega) hi (by simp) (by omega),dD hp];simp
    |false=>rw[a2 m i hi hp,ih (i+1) m (by omega) hi (by omega),cD (by simp[hp])]
   ·have:i=l.length:=by omega
    subst this;rw[a3,dm];rfl
 have:=k0 l.length 0 n (by omega) (bI _) hn;rwa[fa]at this
theorem Cn{α R:Type}(l:aA α)(p:α->aX)(F1:aF->aF->aA α->az R)(res:aA α->az R)(c0:aA α)
  (b1:∀m i acc (h:i<l.length),acc.length<=c0.length+i->p l[i]=ai->F1 (m+1) i acc=F1 m (i+1) (acc++[l[i]])) (b2:∀m i acc (h:i<l.length),p l[i]=ak->F1 (m+1) i acc=F1 m (i+1) acc) (b3:∀m acc,F1 (m+1) l.length acc=res acc)
  (n:aF) (hn:l.length<n):F1 n 0 c0=res (c0++l.filter p):=by
 have k1:∀d i acc m,l.length-i<=d->i<=l.length->acc.length<=c0.length+i->d<m->F1 m i acc=res (acc++(l.drop i).filter p):=by
  intro d;induction d with
  |zero=>
   intro i acc m h1 h2 h3 h4;obtain⟨m,rfl⟩:∃m',m=m'+1:=⟨m-1,by omega⟩
   have:i=l.length:=by omega
   subst this;rw[b3,dm];simp
  |succ d ih=>
   intro i acc m h1 h2 h3 h4;obtain⟨m,rfl⟩:∃m',m=m'+1:=⟨m-1,by omega⟩
   by_cases hi:i<l.length
   ·rw[dF hi];cases hp:p l[i]with
    |true=>rw[b1 m i acc hi h3 hp,ih (i+1) _ m (by omega) hi (by simp;omega) (by omega),dD hp];simp
    |false=>rw[b2 m i acc hi hp,ih (i+1) _ m (by omega) hi (by omega) (by omega),cD (by simp[hp])]
   ·have:i=l.length:=by omega
    subst this;rw[b3,dm];simp
 have:=k1 l.length 0 c0 n (by omega) (bI _) (by omega) hn;rwa[fa]at this
theorem zT{α:Type}(p q:α->aX):∀r:aA α,(∀y∈r,q y= !p y)->r.Pairwise (λy z=>p z=ai->p y=ai)->r.takeWhile p=r.filter p/\r.dropWhile p=r.filter q
 |[],_,_=>⟨rfl,rfl⟩
 |y::r,hq,h=>by
  rw[qD]at h;have hy:=hq y (by simp);cases hp:p y with
  |true=>rw[hp]at hy;obtain⟨i1,i2⟩:=zT p q r (λz hz=>hq z (by simp[hz])) h.2;rw[qi hp,dD hp,List.dropWhile_cons_of_pos hp,cD (by rw[hy];simp),i1,i2];exact⟨rfl,rfl⟩
  |false=>
   rw[hp]at hy;have hn:¬p y=true:=by rw[hp];simp
   have ha:∀z∈r,p z=false:=λz hz=>by
    cases D6:p z with
    |false=>rfl
    |true=>exact cK (h.1 z hz D6) hn
   rw[qh hn,cD hn,List.dropWhile_cons_of_neg hn,dD (by rw[hy];rfl)];refine⟨?_, ?_⟩
   ·symm;rw[List.filter_eq_nil_iff];intro z hz;rw[ha z hz];simp
   ·congr 1;symm;rw[eK];intro z hz;rw[hq z (by simp[hz]),ha z hz];rfl
end Go.FG.Lib

