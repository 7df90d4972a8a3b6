/- An evaluator for the part of the language that this program uses, proved sound over the model: states told as values and lists; what an evaluation tells, the call does. No condition. -/
import Derived.Calls
import Derived.Orders
import Derived.Below
import Derived.Laws.AppendOwn
import Derived.Laws.Slices
import Derived.Laws.StructEq
import Derived.Laws.Tables
import Derived.Laws.MakeOwn
import Derived.Laws.IdiomStrings
import Derived.Laws.BytesArg
import Derived.Laws.NewFold
import Derived.SizedLaws
import Derived.Carry
import Derived.ProofKit
import Derived.KernelRfl
import Derived.Laws.Strings
import Derived.Test.YtilcgpcemjeaeaaGreatCoreb
set_option linter.unusedVariables false
set_option linter.unusedSimpArgs false
set_option maxRecDepth 100000
open Array renaming length_toList->dS,getElem?_eq_some_iff->dV,toList_extract->iy,getElem?_toList->cX,getD_eq_getD_getElem?->eK,toList_append->vF
open Bool renaming true->ai,and_eq_true->aM,false->ak,false_eq_true->dx,not_eq_true'->dp,and_true->iL,not_true->aY,not_false->bP
open ByteArray renaming size->eu,size_append->dH,data_extract->gk,size_extract->yM,extract->bK,data_append->mH
open Go renaming Program->cZ,Value->bn,World->bM
open Go.ByteArray renaming toList_eq->kD
open Go.DataW renaming weightsAll->Ak,trod->DJ,weights->vN,TrodAll->EP,weightsEach->nh
open Go.IntKind renaming i64->ao,u8->bj,wrap->bH
open Go.Value renaming okWide->sr
open Int renaming toNat->aZ,tmod->cF,tdiv->cQ,tdiv_eq_ediv_of_nonneg->h_,mul_le_mul_of_nonneg_right->DW,mul_le_mul_of_nonneg_left->Cb,pow_succ->uZ,tmod_eq_emod_of_nonneg->im
open List renaming getElem?_append_left->dF,getElem?_append_right->db,getElem?_eq_none->lh,mem_singleton->a_,mem_append->bf,length_append->bU,length_take->eL,length_drop->iC,length_map->bV,map_append->dh,getElem?_take->d_,getElem?_drop->dQ,getElem?_eq_getElem->eR,mem_cons->cB,getElem?_eq_some_iff->aT,getElem?_of_mem->b7,eq_nil_of_length_eq_zero->gh,getElem?_map->bL,length_eq_one_iff->g6,all_cons->u0,mem_append_left->bN,mem_append_right->bO,append_nil->dj,all_eq_true->bu,append_assoc->cy,map_cons->fw,mem_cons_self->dv,mem_cons_of_mem->c7,getD->kA,drop_eq_getElem_cons->dC,set->aD,length_singleton->bC,beq->bW,range'->iV,ext_getElem?->WN,extract_eq_take_drop->ia,length->bS,drop_drop->vP,drop_zero->fg,take_of_length_le->jg
open List.cons renaming inj->kC
open Nat renaming beq->bF,blt->qC,add_assoc->mi,lt_or_ge->qY,eq_zero_or_pos->DL,eq_of_beq_eq_true->aW,zero_add->bX,blt_eq->AX,mul_le_mul_right->b_,le_trans->dg,ble->fJ,le_of_ble_eq_true->cM,add_zero->yZ,sub_zero->sA
open Option renaming some->ah,none->aj,isSome->nL,map_some->ji
open Option.some renaming inj->aJ
open Prod.mk renaming inj->bY,injEq->jj
open _root_ renaming ByteArray->aq,Nat->aE,Option->aA,List->az,cond_true->au,if_pos->bA,Bool->aU,absurd->cL,Array->dt,Int->ax,decide_eq_true_eq->bh,of_decide_eq_true->cq,cond_false->aw,decide_eq_true->aG,if_neg->bJ,congrArg->lV,decide_eq_decide->ca,UInt8->IA,decide_eq_false->aK
namespace Go.FG
open Go.RowKit Go.ChangeShapes
inductive rB (T:Tab):CV->Prop
 |i (k n):(Lit.int k n).wf=ai->rB T (.i k n)
 |b (x):rB T (.b x)
 |s (x:aq):x.size<=140737488351232->rB T (.s x)
 |l (e xs ti):T.ty e=ah ti->xs.length*ti.bytes<=140737488351232->(∀y∈xs,y.map CV.kd=ti.ks)->(∀y∈xs,∀x∈y,rB T x)->rB T (.l e xs)
def P9(P:cZ)(g:aE->aA (az Ck)):az Field->aE->aA (az Ck)
 |[],_=>ah []
 |f::r,off=>match g f.type with
  |some ks=>bif bF f.offset off&&bF (P.cellsOf f.type) ks.length then(match P9 P g r (off+ks.length)with|some l=>ah (ks++l)|none=>aj)else aj
  |none=>aj
def P8(P:cZ)(T:Tab):aE->aE->aA (az Ck)
 |0,_=>aj
 |n+1,t=>match P.underlying t with
  |some (.int k)=>ah [.i k]
  |some .bool=>ah [.b]
  |some .string=>ah [.s]
  |some (.slice e)=>match T.ty e,P8 P T n e with
   |some te,ah ks=>bif qq ks te.ks&&bF te.bytes (P.bytesOf e)&&bF (P.cellsOf e) ks.length&&qC 0 ks.length then ah [.l e]else aj
   |_,_=>aj
  |some (.struct fs)=>match P9 P (P8 P T n) fs.toList 0 with
   |some ks=>bif bF (P.cellsOf t) ks.length then ah ks else aj
   |none=>aj
  |_=>aj
def I8:CV->AA
 | .i k n=> .i k n| .b x=> .b x| .s x=> .s x| .l e xs=> .sh e xs
section
variable {H:Type} {enc:TypeId×bn->H} {P:cZ} {T:Tab} {w:bM}
def DU(w:bM):aE->Prop:=λb=>b<w.heap.size
structure wI (T:Tab) (w:bM) (cs:az bn) (off:aE) (ys:az CV) (ks:az Ck):Prop where
 kd:ys.map CV.kd=ks
 at_:∀(j:aE) (y:CV),ys[j]? =ah y->∃v,cs[off+j]? =ah v/\da T w (DU w) v y
 fine:∀y∈ys,rB T y
theorem SR(a:Addr)(m k:aE):(a.add m).add k=a.add (m+k):=by
 unfold Addr.add;by_cases h1:m=0<;>by_cases h2:k=0
 ·simp[h1,h2]
 ·simp[h1,h2]
 ·simp[h1,h2]
 ·simp[h1,h2,mi]
theorem ae8(b o n:aE):(ad b o).add n=ad b (o+n):=by unfold Addr.add;by_cases h:n=0<;>simp[h]
theorem Aq{α:Type}{p:aE->α->Prop}:∀n:aE,(∀i,i<n->∃y,p i y)->∃xs:az α,xs.length=n/\∀(i:aE) (y:α),xs[i]? =ah y->p i y
 |0,_=>⟨[],rfl,λi y h=>by simp at h⟩
 |n+1,h=>by
  obtain⟨xs,h1,h2⟩:=Aq n (λi hi=>h i (by omega));obtain⟨y,hy⟩:=h n (by omega);refine⟨xs++[y],by simp[h1],λi z hz=> ?_⟩
  rcases qY i xs.length with hi|hi
  ·rw[dF hi]at hz;exact h2 i z hz
  ·rw[db hi]at hz;have:i-xs.length=0:=by
    rcases DL (i-xs.length)with h|h
    ·exact h
    ·rw[lh (by simp;omega)]at hz;cases hz
   rw[this]at hz;cases hz;have:i=n:=by omega
   subst this;exact hy
theorem tW{v:bn}{y:CV}{k:Ck}(hk:y.kd=k)(hh:da T w (DU w) v y)(hf:rB T y):wI T w [v] 0 [y] [k] where
 kd:=by simp[hk]
 at_ j y' hj:=by
  cases j with
  |zero=>cases hj;exact⟨v,rfl,hh⟩
  |succ j=>simp at hj
 fine y' hy:=by rw[a_]at hy;subst hy;exact hf
theorem uk{e:TypeId}:∀{ds:az (DataW H)} {i:aE} {d:DataW H},ds[i]? =ah d->∀n∈d.weights P e,n∈Ak P e ds
 |[],_,_,h,_,_=>by simp at h
 |d0::ds,0,d,h,n,hn=>by cases h;simp only[Ak,bf];exact .inl hn
 |d0::ds,i+1,d,h,n,hn=>by simp only[Ak,bf];exact .inr (uk (ds:=ds) (i:=i) h n hn)
theorem PD{g:aE->aA (az Ck)}{cs:az bn}
  (hg:∀t ks,g t=ah ks->∀(fuel:aE) (cs:az bn) (x:DataW H×az MemPlace) sp hd,DJ enc P w 0 sp hd fuel t cs=ah x->(∀m∈x.1.weights P t,m<=reachBytes)->cs.length=P.cellsOf t->∃ys,wI T w cs 0 ys ks):
  ∀(fs:az Field) (off:aE) (ks:az Ck),P9 P g fs off=ah ks->off+ks.length<=cs.length->∀(xs:az (DataW H×az MemPlace)) (fuel:aE) sp hd,xs.length=fs.length->
   (∀(i:aE) (f:Field),fs[i]? =ah f->DJ enc P w 0 sp hd fuel f.type ((cs.drop f.offset).take (P.cellsOf f.type))=xs[i]?)->
   (∀(i:aE) (f:Field) x,fs[i]? =ah f->xs[i]? =ah x->∀m∈x.1.weights P f.type,m<=reachBytes)->∃ys,wI T w cs off ys ks:=by
 intro fs;induction fs with
 |nil=>intro off ks h _ xs fuel sp hd _ _ _;cases h;exact⟨[],⟨rfl,λj y hj=>by simp at hj,λy hy=>by cases hy⟩⟩
 |cons f fs ih=>
  intro off ks h hlen xs fuel sp hd Yt Ra hwt;unfold P9 at h;cases hgf:g f.type with
  |none=>rw[hgf]at h;cases h
  |some k1=>
   rw[hgf]at h;dsimp only at h;cases hb:(bF f.offset off&&bF (P.cellsOf f.type) k1.length)with
   |false=>rw[hb]at h;cases h
   |true=>
    rw[hb,au]at h;simp only[aM]at hb;have e1:=aW hb.1;have e2:=aW hb.2;cases hr:P9 P g fs (off+k1.length)with
    |none=>rw[hr]at h;cases h
    |some k2=>
     rw[hr]at h;have h:k1++k2=ks:=by injection h
     subst h;rw[bU]at hlen;cases xs with
     |nil=>simp at Yt
     |cons x xs=>
      have h0:=Ra 0 f rfl;rw[show(x::xs)[0]? =ah x from rfl]at h0;obtain⟨y1,c1⟩:=hg _ _ hgf fuel _ x sp hd h0 (hwt 0 f x rfl rfl) (by rw[eL,iC];omega);obtain⟨y2,c2⟩:=ih (off+k1.length) k2 hr (by omega) xs fuel sp hd (by simpa using Yt) (λi f' hf=>Ra (i+1) f' hf) (λi f' x' hf hx=>hwt (i+1) f' x' hf hx);have NZ:y1.length=k1.length:=by rw[<-c1.kd,bV]
      refine⟨y1++y2,⟨by rw[dh,c1.kd,c2.kd],λj y hj=> ?_,λy hy=> ?_⟩⟩
      ·rcases qY j y1.length with j8|j8
       ·rw[dF j8]at hj;obtain⟨v,hv,hh⟩:=c1.at_ j y hj;refine⟨v, ?_,hh⟩
        rw[bX,d_,bA (by omega),dQ,e1]at hv;exact hv
       ·rw[db j8]at hj;obtain⟨v,hv,hh⟩:=c2.at_ _ y hj;refine⟨v, ?_,hh⟩
        rw[show off+k1.length+(j-y1.length)=off+j by omega]at hv;exact hv
      ·rcases bf.1 hy with hy|hy
       ·exact c1.fine y hy
       ·exact c2.fine y hy
theorem C9(hE:eA P T):∀(n t:aE) (ks:az Ck),P8 P T n t=ah ks->∀(fuel:aE) (cs:az bn) (x:DataW H×az MemPlace) sp hd,DJ enc P w 0 sp hd fuel t cs=ah x->(∀m∈x.1.weights P t,m<=reachBytes)->cs.length=P.cellsOf t->∃ys,wI T w cs 0 ys ks:=by
 intro n;induction n with
 |zero=>intro t ks h;cases h
 |succ n ih=>
  intro t ks h fuel cs x sp hd Ra hwt n_;unfold P8 at h;split at h
  ·rename_i k hu;cases h;obtain⟨m,rfl,rfl,hwf⟩:=DataW.trod_int hu Ra;exact⟨[.i k m],tW rfl (.i _ _) (.i _ _ hwf)⟩
  ·rename_i hu;cases h;obtain⟨m,rfl,rfl⟩:=DataW.trod_bool hu Ra;exact⟨[.b m],tW rfl (.b _) (.b _)⟩
  ·rename_i hu;cases h;obtain⟨m,rfl,rfl,hmx⟩:=DataW.trod_string hu Ra;have hz:m.size<=140737488351232:=by have:=hwt m.data.toList.length (by simp[vN]);rw[dS]at this;exact this
   exact⟨[.s m],tW rfl (.s _ (show m.size<=4611686018427387904 by omega)) (.s _ hz)⟩
  ·rename_i e hu;split at h
   ·rename_i te ke LO hke;cases hb:(qq ke te.ks&&bF te.bytes (P.bytesOf e)&&bF (P.cellsOf e) ke.length&&qC 0 ke.length)with
    |false=>rw[hb]at h;cases h
    |true=>
     rw[hb]at h;cases h;simp only[aM]at hb;obtain⟨⟨⟨b1,b2⟩,b3⟩,b4⟩:=hb;have e1:=nX b1;have e2:=aW b2;have e3:=aW b3;have e4:0<ke.length:=by simpa [AX]using b4
     subst e1;rcases DataW.trod_slice hu Ra with ⟨rfl,rfl⟩|⟨a,len,cap,elems,rest,m,rfl,rfl,rfl,_,hlc,Yc,PQ,gi,_,_⟩
     ·exact⟨[.l e []],tW rfl (.nl _ _ _) (.l e [] te LO (by simp) (λy hy=>by cases hy) (λy hy=>by cases hy))⟩
     ·have hwl:len*te.bytes<=140737488351232:=by have:=hwt ((elems.length+rest.length)*P.bytesOf e) (by simp[vN,hu]);rw[<-e2,PQ]at this;have h2:len*te.bytes<=(len+rest.length)*te.bytes:=b_ _ (by omega);exact dg h2 this
      have one:∀i,i<len->∃ys:az CV,(∀(j:aE) (y:CV),ys[j]? =ah y->∃v,w.cell? (a.add (i*te.ks.length+j))=ah v/\da T w (DU w) v y)/\ys.map CV.kd=te.ks/\∀y∈ys,rB T y:=by
       intro i hi;have h1:=gi i hi;have mm:i<elems.length:=by omega
       rw[eR mm]at h1;cases hc:w.cells? 0 (a.add (i*P.cellsOf e)) (P.cellsOf e)with
       |none=>rw[hc]at h1;cases h1
       |some cs=>
        rw[hc]at h1;have h1:DJ enc P w 0 sp hd m e cs=ah elems[i]:=h1;obtain⟨_,n_,hcell⟩:=World.cells?_some hc;obtain⟨ys,c⟩:=ih e te.ks hke m cs _ sp hd h1 (λz hz=>hwt z (by simp only[vN,hu,cB,bf];exact .inr (.inl (uk (i:=i) (d:=elems[i].1) (by simp[mm]) z hz)))) n_;refine⟨ys,λj y hj=> ?_,c.kd,c.fine⟩
        obtain⟨v,hv,hh⟩:=c.at_ j y hj;rw[bX]at hv;have j8:=(aT.1 hv).1;have:=hcell j (by omega);rw[hv]at this;refine⟨v, ?_,hh⟩
        rw[<-e3];rw[<-SR];exact this
      obtain⟨xs,Yt,hx⟩:=Aq len one;have aj0:rB T (.l e xs):=by
       refine .l e xs te LO (by rw[Yt];exact hwl) (λy hy=> ?_) (λy hy=> ?_)
       ·obtain⟨i,hi⟩:=b7 hy;exact(hx i y hi).2.1
       ·obtain⟨i,hi⟩:=b7 hy;exact(hx i y hi).2.2
      refine⟨[.l e xs],tW rfl ?_ aj0⟩
      rcases DL len with h0|h0
      ·have:xs=[]:=gh (by omega);subst this;rw[h0];exact .nl _ _ _
      ·have hx0:xs[0]? =ah xs[0]:=by rw[eR (by omega)]
       obtain⟨c0,k0,_⟩:=hx 0 _ hx0;have hy0:0<(xs[0]).length:=by rw[<-bV (f:=CV.kd),k0];exact e4
       obtain⟨v0,Rb,_⟩:=c0 0 _ (eR hy0);obtain⟨b,o,s⟩:=a;have hs:s=aj/\b<w.heap.size:=by
        unfold World.cell? at Rb;have e0:(Addr.mk b o s).add (0*te.ks.length+0)=⟨b,o,s⟩:=by simp[Addr.add]
        rw[e0]at Rb;split at Rb
        ·rename_i hh;refine⟨?_,(dV.1 hh).1⟩
         cases s with
         |none=>rfl
         |some s=>simp at Rb
        ·cases Rb
       obtain⟨rfl,hbl⟩:=hs;let U:aE->aE->bn:=λi j=>(w.cell? (ad b (o+i*te.ks.length+j))).getD undef;have ar:∀i j y z,xs[i]? =ah y->y[j]? =ah z->w.cell? (ad b (o+i*te.ks.length+j))=ah (U i j)/\da T w (DU w) (U i j) z:=by
        intro i j y z hi hj;obtain⟨v,hv,hh⟩:=(hx i y hi).1 j z hj;have hv:w.cell? ((ad b o).add (i*te.ks.length+j))=ah v:=hv;rw[ae8,<-mi]at hv;have:U i j=v:=by simp only[U,hv];rfl
        rw[this];exact⟨hv,hh⟩
       rw[<-Yt];exact .l e xs b o cap te U LO (by omega) Yc hbl (λy hy=>by obtain⟨i,hi⟩:=b7 hy;exact(hx i y hi).2.1) (λi j y z hi hj=>(ar i j y z hi hj).1) (λi j y z hi hj=>(ar i j y z hi hj).2)
   ·cases h
  ·rename_i fs hu;obtain⟨xs,m,rfl,rfl,afN,Yt,hf⟩:=DataW.trod_struct hu Ra;cases hlf:P9 P (P8 P T n) fs.toList 0 with
   |none=>rw[hlf]at h;cases h
   |some ks'=>
    rw[hlf]at h;obtain⟨hb,rfl⟩:=Fm h;refine PD ih fs.toList 0 _ hlf ?_ xs m sp hd (by simpa using Yt) (λi f hi=>hf i f (by simpa using hi)) (λi f x hi hx z hz=>hwt z ?_)
    ·have:=aW hb;omega
    ·simp only[vN,hu];refine DataW.weights_mem_each (j:=i) (t:=f.type) (d:=x.1) ?_ ?_ z hz
     ·rw[bL,hi];rfl
     ·rw[bL,hx];rfl
  ·cases h
end
end Go.FG

namespace Go.FG
open Go.RowKit Go.ChangeShapes
def od(T:Tab):az aE->az (az CV)->az fa
 |t::ts,ys::sj=>fa.v (match T.ty t with|some ti=>ti.agg|none=>ak) (ys.map I8)::od T ts sj
 |_,_=>[]
def pc(T:Tab):az aE->az (az CV)->Prop
 |[],[]=>True
 |t::ts,ys::sj=>(∃ti,T.ty t=ah ti/\ys.map CV.kd=ti.ks)/\(∀y∈ys,rB T y)/\pc T ts sj
 |_,_=>False
def Qm(P:cZ)(T:Tab)(n:aE)(t:aE):aU:=
 match T.ty t,P8 P T n t,P.underlying t with
 |some ti,ah ks,ah d=>qq ks ti.ks&&(match d with| .struct _=>ti.agg| .array _ _=>ak|_=> !ti.agg)&&P.readableRec t&&decide (t<P.types.size)
 |_,_,_=>ak
theorem ae7{T:Tab}{w:bM}{c:eZ}(hc:∀b,DU w b->c.K b){v:bn}{y:CV}(h:da T w (DU w) v y)(nm:aE):eF T w c (lJ nm (I8 y)) v:=by
 have h:da T w c.K v y:=h.frame (λ_ _=>rfl) hc;cases y with
 |i k n=>cases h;rfl
 |b x=>cases h;rfl
 |s x=>cases h with|s _ ho=>exact⟨rfl,ho⟩
 |l e xs=>exact h
section
variable {H:Type} {enc:TypeId×bn->H} {P:cZ} {T:Tab} {w:bM}
theorem aff(hE:eA P T){n t:aE}(hp:Qm P T n t=ai){v:bn}{d:DataW H}{ps:az MemPlace}{sp:aE->aU}{hd:aU}{base:aE}(hv:sr P w .any base t v)(h:DataW.Trod enc P w 0 sp hd t v d ps)(hw:∀m∈d.weights P t,m<=reachBytes):
  ∃ys:az CV,(∃ti,T.ty t=ah ti/\ys.map CV.kd=ti.ks)/\(∀y∈ys,rB T y)/\∀c:eZ,(∀b,DU w b->c.K b)->∀p,jm T w c (tM p (fa.v (match T.ty t with|some ti=>ti.agg|none=>ak) (ys.map I8))) v:=by
 unfold Qm at hp;split at hp
 ·rename_i ti ks dd ht hl hu;simp only[aM]at hp;obtain⟨⟨⟨h1,h2⟩,_⟩,_⟩:=hp;have e1:=nX h1;subst e1;obtain⟨fuel,Ra⟩:=h;obtain⟨inf,hi,gj,_⟩:=hE.info t ti ht;have hct:P.cellsOf t=ti.ks.length:=by unfold Program.cellsOf;rw[hi];exact gj
  have cell:∀(ys:az CV) (cs:az bn),wI T w cs 0 ys ti.ks->∀c:eZ,(∀b,DU w b->c.K b)->∀(p j:aE) (a:AV),(gD (dU p 0) (ys.map I8))[j]? =ah a->∃u:bn,cs[j]? =ah u/\eF T w c a u:=by
   intro ys cs hc c hK p j a hj;rw[iD,bL]at hj;cases hy:ys[j]? with
   |none=>rw[hy]at hj;cases hj
   |some y=>rw[hy]at hj;cases hj;obtain⟨u,sF,hh⟩:=hc.at_ j y hy;rw[bX]at sF;exact⟨u,sF,ae7 hK hh _⟩
  cases uH:ti.agg with
  |true=>
   have LM:∃fs,dd= .struct fs:=by cases dd<;>simp[uH]at h2;exact⟨_,rfl⟩
   obtain⟨fs,rfl⟩:=LM;unfold sr at hv;rw[hu]at hv;obtain⟨cs,rfl,IG,_⟩:=hv;obtain⟨ys,hc⟩:=C9 hE n t ti.ks hl fuel cs.toList (d,ps) sp hd Ra hw (by simpa using IG);refine⟨ys,⟨ti,ht,hc.kd⟩,hc.fine,λc hK p=> ?_⟩
   rw[ht];show qo T w c ti.agg (gD (dU p 0) (ys.map I8)) _;rw[uH];refine⟨cs,rfl, ?_,λj a hj=> ?_⟩
   ·rw[iT,bV,IG,hct,<-hc.kd,bV]
   ·obtain⟨u,sF,ha⟩:=cell ys cs.toList hc c hK p j a hj;exact⟨u,by simpa using sF,ha⟩
  |false=>
   have LM:∀fs,dd≠ .struct fs:=by intro fs he;subst he;simp[uH]at h2
   have har:∀m e,dd≠ .array m e:=by intro m e he;subst he;cases h2
   have hcell:Cell.okWide P w .any base t v:=by
    unfold sr at hv;rw[hu]at hv;split at hv
    ·rename_i fs he;cases he;exact cL rfl (LM fs)
    ·rename_i m e he;cases he;exact cL rfl (har m e)
    ·exact hv
   have xT:v.cells= #[v]:=by
    cases v<;>first|rfl|skip
    rename_i cs;exfalso;unfold Cell.okWide at hcell;rw[hu]at hcell;cases dd<;>simp[Cell.ok,hu]at hcell
   obtain⟨dd',hu2,_,hn⟩:=hE.desc t ti ht;have h1:ti.ks.length=1:=by rcases hn uH with ⟨k,h,_⟩|⟨h,_⟩|⟨h,_⟩|⟨e',h,_⟩|⟨h,_⟩<;>simp[h]
   rw[xT]at Ra;obtain⟨ys,hc⟩:=C9 hE n t ti.ks hl fuel [v] (d,ps) sp hd Ra hw (by rw[hct,h1];rfl);have JQ:ys.length=1:=by rw[<-bV (f:=CV.kd),hc.kd,h1]
   obtain⟨y,rfl⟩:=g6.1 JQ;refine⟨[y],⟨ti,ht,hc.kd⟩,hc.fine,λc hK p=> ?_⟩
   rw[ht];show qo T w c ti.agg [lJ (dU p 0) (I8 y)] _;rw[uH];obtain⟨u,sF,ha⟩:=cell [y] [v] hc c hK p 0 _ rfl;cases sF;exact ha
 ·cases hp
theorem XM(hE:eA P T){n:aE}{sp:aE->aU}{hd:aU}{base:aE}:∀{ts:az aE} {vs:az bn} {ds:az (DataW H)} {ps:az MemPlace},ts.all (Qm P T n)=ai->
  EP enc P w 0 sp hd ts vs ds ps->(∀(j:aE) t v,ts[j]? =ah t->vs[j]? =ah v->sr P w .any base t v)->(∀m∈nh P ts ds,m<=reachBytes)->
  ∃sj,pc T ts sj/\vs.length=(od T ts sj).length/\ds.length=ts.length/\∀c:eZ,(∀b,DU w b->c.K b)->∀(q p:aE) (x:fa),(od T ts sj)[p]? =ah x->∃v,vs[p]? =ah v/\jm T w c (tM (q+p) x) v:=by
 intro ts;induction ts with
 |nil=>intro vs ds ps _ h _ _;obtain⟨rfl,rfl,rfl⟩:=trodAll_nil h;exact⟨[],trivial,rfl,rfl,λc _ q p x h=>by simp[od]at h⟩
 |cons t ts ih=>
  intro vs ds ps hp h cg hw;simp only[u0,aM]at hp;obtain⟨v,vs,d,ds,p,q,rfl,rfl,rfl,h0,r0⟩:=trodAll_cons h;obtain⟨ys,y1,y2,y3⟩:=aff hE hp.1 (cg 0 t v rfl rfl) h0 (λm hm=>hw m (by simp only[nh,bf];exact .inl hm));obtain⟨sj,z1,z2,z4,z3⟩:=ih hp.2 r0 (λj t v hj hv=>cg (j+1) t v hj hv) (λm hm=>hw m (by simp only[nh,bf];exact .inr hm));refine⟨ys::sj,⟨y1,y2,z1⟩,by simp[od,z2],by simp[z4],λc hK q p x hx=> ?_⟩
  cases p with
  |zero=>cases hx;exact⟨v,rfl,y3 c hK q⟩
  |succ p=>obtain⟨v',h1,h2⟩:=z3 c hK (q+1) p x hx;exact⟨v',h1,by rw[show q+(p+1)=q+1+p by omega];exact h2⟩
theorem nW{m:aE}{ob:Obj}:∀{ts:az aE} {sj:az (az CV)},inj (od T ts sj) (c9 m)≠ .o ob:=by
 intro ts sj h;obtain⟨p,a,h0,hh⟩:=BL h;have:∀(ts:az aE) (sj:az (az CV)) (p:aE) (a:fa),(od T ts sj)[p]? =ah a->∃(g:aU) (ys:az CV),a= .v g (ys.map I8):=by
  intro ts;induction ts with
  |nil=>intro sj p a h;simp[od]at h
  |cons t ts ih=>
   intro sj p a h;cases sj with
   |nil=>simp[od]at h
   |cons ys sj=>
    cases p with
    |zero=>cases h;exact⟨_,ys,rfl⟩
    |succ p=>exact ih sj p a h
 obtain⟨g,ys,rfl⟩:=this _ _ _ _ h0;rcases hh with ⟨xs,h1,_⟩|⟨xs,j,e,ex,zs,h1,h2,_⟩
 ·cases h1
 ·have h1:ys.map I8=xs:=by rcases h1 with ⟨g',h1⟩|h1<;>cases h1;rfl
  subst h1;rw[bL]at h2;cases hy:ys[j]? with
  |none=>rw[hy]at h2;cases h2
  |some y=>rw[hy]at h2;cases y<;>cases h2
theorem Im(hl:laidOutB P=ai){W':bM}(hb:Below w.heap.size w W'){n:aE}:∀{ts:az aE} {vs:az bn} {ds:az (DataW H)} {ps:az MemPlace},ts.all (Qm P T n)=ai->EP enc P w 0 (λ_=>ai) ai ts vs ds ps->(∀x∈ps,x.block<w.heap.size)->
  EP enc P W' 0 (λb=>decide (b<w.heap.size)) ai ts vs ds ps:=by
 intro ts;induction ts with
 |nil=>intro vs ds ps _ h _;obtain⟨rfl,rfl,rfl⟩:=trodAll_nil h;exact h
 |cons t ts ih=>
  intro vs ds ps hp h jt;simp only[u0,aM]at hp;obtain⟨v,vs,d,ds,p,q,rfl,rfl,rfl,h0,r0⟩:=trodAll_cons h;have P3:=hp.1;unfold Qm at P3;split at P3
  ·simp only[aM]at P3;exact⟨p,q,Below.trod hl P3.1.2 (by simpa using P3.2) h0 hb (λx hx=>jt x (bN _ hx)),ih hp.2 r0 (λx hx=>jt x (bO _ hx)),rfl⟩
  ·cases P3
end
theorem HR{H:Type}{enc:TypeId×bn->H}{C:Checked}{T:Tab}(hE:eA C.prog T)(hl:laidOutB C.prog=ai){g tb n:aE}{fn:Func}{spec:az fa->aA (aU×dq)}(hF:lY C.prog T g spec){s:ChangeSpec}
  (akk:fn.params.toList.all (Qm C.prog T n)=ai) (atT:fn.resultTypes= #[tb]) (htb:C.prog.underlying tb=ah .bool) (TJ:s.vars=[])
  (hfn:∀ds:az (DataW H),ds.length=fn.params.toList.length->s.fn H ds={results:=[.lit (.bool ai)],args:=ds})
  (claim:∀sj,pc T fn.params.toList sj->spec (od T fn.params.toList sj)=ah (ai,⟨[.v ak [.b ai]],[]⟩))
  (W:bM) (base:aE) (args:dt bn) (ds gs:az (DataW H)) (before:az MemPlace)
  (hval:∀(j:aE) t v,fn.params[j]? =ah t->args[j]? =ah v->sr C.prog W .any base t v)
  (hW:DataW.Whole enc C.prog fn.params.toList s.vars ak W args.toList ds gs before)
  (gj:(nh C.prog (fn.params.toList++s.plain.varTypes C.prog) (ds++gs)).all (·<=reachBytes)=ai):
  Calls C.prog g args W λe W'=>∃v,e= .returned v/\s.post enc C.prog fn ak ai ak ak W args v W':=by
 have hW':=hW;obtain⟨p,q,hA,hV,rfl,hfz,JL⟩:=hW;have jt:=hW'.lt;rw[TJ]at hV;have hgs:gs=[]/\q=[]:=by
  cases gs with
  |nil=>exact⟨rfl,hV⟩
  |cons=>exact hV.elim
 obtain⟨rfl,rfl⟩:=hgs;have hw:∀m∈nh C.prog fn.params.toList ds,m<=reachBytes:=by
  intro m hm;rw[dj]at gj;have e:s.plain.varTypes C.prog=[]:=by unfold DataSpec.varTypes ChangeSpec.plain;simp[TJ]
  rw[e,dj]at gj;have:=bu.1 gj m hm;simpa using this
 obtain⟨sj,Yp,hlen,hdl,sD⟩:=XM hE akk hA (λj t v hj hv=>hval j t v (by simpa using hj) (by simpa using hv)) hw;let nl:Pl:=⟨ai,0,0,0,0,0⟩
 let c1:eZ:=⟨λ_=>nl,λ_ _ _=>nl,DU W⟩
 have cg:Ok T (inj (od T fn.params.toList sj)) W c1:=⟨λnm o h=>cL h nW,λnm o xZ o' b h=>cL h nW,λnm o b h=>cL h nW,λb hb=>hb,λnm xs h=>cL h nW⟩
 obtain⟨_,hc⟩:=hF _ _ (claim sj Yp) W c1 args cg (by rw[<-hlen];simp) (λp x hx=>by obtain⟨v,h1,h2⟩:=sD c1 (λ_ h=>h) 0 p x hx;rw[bX]at h2;exact⟨v,by simpa using h1,h2⟩);refine hc.mono λe W' hR=> ?_;cases e with
 |panicked=>exact hR.elim
 |outgrown=>exact hR.elim
 |returned v=>
  obtain⟨c3,_,yO,_,yP⟩:=hR;have hv:v= .bool true:=yP;subst hv;have hb:Below W.heap.size W W':=⟨yO.os,yO.tape,yO.output,yO.size,λk hk=>yO.same k hk (λ⟨nm,o,h,_⟩=>nW h)⟩
  have TG:=hfn ds hdl;refine⟨_,rfl,ds,[],_,[],p,[],hW', ?_, ?_, ?_,hb.frame _,λh=>by cases h⟩
  ·rw[dj,TG,atT];exact trodAll_mk1 (shut_bool htb _)
  ·rw[dj,TG];exact Im hl hb akk hA (λx hx=>jt x (bN _ hx))
  ·rw[dj,TG,TJ];rfl
end Go.FG

namespace Go.FG
def gU(s:aq)(i:aE):aE:=(s.data.getD i 0).toNat
abbrev bG(x:ax):ax:=ao.wrap x
inductive gP where
 |I (n:ax)|B (x:aU)|S (x:aq)|R (xs:aQ)|N (n:aE)
def gI:az gP->ax| .I n::_=>n|_=>0
def gB:az gP->aU| .B n::_=>n|_=>ak
def gS:az gP->aq| .S n::_=>n|_=>⟨#[]⟩
def gR:az gP->aQ| .R n::_=>n|_=>[]
def gN:az gP->aE| .N n::_=>n|_=>0
def hCV:CV->az gP
 | .i _ n=>[.I n]| .b x=>[.B x]| .s x=>[.S x]| .l _ xs=>[.R xs]
def sCV:CV->CV->aU
 | .i k _, .i k' _=>decide (k=k')| .b _, .b _=>ai| .s _, .s _=>ai| .l e _, .l e' _=>bF e e'|_,_=>ak
def fCV(s:CV)(l:az gP):CV×az gP:=
 match s with
 | .i k _=>(.i k (gI l),l.tail)| .b _=>(.b (gB l),l.tail)| .s _=>(.s (gS l),l.tail)| .l e _=>(.l e (gR l),l.tail)
def JC:az CV->az gP|[]=>[]|a::r=>hCV a++JC r
def Ib:az CV->az CV->aU|[],[]=>ai|a::r,b::t=>sCV a b&&Ib r t|_,_=>ak
def zI:az CV->az gP->az CV×az gP
 |[],l=>([],l)|a::r,l=>((fCV a l).1::(zI r (fCV a l).2).1,(zI r (fCV a l).2).2)
def FD:az (az CV)->az gP|[]=>[]|a::r=>JC a++FD r
def F8:az (az CV)->az (az CV)->aU|[],[]=>ai|a::r,b::t=>Ib a b&&F8 r t|_,_=>ak
def Aw:az (az CV)->az gP->az (az CV)×az gP
 |[],l=>([],l)|a::r,l=>((zI a l).1::(Aw r (zI a l).2).1,(Aw r (zI a l).2).2)
theorem afx{s a:CV}(h:sCV s a=ai)(l:az gP):fCV s (hCV a++l)=(a,l):=by
 cases s<;>cases a<;>simp only[sCV,bh,dx,Nat.beq_eq]at h<;>first|exact h.elim|skip
 all_goals first|(subst h;rfl)|rfl
theorem xM:∀{s a:az CV},Ib s a=ai->∀l,zI s (JC a++l)=(a,l)
 |[],[],_,l=>rfl
 |s::ss,a::as,h,l=>by
  simp only[Ib,aM]at h;simp only[zI,JC,cy,afx h.1,xM h.2]
 |[],_::_,h,_=>by cases h
 |_::_,[],h,_=>by cases h
theorem CH:∀{s a:az (az CV)},F8 s a=ai->∀l,Aw s (FD a++l)=(a,l)
 |[],[],_,l=>rfl
 |s::ss,a::as,h,l=>by
  simp only[F8,aM]at h;simp only[Aw,FD,cy,xM h.1,CH h.2]
 |[],_::_,h,_=>by cases h
 |_::_,[],h,_=>by cases h
def hAV:AV->az gP
 | .i _ n=>[.I n]| .b x=>[.B x]| .s x=>[.S x]| .sh _ xs=>[.R xs]| .vw _ lo hi=>[.N lo, .N hi]| .rp _ i _=>[.N i]
 | .sp _ xs i _=>[.R xs, .N i]| .inn _ i _=>[.N i]| .ip _ i _ i2 _=>[.N i, .N i2]| .fn _ iW=>FD iW| .fp xs _=>JC xs|_=>[]
def sAV:AV->AV->aU
 | .i k _, .i k' _=>decide (k=k')| .b _, .b _=>ai| .s _, .s _=>ai| .sh e _, .sh e' _=>bF e e'| .nl, .nl=>ai
 | .own n, .own n'=>bF n n'| .vw n _ _, .vw n' _ _=>bF n n'| .bp n j, .bp n' j'=>bF n n'&&bF j j'| .rp n _ j, .rp n' _ j'=>bF n n'&&bF j j'
 | .sp e _ _ j, .sp e' _ _ j'=>bF e e'&&bF j j'| .inn n _ j, .inn n' _ j'=>bF n n'&&bF j j'
 | .ip n _ j _ q, .ip n' _ j' _ q'=>bF n n'&&bF j j'&&bF q q'| .fn f c, .fn f' c'=>bF f f'&&F8 c c'| .fp c j, .fp c' j'=>bF j j'&&Ib c c'
 |_,_=>ak
def fAV(s:AV)(l:az gP):AV×az gP:=
 match s with
 | .i k _=>(.i k (gI l),l.tail)| .b _=>(.b (gB l),l.tail)| .s _=>(.s (gS l),l.tail)| .sh e _=>(.sh e (gR l),l.tail)
 | .vw n _ _=>(.vw n (gN l) (gN l.tail),l.tail.tail)| .rp n _ j=>(.rp n (gN l) j,l.tail)| .sp e _ _ j=>(.sp e (gR l) (gN l.tail) j,l.tail.tail)
 | .inn n _ j=>(.inn n (gN l) j,l.tail)| .ip n _ j _ q=>(.ip n (gN l) j (gN l.tail) q,l.tail.tail)| .fn f c=>(.fn f (Aw c l).1,(Aw c l).2)| .fp c j=>(.fp (zI c l).1 j,(zI c l).2)
 |a=>(a,l)
def PK:az AV->az gP|[]=>[]|a::r=>hAV a++PK r
def Mm:az AV->az AV->aU|[],[]=>ai|a::r,b::t=>sAV a b&&Mm r t|_,_=>ak
def CG:az AV->az gP->az AV×az gP
 |[],l=>([],l)|a::r,l=>((fAV a l).1::(CG r (fAV a l).2).1,(CG r (fAV a l).2).2)
def X0(a b:aU):aU:=bif a then b else !b
def Ya:az (aU×az AV)->az gP|[]=>[]|(_,xs)::r=>PK xs++Ya r
def VD:az (aU×az AV)->az (aU×az AV)->aU
 |[],[]=>ai|(g,xs)::r,(g',ys)::t=>X0 g g'&&Mm xs ys&&VD r t|_,_=>ak
def PC:az (aU×az AV)->az gP->az (aU×az AV)×az gP
 |[],l=>([],l)|(g,xs)::r,l=>((g,(CG xs l).1)::(PC r (CG xs l).2).1,(PC r (CG xs l).2).2)
def PM:eP->az gP
 | .v (.v _ xs)=>PK xs| .v (.kq l)=>Ya l| .o (.box xs)=>PK xs| .o (.oe cs)=>JC cs| .o (.row _ _ xs)=>[.R xs]| .o (.fW _ xs)=>[.R xs]|_=>[]
def aaj:eP->eP->aU
 | .v (.v g xs), .v (.v g' ys)=>X0 g g'&&Mm xs ys| .v (.kq l), .v (.kq r)=>VD l r| .v .un, .v .un=>ai
 | .o (.box xs), .o (.box ys)=>Mm xs ys| .o (.oe c), .o (.oe c')=>Ib c c'| .o (.row e x _), .o (.row e' x' _)=>bF e e'&&X0 x x'| .o (.fW e _), .o (.fW e' _)=>bF e e'
 | .o .dead, .o .dead=>ai| .j9, .j9=>ai|_,_=>ak
def Lq(c:eP)(l:az gP):eP×az gP:=
 match c with
 | .v (.v g xs)=>(.v (.v g (CG xs l).1),(CG xs l).2)| .v (.kq r)=>(.v (.kq (PC r l).1),(PC r l).2)
 | .o (.box xs)=>(.o (.box (CG xs l).1),(CG xs l).2)| .o (.oe c)=>(.o (.oe (zI c l).1),(zI c l).2)| .o (.row e x _)=>(.o (.row e x (gR l)),l.tail)| .o (.fW e _)=>(.o (.fW e (gR l)),l.tail)
 |c=>(c,l)
def JN:az (aE×eP)->az gP|[]=>[]|(_,c)::r=>PM c++JN r
def z8:az (aE×eP)->az (aE×eP)->aU
 |[],[]=>ai|(k,c)::r,(k',c')::t=>bF k k'&&aaj c c'&&z8 r t|_,_=>ak
def NN:az (aE×eP)->az gP->az (aE×eP)
 |[],_=>[]|(k,c)::r,l=>(k,(Lq c l).1)::NN r (Lq c l).2
theorem CE{a b:aU}(h:X0 a b=ai):a=b:=by cases a<;>cases b<;>first|rfl|cases h
theorem afw{s a:AV}(h:sAV s a=ai)(l:az gP):fAV s (hAV a++l)=(a,l):=by
 match s,a,h with
 | .fn f c, .fn f' c',h=>simp only[sAV,aM]at h;have h1:=aW h.1;subst h1;simp only[fAV,hAV,CH h.2]
 | .fp c j, .fp c' j',h=>simp only[sAV,aM]at h;have h1:=aW h.1;subst h1;simp only[fAV,hAV,xM h.2]
 | .i k _, .i k' _,h=>have h1:=cq (show decide (k=k')=ai from h);subst h1;rfl
 | .b _, .b _,_=>rfl
 | .s _, .s _,_=>rfl
 | .sh e _, .sh e' _,h=>have h1:=aW (show bF e e'=ai from h);subst h1;rfl
 | .nl, .nl,_=>rfl
 | .own n, .own n',h=>have h1:=aW (show bF n n'=ai from h);subst h1;rfl
 | .vw n _ _, .vw n' _ _,h=>have h1:=aW (show bF n n'=ai from h);subst h1;rfl
 | .bp n j, .bp n' j',h=>simp only[sAV,aM]at h;have h1:=aW h.1;have h2:=aW h.2;subst h1;subst h2;rfl
 | .rp n _ j, .rp n' _ j',h=>simp only[sAV,aM]at h;have h1:=aW h.1;have h2:=aW h.2;subst h1;subst h2;rfl
 | .sp n _ _ j, .sp n' _ _ j',h=>simp only[sAV,aM]at h;have h1:=aW h.1;have h2:=aW h.2;subst h1;subst h2;rfl
 | .inn n _ j, .inn n' _ j',h=>simp only[sAV,aM]at h;have h1:=aW h.1;have h2:=aW h.2;subst h1;subst h2;rfl
 | .ip n _ j _ q, .ip n' _ j' _ q',h=>simp only[sAV,aM]at h;have h1:=aW h.1.1;have h2:=aW h.1.2;have h3:=aW h.2;subst h1;subst h2;subst h3;rfl
theorem BF:∀{s a:az AV},Mm s a=ai->∀l,CG s (PK a++l)=(a,l)
 |[],[],_,l=>rfl
 |s::ss,a::as,h,l=>by
  simp only[Mm,aM]at h;simp only[CG,PK,cy,afw h.1,BF h.2]
 |[],_::_,h,_=>by cases h
 |_::_,[],h,_=>by cases h
theorem NL:∀{s a:az (aU×az AV)},VD s a=ai->∀l,PC s (Ya a++l)=(a,l)
 |[],[],_,l=>rfl
 |(g,xs)::ss,(g',ys)::as,h,l=>by
  simp only[VD,aM]at h;obtain⟨⟨h1,h2⟩,h3⟩:=h;have h1:=CE h1;subst h1;simp only[PC,Ya,cy,BF h2,NL h3]
 |[],_::_,h,_=>by cases h
 |_::_,[],h,_=>by cases h
theorem X5{s c:eP}(h:aaj s c=ai)(l:az gP):Lq s (PM c++l)=(c,l):=by
 match s,c,h with
 | .v (.v g xs), .v (.v g' ys),h=>simp only[aaj,aM]at h;have h1:=CE h.1;subst h1;simp only[Lq,PM,BF h.2]
 | .v (.kq r), .v (.kq r'),h=>simp only[Lq,PM,NL (show VD r r'=ai from h)]
 | .v .un, .v .un,_=>rfl
 | .o (.box xs), .o (.box ys),h=>simp only[Lq,PM,BF (show Mm xs ys=ai from h)]
 | .o (.oe c), .o (.oe c'),h=>simp only[Lq,PM,xM (show Ib c c'=ai from h)]
 | .o (.row e x _), .o (.row e' x' _),h=>simp only[aaj,aM]at h;have h1:=CE h.2;have h2:=aW h.1;subst h1;subst h2;rfl
 | .o (.fW e _), .o (.fW e' _),h=>have h2:=aW h;subst h2;rfl
 | .o .dead, .o .dead,_=>rfl
 | .j9, .j9,_=>rfl
theorem Jw:∀{S L:az (aE×eP)},z8 S L=ai->NN S (JN L)=L
 |[],[],_=>rfl
 |(k,s)::S,(k',c)::L,h=>by
  simp only[z8,aM]at h;obtain⟨⟨h1,h2⟩,h3⟩:=h;have h1:=aW h1;subst h1;simp only[NN,JN,X5 h2,Jw h3]
 |[],_::_,h=>by cases h
 |_::_,[],h=>by cases h
def tell{R:Type}(S:az (aE×eP))(H:az gP->aA R)(L:az (aE×eP))(other:aA R):aA R:=bif z8 S L then H (JN L)else other
def Ua:az (aE×az aE)->aE->az aE
 |[],_=>[]|(k,l)::r,n=>bif bF n k then l else Ua r n
def amM:az (aE×aE×Om)->aE->aE->Om
 |[],_,_=> .nat|(q,j,o)::r,n,m=>bif bF n q&&bF m j then o else amM r n m
def Uv:az (aE×aE)->aE->aE->aU
 |[],_,_=>ak|(f,p)::r,n,m=>(bF n f&&bF m p)||Uv r n m
def amR:az (aE×aE)->aE->aA aE
 |[],_=>aj|(k,e)::r,n=>bif bF n k then ah e else amR r n
theorem bw{p:Code->Prop}:∀c∈([]:az Code),p c:=λc h=>by cases h
theorem bm{p:Code->Prop}{c:Code}{l:az Code}(h:p c)(hl:∀d∈l,p d):∀d∈c::l,p d:=λd hd=>by
 rcases cB.1 hd with rfl|hd
 ·exact h
 ·exact hl d hd
def qp:az (aE×(az fa->aA (aU×dq)))->aE->az fa->aA (aU×dq)
 |[],_,_=>aj
 |(k,s)::r,g,a=>bif bF g k then(match s a with|some x=>ah x|none=>qp r g a)else qp r g a
theorem aX{P:cZ}{T:Tab}:∀g,lY P T g (qp [] g):=λg=>PE λ_=>rfl
theorem aF{P:cZ}{T:Tab}{k:aE}{s:az fa->aA (aU×dq)}{L:az (aE×(az fa->aA (aU×dq)))}(h:lY P T k s)(hl:∀g,lY P T g (qp L g)):∀g,lY P T g (qp ((k,s)::L) g):=by
 intro g;cases hb:bF g k with
 |true=>
  have:=aW hb;subst this;intro args r hr;unfold qp at hr;rw[hb,au]at hr;cases hs:s args with
  |some x=>rw[hs]at hr;exact h args r (hs.trans hr)
  |none=>rw[hs]at hr;exact hl g args r hr
 |false=>
  have e:qp ((k,s)::L) g=qp L g:=by funext a;simp only[qp,hb,aw]
  rw[e];exact hl g
def W_(T:Tab)(md:az (aE×aE))(cs:az (aE×(az fa->aA (aU×dq))))(ks:az (aE×az aE))(tk:az aE)(om:az (aE×aE×Om)):fT:={toTab:=T,call:=qp cs,mode:=Uv md,keep:=Ua ks,tk:=λn=>mS n tk,om:=amM om}
end Go.FG

namespace Go.FG
theorem Mx{T:Tab}{t:aE}{ts:az aE}{sj:az (az CV)}(h:pc T (t::ts) sj):∃ys an3,sj=ys::an3/\(∃ti,T.ty t=ah ti/\ys.map CV.kd=ti.ks)/\(∀y∈ys,rB T y)/\pc T ts an3:=by
 cases sj with
 |nil=>exact h.elim
 |cons ys sj=>exact⟨ys,sj,rfl,h.1,h.2.1,h.2.2⟩
theorem QF{T:Tab}{sj:az (az CV)}(h:pc T [] sj):sj=[]:=by
 cases sj with
 |nil=>rfl
 |cons=>exact h.elim
theorem YD{T:Tab}{k:Ck}{ks:az Ck}{ys:az CV}(h:ys.map CV.kd=k::ks)(hf:∀y∈ys,rB T y):∃y DT,ys=y::DT/\y.kd=k/\rB T y/\DT.map CV.kd=ks/\∀y∈DT,rB T y:=by
 cases ys with
 |nil=>cases h
 |cons y ys=>rw[fw,List.cons.injEq]at h;exact⟨y,ys,rfl,h.1,hf y (dv ..),h.2,λz hz=>hf z (c7 _ hz)⟩
theorem agl{ys:az CV}(h:ys.map CV.kd=[]):ys=[]:=by simpa using h
theorem awq{T:Tab}{e:aE}{y:CV}(h:y.kd= .l e)(hf:rB T y):∃xs,y= .l e xs/\rB T (.l e xs):=by cases y<;>simp[CV.kd]at h;subst h;exact⟨_,rfl,hf⟩
theorem iG{x:ax}(h1: -9223372036854775808<=x)(h2:x<=9223372036854775807):bG x=x:=by
 have e:bG x=if(decide (x%18446744073709551616≥9223372036854775808))=ai then x%18446744073709551616-18446744073709551616 else x%18446744073709551616:=rfl
 rw[e];by_cases h:x%18446744073709551616≥9223372036854775808
 ·rw[bA (aG h)];omega
 ·rw[bJ (by simpa using h)];omega
end Go.FG

namespace Go.FG
inductive Ho where|I|B|S|R|N
abbrev den:Ho->Type
 | .I=>ax| .B=>aU| .S=>aq| .R=>aQ| .N=>aE
abbrev Fn:az Ho->Type->Type
 |[],A=>A|h::s,A=>den h->Fn s A
abbrev Tu:az Ho->Type
 |[]=>Unit|h::s=>den h×Tu s
abbrev Pr:az Ho->Type
 |[]=>Unit|[h]=>den h|h::s=>den h×Pr s
def df:(h:Ho)->den h
 | .I=>(0:ax)| .B=>ak| .S=>(⟨#[]⟩:aq)| .R=>([]:aQ)| .N=>(0:aE)
def lf:(h:Ho)->den h->gP
 | .I,x=> .I x| .B,x=> .B x| .S,x=> .S x| .R,x=> .R x| .N,x=> .N x
def ap{A:Type}:(s:az Ho)->Fn s A->Tu s->A
 |[],f,_=>f|_::s,f,x=>ap s (f x.1) x.2
def cmp{A B:Type}:(s:az Ho)->Fn s A->(A->B)->Fn s B
 |[],f,g=>g f|_::s,f,g=>λy=>cmp s (f y) g
def NF{A:Type}:(s:az Ho)->Fn s A->A
 |[],f=>f|h::s,f=>NF s (f (df h))
def lv:(s:az Ho)->Tu s->az gP
 |[],_=>[]|h::s,x=>lf h x.1::lv s x.2
def XJ{A:Type}:(s:az Ho)->Fn s (aA A)->az gP->aA A
 |[],f,[]=>f
 | .I::s,f, .I x::l=>XJ s (f x) l| .B::s,f, .B x::l=>XJ s (f x) l| .S::s,f, .S x::l=>XJ s (f x) l
 | .R::s,f, .R x::l=>XJ s (f x) l| .N::s,f, .N x::l=>XJ s (f x) l
 |_,_,_=>aj
def kq:(s:az Ho)->Fn s (Pr s)
 |[]=>()|[_]=>λx=>x|_::h::s=>λx=>cmp (h::s) (kq (h::s)) λp=>(x,p)
def apP{A:Type}:(s:az Ho)->Fn s A->Pr s->A
 |[],f,_=>f|[_],f,p=>f p|_::h::s,f,p=>apP (h::s) (f p.1) p.2
theorem Co{A:Type}{s:az Ho}{f:Fn s (aA A)}{l:az gP}{a:A}(h:XJ s f l=ah a):∃x,l=lv s x/\ap s f x=ah a:=by
 induction s generalizing l with
 |nil=>cases l with
  |nil=>exact⟨(),rfl,h⟩
  |cons=>cases h
 |cons k s ih=>
  cases l with
  |nil=>cases k<;>cases h
  |cons y l=>cases k<;>cases y<;>first|(obtain⟨x,rfl,hx⟩:=ih h;exact⟨(_,x),rfl,hx⟩)|cases h
theorem Cp{A B:Type}{s:az Ho}(f:Fn s A)(g:A->B)(x:Tu s):ap s (cmp s f g) x=g (ap s f x):=by
 induction s with
 |nil=>rfl
 |cons k s ih=>exact ih _ _
theorem afc{A:Type}{s:az Ho}{f g:Fn s A}(h:∀x,ap s f x=ap s g x):f=g:=by
 induction s with
 |nil=>exact h ()
 |cons k s ih=>exact funext λy=>ih λx=>h (y,x)
theorem XK{A:Type}{s:az Ho}(f:Fn s A)(x:Tu s):apP s f (ap s (kq s) x)=ap s f x:=by
 induction s with
 |nil=>rfl
 |cons k s ih=>
  cases s with
  |nil=>rfl
  |cons h s=>exact(lV (apP (k::h::s) f) (Cp ..)).trans (ih ..)
def hAA:AA->az gP
 | .i _ n=>[.I n]| .b x=>[.B x]| .s x=>[.S x]| .sh _ xs=>[.R xs]| .ow _ _ xs=>[.R xs]| .kp xs=>[.R xs]| .fn _ c=>FD c| .nl=>[]
def sAA:AA->AA->aU
 | .i k _, .i k' _=>decide (k=k')| .b _, .b _=>ai| .s _, .s _=>ai| .sh e _, .sh e' _=>bF e e'| .ow e x _, .ow e' x' _=>bF e e'&&X0 x x'
 | .kp _, .kp _=>ai| .fn f c, .fn f' c'=>bF f f'&&F8 c c'| .nl, .nl=>ai|_,_=>ak
def fAA(s:AA)(l:az gP):AA×az gP:=
 match s with
 | .i k _=>(.i k (gI l),l.tail)| .b _=>(.b (gB l),l.tail)| .s _=>(.s (gS l),l.tail)| .sh e _=>(.sh e (gR l),l.tail)| .ow e x _=>(.ow e x (gR l),l.tail)
 | .kp _=>(.kp (gR l),l.tail)| .fn f c=>(.fn f (Aw c l).1,(Aw c l).2)| .nl=>(.nl,l)
def LB:az AA->az gP|[]=>[]|a::r=>hAA a++LB r
def Ml:az AA->az AA->aU|[],[]=>ai|a::r,b::t=>sAA a b&&Ml r t|_,_=>ak
def Ju:az AA->az gP->az AA×az gP
 |[],l=>([],l)|a::r,l=>((fAA a l).1::(Ju r (fAA a l).2).1,(Ju r (fAA a l).2).2)
def LC:fa->az gP
 | .v _ xs=>LB xs| .pt xs=>LB xs| .fb xs=>JC xs
def QA:fa->fa->aU
 | .v g xs, .v g' ys=>X0 g g'&&Ml xs ys| .pt xs, .pt ys=>Ml xs ys| .fb xs, .fb ys=>Ib xs ys|_,_=>ak
def Lp(s:fa)(l:az gP):fa×az gP:=
 match s with
 | .v g xs=>(.v g (Ju xs l).1,(Ju xs l).2)| .pt xs=>(.pt (Ju xs l).1,(Ju xs l).2)| .fb xs=>(.fb (zI xs l).1,(zI xs l).2)
def hAr:az fa->az gP|[]=>[]|a::r=>LC a++hAr r
def sAr:az fa->az fa->aU|[],[]=>ai|a::r,b::t=>QA a b&&sAr r t|_,_=>ak
def X3:az fa->az gP->az fa×az gP
 |[],l=>([],l)|a::r,l=>((Lp a l).1::(X3 r (Lp a l).2).1,(X3 r (Lp a l).2).2)
def Kb(l:az (az AA)):az fa:=l.map (.v ai)
theorem afv{s a:AA}(h:sAA s a=ai)(l:az gP):fAA s (hAA a++l)=(a,l):=by
 cases s<;>cases a<;>simp only[sAA,bh,dx,Nat.beq_eq,aM]at h<;>first|exact h.elim|skip
 all_goals first|rfl|(subst h;rfl)|(obtain⟨rfl,h⟩:=h;first|(obtain rfl:=CE h;rfl)|(simp only[fAA,hAA,CH h]))
theorem Hs:∀{s a:az AA},Ml s a=ai->∀l,Ju s (LB a++l)=(a,l)
 |[],[],_,l=>rfl
 |s::ss,a::as,h,l=>by
  simp only[Ml,aM]at h;simp only[Ju,LB,cy,afv h.1,Hs h.2]
theorem X4{s a:fa}(h:QA s a=ai)(l:az gP):Lp s (LC a++l)=(a,l):=by
 cases s<;>cases a<;>simp only[QA,dx,aM]at h
 ·obtain⟨h1,h⟩:=h;obtain rfl:=CE h1;simp only[Lp,LC,Hs h]
 ·simp only[Lp,LC,Hs h]
 ·simp only[Lp,LC,xM h]
theorem Ln:∀{s a:az fa},sAr s a=ai->∀l,X3 s (hAr a++l)=(a,l)
 |[],[],_,l=>rfl
 |s::ss,a::as,h,l=>by
  simp only[sAr,aM]at h;simp only[X3,hAr,cy,X4 h.1,Ln h.2]
theorem Th{s a:az fa}(h:sAr s a=ai):(X3 s (hAr a)).1=a:=by have:=Ln h [];rw[dj]at this;rw[this]
def xAA{B:Type}(s a:AA)(k:az gP->aA B):aA B:=
 match s,a with
 | .i k1 _, .i k2 n=>bif decide (k1=k2)then k [.I n]else aj
 | .b _, .b n=>k [.B n]
 | .s _, .s n=>k [.S n]
 | .sh e _, .sh e' n=>bif bF e e' then k [.R n]else aj
 | .ow e x _, .ow e' x' n=>bif bF e e'&&X0 x x' then k [.R n]else aj
 | .kp _, .kp n=>k [.R n]
 | .fn f c, .fn f' c'=>bif bF f f'&&F8 c c' then k (FD c')else aj
 | .nl, .nl=>k []
 |_,_=>aj
def Wy{B:Type}:az AA->az AA->(az gP->aA B)->aA B
 |[],[],k=>k []|s::ss,a::as,k=>xAA s a λl=>Wy ss as λr=>k (l++r)|_,_,_=>aj
def ahS{B:Type}(s a:fa)(k:az gP->aA B):aA B:=
 match s,a with
 | .v g xs, .v g' ys=>bif X0 g g' then Wy xs ys k else aj
 | .pt xs, .pt ys=>Wy xs ys k
 | .fb xs, .fb ys=>bif Ib xs ys then k (JC ys)else aj
 |_,_=>aj
def xAr{B:Type}:az fa->az fa->(az gP->aA B)->aA B
 |[],[],k=>k []|s::ss,a::as,k=>ahS s a λl=>xAr ss as λr=>k (l++r)|_,_,_=>aj
theorem ahR{B:Type}(s a:AA)(k:az gP->aA B):xAA s a k=bif sAA s a then k (hAA a)else none:=by cases s<;>cases a<;>rfl
theorem O3{B:Type}:∀(s a:az AA) (k:az gP->aA B),Wy s a k=bif Ml s a then k (LB a)else aj
 |[],[],_=>rfl
 |s::ss,a::as,k=>by
  simp only[Wy,ahR,O3 ss as,Ml,LB];cases sAA s a<;>rfl
 |[],_::_,_=>rfl
 |_::_,[],_=>rfl
theorem aay{B:Type}(s a:fa)(k:az gP->aA B):ahS s a k=bif QA s a then k (LC a)else none:=by
 cases s<;>cases a<;>simp only[ahS,QA,LC,O3]<;>try rfl
 rename_i g xs g' ys;cases X0 g g'<;>rfl
theorem Iq{B:Type}:∀(s a:az fa) (k:az gP->aA B),xAr s a k=bif sAr s a then k (hAr a)else aj
 |[],[],_=>rfl
 |s::ss,a::as,k=>by
  simp only[xAr,aay,Iq ss as,sAr,hAr];cases QA s a<;>rfl
 |[],_::_,_=>rfl
 |_::_,[],_=>rfl
def aeF{A:Type}(s:az Ho)(T:Fn s (az fa))(f:Fn s (aA A))(a:az fa):aA A:=xAr (NF s T) a (XJ s f)
def ah2(s t:az Ho)(k:Fn t dq)(c:Fn s aU)(v:Fn s (Pr t)):Fn s (aA (aU×dq)):=
 match s with
 |[]=>ah (c,apP t k v)
 |_::s=>λx=>ah2 s t k (c x) (v x)
theorem aaD{s t:az Ho}{k:Fn t dq}{c:Fn s aU}{v:Fn s (Pr t)}(x:Tu s):ap s (ah2 s t k c v) x=ah (ap s c x,apP t k (ap s v x)):=by
 induction s with
 |nil=>rfl
 |cons h s ih=>exact ih _
def dP{s t:az Ho}(A:Fn s (az fa))(k:Fn t dq)(c:Fn s aU)(v:Fn s (Pr t)):az fa->aA (aU×dq):=aeF s A (ah2 s t k c v)
def XT{t:az Ho}(k:Fn t dq)(r:dq):aA (Pr t):=
 xAr (NF t k).rs r.rs λl=>xAr (Kb (NF t k).outs) (Kb r.outs) λm=>XJ t (cmp t (kq t) ah) (l++m)
def okA{s:az Ho}(A:Fn s (az fa)):Prop:=∀x,(X3 (NF s A) (lv s x)).1=ap s A x
def okK{t:az Ho}(k:Fn t dq):Prop:=∀x,(⟨(X3 (NF t k).rs (lv t x)).1,(X3 (Kb (NF t k).outs) (X3 (NF t k).rs (lv t x)).2).1⟩:az fa×az fa)=⟨(ap t k x).rs,Kb (ap t k x).outs⟩
def okT{s:az Ho}(T:Fn s (az (aE×eP))):Prop:=∀x,NN (NF s T) (lv s x)=ap s T x
theorem Kc:∀{a b:az (az AA)},Kb a=Kb b->a=b
 |[],[],_=>rfl
 |_::_,_::_,h=>by
  obtain⟨h1,h2⟩:=kC h;obtain⟨_,rfl⟩:=fa.v.inj h1;rw[Kc h2]
 |[],_::_,h=>by cases h
 |_::_,[],h=>by cases h
theorem Pw{t:az Ho}{k:Fn t dq}(hk:okK k){r:dq}{p:Pr t}(h:XT k r=ah p):r=apP t k p:=by
 unfold XT at h;rw[Iq]at h;cases hb:sAr (NF t k).rs r.rs with
 |false=>rw[hb]at h;cases h
 |true=>
  rw[hb,au,Iq]at h;cases hc:sAr (Kb (NF t k).outs) (Kb r.outs)with
  |false=>rw[hc]at h;cases h
  |true=>rw[hc,au]at h;obtain⟨x,h1,h2⟩:=Co h;rw[Cp]at h2;obtain rfl:=aJ h2;rw[XK];have hx:=hk x;rw[<-h1,Ln hb,Th hc]at hx;obtain⟨e1,e2⟩:=bY hx;have e3:=Kc e2;cases r;cases hr:ap t k x;rw[hr]at e1 e3;cases e1;cases e3;rfl
theorem Kw{s t:az Ho}{A:Fn s (az fa)}(hA:okA A){k:Fn t dq}{c:Fn s aU}{v:Fn s (Pr t)}{args:az fa}{r:aU×dq}(h:dP A k c v args=ah r):∃x,args=ap s A x/\r=(ap s c x,apP t k (ap s v x)):=by
 unfold dP aeF at h;rw[Iq]at h;cases hb:sAr (NF s A) args with
 |false=>rw[hb]at h;cases h
 |true=>rw[hb,au]at h;obtain⟨x,h1,h2⟩:=Co h;rw[aaD]at h2;exact⟨x,by rw[<-hA x,<-h1,Th hb],(aJ h2).symm⟩
def Ct{t:az Ho}(E:fT)(it:It (Pr t))(F:Func)(k:Fn t dq)(args:az fa):aA (Pr t):=
 match F.body with
 |some c=>tF E it c (inj args) λe σ=>(fin E F args e σ).bind (XT k)
 |none=>aj
def Jj(F:Func)(A:az fa):aU:=
 (match F.body with|some c=> !(F.name== "runtime.NumGoroutine")&&tD F.ntmps c|none=>ak)&&z_ A&&fJ A.length F.ntmps
theorem flh{P:cZ}{E:fT}(hE:eA P E)(hm:P.follows .mixedOrders=ai)(hF:∀g,lY P E g (E.call g)){g:aE}{F:Func}(hf:P.funcs[g]? =ah F){s t:az Ho}{A:Fn s (az fa)}{k:Fn t dq}{it:aE->It (Pr t)}
  (hc:∀x,Jj F (ap s A x)=ai) {l:az Code} (hl:jZ (F.body.getD .skip)=l) (CR:∀N,∀c∈l,bZ E (it N) c) (hA:okA A) (hk:okK k)
  {c:Fn s aU} {v:Fn s (Pr t)} (h:∀x,xP (ap s A x)->ap s c x=ai->∃N,Ct E (it N) F k (ap s A x)=ah (ap s v x)):lY P E g (dP A k c v):=by
 intro args r hr;obtain⟨x,rfl,_⟩:=Kw hA hr;have hx:=hc x;unfold Jj at hx;cases hb:F.body with
 |none=>rw[hb]at hx;cases hx
 |some code=>
  rw[hb]at hl hx;have hl:jZ code=l:=hl;simp only[aM,dp]at hx;refine afA hE hF hm hf hb (by rw[hx.1.1.1,hx.1.1.2];rfl) (λargs r hr=> ?_) _ r hr;obtain⟨x,rfl,hq⟩:=Kw hA hr;obtain⟨h1,rfl⟩:=bY hq;have hx:=hc x;unfold Jj at hx;simp only[aM]at hx;refine⟨hx.1.2,λhf=> ?_⟩
  obtain⟨N,h⟩:=h x hf h1.symm;refine⟨cM hx.2,Pr t,it N,λe σ=>(fin E F (ap s A x) e σ).bind (XT k),ap s v x,by rw[hl];exact CR N, ?_,λe σ he=> ?_⟩
  ·unfold Ct at h;rw[hb]at h;exact h
  ·obtain⟨r,hr,hd⟩:=Option.bind_eq_some_iff.1 he;rw[hr,Pw hk hd]
theorem afd{s t:az Ho}{c:Fn s aU}{v:Fn s (Pr t)}{w:Fn s (aA (Pr t))}{d:Pr t}(hc:cmp s w nL=c)(hv:cmp s w (λo=>o.getD d)=v)(x:Tu s)(h:ap s c x=ai):ap s w x=ah (ap s v x):=by
 subst hc hv;rw[Cp]at h;rw[Cp];cases hw:ap s w x with
 |none=>rw[hw]at h;cases h
 |some y=>rfl
theorem fl{P:cZ}{E:fT}(hE:eA P E)(hm:P.follows .mixedOrders=ai)(hF:∀g,lY P E g (E.call g)){g:aE}{F:Func}(hf:P.funcs[g]? =ah F){s t:az Ho}{A:Fn s (az fa)}{k:Fn t dq}{it:aE->It (Pr t)}
  (hc:∀x,Jj F (ap s A x)=ai) {l:az Code} (hl:jZ (F.body.getD .skip)=l) (CR:∀N,∀c∈l,bZ E (it N) c) (hA:okA A) (hk:okK k)
  {c:Fn s aU} {v:Fn s (Pr t)} {w:aE->Fn s (aA (Pr t))} {u:Fn s (aA (Pr t))} {d:Pr t} (N:aE) (h:∀N x,Ct E (it N) F k (ap s A x)=ap s (w N) x) (hw:w N=u) (h1:cmp s u nL=c) (h2:cmp s u (λo=>o.getD d)=v):lY P E g (dP A k c v):=
 flh hE hm hF hf hc hl CR hA hk λx _ hx=>⟨N,(h N x).trans (by rw[hw];exact afd h1 h2 x hx)⟩
def ct:(s:az Ho)->Fn s aU
 |[]=>ai|_::s=>λ_=>ct s
abbrev Kt(R:Type):=Ex->St->aA R
abbrev Tb:=az (aE×eP)
def J{R:Type}{s:az Ho}(T:Fn s Tb)(e:Ex)(K:Kt R):Fn s (aA R):=cmp s T λt=>K e (fM t)
def al{R:Type}{s:az Ho}(T:Fn s Tb)(f:Kt R->Fn s (aA R))(o:Tb->Kt R->aA R):Tb->Kt R->aA R:=λL K=>bif z8 (NF s T) L then XJ s (f K) (JN L)else o L K
def an{R:Type}:Tb->Kt R->aA R:=λ_ _=>aj
def lp{R:Type}(n:aE)(a:Tb->Kt R->aA R)(o:It R):It R:=λoj f cn L K=>bif bF oj n then a L K else o oj f cn L K
def ln{R:Type}:It R:=λ_ _ _ _ _=>aj
theorem XH{R:Type}{s:az Ho}{T:Fn s Tb}(hT:okT T){f:Kt R->Fn s (aA R)}{o:Tb->Kt R->aA R}{L:Tb}{K:Kt R}{r:R}(h:al T f o L K=ah r):(∃x,L=ap s T x/\ap s (f K) x=ah r)\/o L K=ah r:=by
 unfold al at h;cases hb:z8 (NF s T) L with
 |false=>rw[hb]at h;exact .inr h
 |true=>rw[hb]at h;obtain⟨x,h1,h2⟩:=Co h;exact .inl ⟨x,by rw[<-hT x,<-h1,Jw hb],h2⟩
section
variable {R:Type} {E:fT} {it:It R} {C:Code} {n:aE}
def Good(E:fT)(it:It R)(C:Code)(n:aE)(a:Tb->Kt R->aA R):Prop:=∀L K r,a L K=ah r->∃m,iter (tF E it C) (canon (E.AB n)) m (fM L) K=ah r
def Wd(E:fT)(it:It R)(C:Code)(n:aE)(K:Kt R){s:az Ho}(T:Fn s Tb)(l:aE->Fn s (aA R)):Prop:=∀m x,iter (tF E it C) (canon (E.AB n)) m (fM (ap s T x)) K=ap s (l m) x
theorem oT:Good E it C n an:=λ_ _ _ h=>by cases h
theorem NV{s:az Ho}{T:Fn s Tb}(hT:okT T){l:Kt R->aE->Fn s (aA R)}{N:aE}{o:Tb->Kt R->aA R}(h:∀K,Wd E it C n K T (l K))(ho:Good E it C n o):Good E it C n (al T (λK=>l K N) o):=by
 intro L K r hq;rcases XH hT hq with ⟨x,rfl,hx⟩|hq
 ·exact⟨N,(h K N x).trans hx⟩
 ·exact ho L K r hq
theorem lom(n:aE)(hr:gK C=n){a:Tb->Kt R->aA R}(hi:∀L K,it n (tF E it C) (canon (E.AB n)) L K=a L K)(h:Good E it C n a):bZ E it C:=by intro L K q;rw[hr,hi];exact h L K q
theorem wf{K:Kt R}{s:az Ho}{T:Fn s Tb}{l:aE->Fn s (aA R)}{m:aE}(h:∀x,iter (tF E it C) (canon (E.AB n)) m (fM (ap s T x)) K=ap s (l m) x):cmp s T (λt=>iter (tF E it C) (canon (E.AB n)) m (fM t) K)=l m:=
 afc λy=>by rw[Cp,h]
theorem wl{K:Kt R}{s:az Ho}{T:Fn s Tb}{l:aE->Fn s (aA R)}(r:(St->aA R)->Fn s (aA R))(h0:∀x,ap s (l 0) x=aj)
  (h1:∀m,(∀x,iter (tF E it C) (canon (E.AB n)) m (fM (ap s T x)) K=ap s (l m) x)->r (λσ=>iter (tF E it C) (canon (E.AB n)) m σ K)=l (m+1))
  (h:∀g x,tF E it C (fM (ap s T x)) (FK g (canon (E.AB n)) K)=ap s (r g) x):Wd E it C n K T l:=by
 intro m;induction m with
 |zero=>intro x;rw[h0];rfl
 |succ m ih=>intro x;rw[P5,h,h1 m ih]
theorem lo1(n:aE){s:az Ho}(T:Fn s Tb)(hr:gK C=n)(hT:okT T)(l:Kt R->aE->Fn s (aA R))(r:Kt R->Fn s (aA R)->Fn s (aA R)){N:aE}
  (hi:∀L K,it n (tF E it C) (canon (E.AB n)) L K=al T (λK=>l K N) an L K) (h0:∀K x,ap s (l K 0) x=aj) (h1:∀K n,l K (n+1)=r K (l K n))
  (h:∀K g x,tF E it C (fM (ap s T x)) (FK g (canon (E.AB n)) K)=ap s (r K (cmp s T λt=>g (fM t))) x):bZ E it C:=
 lom n hr hi (NV hT (λK=>wl (λg=>r K (cmp s T λt=>g (fM t))) (h0 K) (λm i=>by rw[h1];exact lV (r K) (wf i)) (h K)) oT)
end
end Go.FG

namespace Go.FG.Lib
def cJ:aE:=18446744073709551616
def lt{α β:Type}(a:α)(f:α->β):β:=f a
theorem c5{α:Type}{o:aA α}{x d:α}(h:o=ah x):nL o=ai/\Option.getD o d=x:=by rw[h];exact⟨rfl,rfl⟩
theorem some_{α:Type}{o:aA α}{d:α}(h:nL o=ai):o=ah (Option.getD o d):=by
 cases o with
 |none=>cases h
 |some x=>rfl
theorem fE{σ β:Type}(F:aE->σ->β)(mu:σ->aE)(inv:σ->Prop)(res:σ->β)
  (step:∀n s,inv s->F (n+1) s=res s\/∃s',inv s'/\mu s'<mu s/\res s'=res s/\F (n+1) s=F n s'):∀n s,inv s->mu s<n->F n s=res s:=by
 intro n;induction n with
 |zero=>intro s _ h;omega
 |succ n ih=>
  intro s hi hm;rcases step n s hi with h|⟨s',h1,h2,h3,h4⟩
  ·exact h
  ·rw[h4,<-h3];exact ih s' h1 (by omega)
theorem c6(i n:aE):decide ((i:ax)<(n:ax))=decide (i<n):=by rw[ca];omega
theorem cm(i:aE):decide (0<=(i:ax))=true:=by simp
theorem NI{i n:aE}(h:i<n):decide ((i:ax)<(n:ax))=true:=by simp;omega
theorem Tc{i n:aE}(h:¬i<n):decide ((i:ax)<(n:ax))=false:=by simp;omega
theorem dN(i:aE):aZ (i:ax)=i:=rfl
theorem cS{i n:aE}(h:i<n)(hn:n<=9223372036854775807):bG ((i:ax)+1)=((i+1:aE):ax):=by rw[iG (by omega) (by omega)];omega
theorem oS{xs:aQ}{i:aE}(h:i<xs.length):xs.getD i []=xs[i]:=by simp[kA,h]
theorem cK{xs:aQ}{i j:aE}(h:i<xs.length):ar xs i j=xs[i].getD j (.b ak):=by unfold ar;rw[oS h]
theorem jW(xs:aQ)(i j:aE)(ys:az CV):(eC xs i j ys).length=xs.length:=by unfold eC;simp
theorem rU(ks:az Ck)(n:aE):(aP ks n).length=n:=by unfold aP;simp
theorem ch{n b:aE}(h:n*b<=140737488355328)(h2:n<=9223372036854775807):cw n b=true:=by unfold cw;simp;omega
theorem BR{xs:aQ}{i j:aE}{ys:az CV}(h:i<xs.length):eC xs i j ys=xs.set i (iF xs[i] j ys):=by unfold eC;rw[oS h]
theorem eE{x:aQ}{i:aE}(h:i<x.length):x.drop i=x[i]::x.drop (i+1):=dC h
def up:ax->aE->ax|k,0=>k|k,n+1=>up (bG (k+1)) n
theorem MC{x:ax}(h:0<=x):bG x<=x:=by
 have e:bG x=if(decide (x%18446744073709551616≥9223372036854775808))=ai then x%18446744073709551616-18446744073709551616 else x%18446744073709551616:=rfl
 rw[e];split<;>omega
def vb(x:ax):aQ:=
 if x>127 then [CV.i bj (bH bj (bG (cF x 128+128)))]::vb (bG (cQ x 128))else [[CV.i bj (bH bj x)]]
termination_by x.toNat
decreasing_by
 rename_i h
 have h1:cQ x 128=x/128:=h_ (by omega)
 have h2:=MC (x:=cQ x 128) (by omega)
 omega
theorem wA{x:ax}(h:x>127):vb x=[CV.i bj (bH bj (bG (cF x 128+128)))]::vb (bG (cQ x 128)):=by rw[vb,bA h]
theorem ng{x:ax}(h:¬x>127):vb x=[[CV.i bj (bH bj x)]]:=by rw[vb,bJ h]
theorem H9{n:aE}(h:n<=140737488355328):cw n 1=true:=ch (by omega) (by omega)
theorem ja(y:az CV)(ks:az Ck):(aD (aP ks 1) 0 y)=[y]:=rfl
theorem OS{R:Type}(F:aE->ax->aQ->aA R)(k:aq->aA R)
  (h1:∀n x acc,x>127->acc.length<=100->F (n+1) x acc=F n (bG (cQ x 128)) (acc++[[CV.i bj (bH bj (bG (cF x 128+128)))]]))
  (h2:∀n x acc,¬x>127->acc.length<=100->F (n+1) x acc=k (bytesOf (acc++[[CV.i bj (bH bj x)]]))) (x:ax) (hx:x<=9223372036854775807):F (x.toNat+1) x []=k (bytesOf (vb x)):=by
 have:=fE (λn (s:ax×aQ)=>F n s.1 s.2) (λs=>s.1.toNat) (λs=>s.2.length<=100/\(1<=s.1->2^s.2.length*s.1<=9223372036854775808)) (λs=>k (bytesOf (s.2++vb s.1))) (λn s hs=>by
  obtain⟨x,acc⟩:=s;obtain⟨hl,hb⟩:=hs;dsimp only at hl hb⊢;by_cases h:x>127
  ·right;have e1:cQ x 128=x/128:=h_ (by omega);have hp:(1:ax)<=2^acc.length:=by
    have:(0:ax)<2^acc.length:=by exact Int.pow_pos (by omega)
    omega
   have hxb:x<=9223372036854775808:=by have h3:=hb (by omega);have:1*x<=2^acc.length*x:=DW hp (by omega);omega
   have e2:bG (cQ x 128)=x/128:=by rw[e1,iG (by omega) (by omega)]
   have h64:acc.length<64:=by
    rcases qY acc.length 64 with h5|h5
    ·exact h5
    ·exfalso;have h6:(2:ax)^64<=2^acc.length:=by have:=Nat.pow_le_pow_right (n:=2) (by omega) h5;exact_mod_cast this
     have h7:=hb (by omega);have h8:(2:ax)^acc.length*1<=2^acc.length*x:=Cb (by omega) (by omega);have:(2:ax)^64=18446744073709551616:=by decide
     omega
   refine⟨(bG (cQ x 128),acc++[[CV.i bj (bH bj (bG (cF x 128+128)))]]),⟨by simp;omega,λ_=> ?_⟩,by dsimp only;omega, ?_,h1 n x acc h hl⟩
   ·dsimp only;rw[e2,bU,bC,uZ];have h7:=hb (by omega);have h9:2*(x/128)<=x:=by omega
    have h8:(2:ax)^acc.length*(2*(x/128))<=2^acc.length*x:=Cb h9 (by omega);rw[Int.mul_assoc];omega
   ·dsimp only;rw[wA h,cy];rfl
  ·left;rw[ng h];exact h2 n x acc h hl) (x.toNat+1) (x,[]) ⟨by simp,λh=>by simp;omega⟩ (by dsimp only;omega)
 simpa using this
theorem Td{a b c:aE}{inst:Decidable (a+b<=c)}(h:a+b<=c): @decide (a+b<=c) inst=true:=aG h
theorem ahC:∀(n:aE) (x:ax),x<2^n->(vb x).length<=n+1:=by
 intro n;induction n with
 |zero=>intro x hx;rw[ng (by omega)];simp
 |succ n ih=>
  intro x hx;by_cases h:x>127
  ·have e1:cQ x 128=x/128:=h_ (by omega);have h2:=MC (x:=cQ x 128) (by omega);rw[wA h];have h3:bG (cQ x 128)<2^n:=by rw[uZ]at hx;omega
   have:=ih _ h3;simp;omega
  ·rw[ng h];simp
theorem iS(xs:aQ):(bytesOf xs).size=xs.length:=by unfold bytesOf;simp[eu]
theorem jP{x:ax}(h:x<=9223372036854775807):(bytesOf (vb x)).size<=64:=by
 rw[iS];exact ahC 63 x (by have:(2:ax)^63=9223372036854775808:=by decide
                           omega)
theorem km(a b:aq):(a++b).size=a.size+b.size:=dH
theorem qK(l:az IA):bW l l=true:=by
 induction l with
 |nil=>rfl
 |cons a l ih=>simp only[bW,ih,iL];exact beq_self_eq_true a
theorem Hj(s:aq)(i:aE):gU s i<256:=(s.data.getD i 0).toNat_lt
def rv(t:aq)(a:aE):aE->aE->ax->ax×ax×aU
 |0,_,_=>(0,0,ak)
 |f+1,j,n=>
  if a+j<t.size then
   (if(gU t (a+j):ax)>127 then rv t a f (j+1) (n+(gU t (a+j):ax)%128*128^j)
   else if(j>0/\gU t (a+j)=0)\/n+(gU t (a+j):ax)%128*128^j>1000000000 then(0,0,ak)
   else(n+(gU t (a+j):ax)%128*128^j,((a+j+1:aE):ax),ai))
  else(0,0,ak)
theorem tz{α:Type}{c:aU}{x y:α}(h:c=ai):(bif c then x else y)=x:=by rw[h];rfl
theorem SZ{α:Type}{c:aU}{x y:α}(h:c=ak):(bif c then x else y)=y:=by rw[h];rfl
theorem Ar{p:Prop}{inst:Decidable p}(h:p): @decide p inst=true:=aG h
theorem Jo{p:Prop}{inst:Decidable p}(h:¬p): @decide p inst=false:=aK h
def num(t:aq):aE->aE->ax
 |_,0=>0
 |a,k+1=>(gU t a:ax)%128+128*num t (a+1) k
theorem BO(t:aq):∀(k a:aE),0<=num t a k/\num t a k<128^k
 |0,a=>by simp[num]
 |k+1,a=>by
  have:=BO t k (a+1);simp only[num,uZ];omega
theorem x_(t:aq):∀(k a:aE),num t a (k+1)=num t a k+(gU t (a+k):ax)%128*128^k
 |0,a=>by simp[num]
 |k+1,a=>by
  rw[num,x_ t k (a+1),num,show a+1+k=a+(k+1)by omega,uZ];rw[Int.mul_add,<-Int.add_assoc];congr 1;rw[Int.mul_comm 128,Int.mul_assoc]
theorem Og(t:aq):∀(k a:aE),(gU t (a+k):ax)%128≠0->1<=num t a (k+1)
 |0,a,h=>by simp[num]at h⊢;omega
 |k+1,a,h=>by
  rw[num];have:=Og t k (a+1) (by rw[show a+1+k=a+(k+1)by omega];exact h);omega
theorem Wv(t:aq):∀(k a:aE),(∀i,i<k->128<=gU t (a+i))->gU t (a+k)<128->(k=0\/gU t (a+k)≠0)->num t a (k+1)<=9223372036854775807->vb (num t a (k+1))=(iV a (k+1)).map λi=>[CV.i bj (gU t i:ax)]
 |0,a,_,h2,_,_=>by
  have e:num t a 1=(gU t a:ax):=by simp[num]at h2⊢;omega
  simp only[yZ]at h2;rw[e,ng (by omega)];have hw:bH bj (gU t a:ax)=(gU t a:ax):=by show(gU t a:ax)%256=_;omega
  rw[hw];rfl
 |k+1,a,h1,h2,h3,h4=>by
  have hb:=Hj t a;have h0:=h1 0 (by omega);rw[yZ]at h0;have iz:gU t (a+(k+1))≠0:=by rcases h3 with h3|h3;(·omega);exact h3
  have ly:=Og t k (a+1) (by rw[show a+1+k=a+(k+1)by omega];omega);have e:num t a (k+1+1)=(gU t a:ax)%128+128*num t (a+1) (k+1):=rfl;rw[e]at h4⊢;have e1:cF ((gU t a:ax)%128+128*num t (a+1) (k+1)) 128=(gU t a:ax)%128:=by rw[im (by omega)];omega
  have e2:cQ ((gU t a:ax)%128+128*num t (a+1) (k+1)) 128=num t (a+1) (k+1):=by rw[h_ (by omega)];omega
  have e3:bG ((gU t a:ax)%128+128)=(gU t a:ax):=by rw[iG (by omega) (by omega)];omega
  have hw:bH bj (gU t a:ax)=(gU t a:ax):=by show(gU t a:ax)%256=_;omega
  rw[wA (by omega),e1,e2,e3,hw,iG (by omega) (by omega),Wv t k (a+1) (λi hi=>by rw[show a+1+i=a+(i+1)by omega];exact h1 (i+1) (by omega)) (by rw[show a+1+k=a+(k+1)by omega];exact h2) (by rw[show a+1+k=a+(k+1)by omega];exact .inr iz) (by omega)];rfl
theorem BW:∀(k:aE) (x:ax),x<128^(k+1)->(vb x).length<=k+1
 |0,x,h=>by rw[ng (by simp at h;omega)];simp
 |k+1,x,h=>by
  by_cases hx:x>127
  ·have e1:cQ x 128=x/128:=h_ (by omega);have h2:=MC (x:=cQ x 128) (by omega);rw[wA hx];have h3:bG (cQ x 128)<128^(k+1):=by rw[uZ]at h;omega
   have:=BW k _ h3;simp;omega
  ·rw[ng hx];simp
theorem Je{t:aq}{a m:aE}(h:a+m<=t.size):(bytesOf ((iV a m).map λi=>[CV.i bj (gU t i:ax)])).data.toList=(t.extract a (a+m)).data.toList:=by
 have h1:(bytesOf ((iV a m).map λi=>[CV.i bj (gU t i:ax)])).data.toList=(iV a m).map λi=>t.data.getD i 0:=by unfold bytesOf;simp[bE,gU]
 rw[h1];apply WN;intro i;have hs:t.size=t.data.size:=rfl;have N0:a+m<=t.data.size:=by rw[<-hs];exact h
 simp only[gk,iy,ia];by_cases hi:i<m
 ·have h3:a+i<t.data.size:=by omega
  rw[bL,List.getElem?_range' hi,d_,bA (by omega),dQ];simp only[ji,Nat.one_mul,cX,eK];rw[Array.getElem?_eq_getElem h3];rfl
 ·rw[lh (by simp;omega),lh (by simp;omega)]
theorem beq_iff{l r:az IA}:bW l r=ai↔l=r:=by
 constructor
 ·intro h;induction l generalizing r with
  |nil=>cases r with|nil=>rfl|cons=>cases h
  |cons a l ih=>
   cases r with
   |nil=>cases h
   |cons b r=>simp only[bW,aM]at h;rw[eq_of_beq h.1,ih h.2]
 ·rintro rfl;exact qK l
theorem canon(t:aq)(k a:aE)(h:a+(k+1)<=t.size)(h1:∀i,i<k->128<=gU t (a+i))(h2:gU t (a+k)<128)(h4:num t a (k+1)<=9223372036854775807):
  bW (bytesOf (vb (num t a (k+1)))).toList (t.extract a (a+(k+1))).toList= !decide (k>0/\gU t (a+k)=0):=by
 rw[kD,kD];by_cases hc:k>0/\gU t (a+k)=0
 ·rw[aG hc,aY];obtain⟨k',rfl⟩:∃k',k=k'+1:=⟨k-1,by omega⟩
  cases hb:bW (bytesOf (vb (num t a (k'+1+1)))).data.toList (t.extract a (a+(k'+1+1))).data.toList with
  |false=>rfl
  |true=>
   exfalso;have he:=lV bS (beq_iff.1 hb);have e:num t a (k'+1+1)=num t a (k'+1):=by rw[x_,hc.2];simp
   have hl:=BW k' (num t a (k'+1)) (BO t (k'+1) a).2;rw[e]at he;have h5:(bytesOf (vb (num t a (k'+1)))).data.toList.length=(vb (num t a (k'+1))).length:=iS _;have h6:(t.extract a (a+(k'+1+1))).data.toList.length=k'+1+1:=by show(t.extract a (a+(k'+1+1))).size=_;rw[yM];omega
   omega
 ·rw[aK hc,bP];have:=Wv t k a h1 h2 (by omega) h4;rw[this];exact beq_iff.2 (Je h)
theorem tw{a b:aq}(h:a.data.toList=b.data.toList):a=b:=by obtain⟨⟨a⟩⟩:=a;obtain⟨⟨b⟩⟩:=b;simp at h;rw[h]
theorem eN{a b:aq}:bW a.toList b.toList=decide (a=b):=by
 rw[kD,kD];by_cases h:a=b
 ·subst h;rw[aG rfl];exact qK _
 ·rw[aK h];cases hb:bW a.data.toList b.data.toList with
  |false=>rfl
  |true=>exact cL (tw (beq_iff.1 hb)) h
theorem adk(t:aq)(a:aE):∀(f j:aE) (n:ax) (m x:ax),rv t a f j n=(m,x,ai)->n=num t a j->(∀i,i<j->128<=gU t (a+i))->
  ∃k,x=((a+(k+1):aE):ax)/\a+(k+1)<=t.size/\0<=m/\m<=1000000000/\bytesOf (vb m)=t.extract a (a+(k+1))
 |0,j,n,m,x,h,_,_=>by simp[rv]at h
 |f+1,j,n,m,x,h,hn,hge=>by
  have hb:=Hj t (a+j);have Yn:n+(gU t (a+j):ax)%128*128^j=num t a (j+1):=by rw[x_,<-hn]
  simp only[rv]at h;by_cases gC:a+j<t.size
  ·rw[bA gC]at h;by_cases hc:(gU t (a+j):ax)>127
   ·rw[bA hc]at h;refine adk t a f (j+1) _ m x h Yn (λi hi=> ?_);by_cases PS:i<j
    ·exact hge i PS
    ·have:i=j:=by omega
     subst this;omega
   ·rw[bJ hc]at h;by_cases hz:(j>0/\gU t (a+j)=0)\/n+(gU t (a+j):ax)%128*128^j>1000000000
    ·rw[bA hz]at h;simp at h
    ·rw[bJ hz]at h;simp only[jj,and_true]at h;obtain⟨rfl,rfl⟩:=h;have hr:=BO t (j+1) a;rw[<-Yn]at hr;refine⟨j,by omega,by omega,hr.1,by omega, ?_⟩
     have:=canon t j a (by omega) hge (by omega) (by rw[<-Yn];omega);rw[eN,show decide (j>0/\gU t (a+j)=0)=ak from aK (λh=>hz (.inl h)),bP,<-Yn]at this;exact cq this
  ·rw[bJ gC]at h;simp at h
def er(t:aq)(gT:ax):ax×ax×aU:=if 0<=gT/\gT<=t.size then rv t gT.toNat 5 0 0 else(0,0,ak)
theorem j7{t:aq}{gT m x:ax}(h:er t gT=(m,x,ai)):0<=gT/\gT<x/\x<=t.size/\0<=m/\m<=1000000000/\bytesOf (vb m)=t.extract gT.toNat x.toNat:=by
 unfold er at h;by_cases hn:0<=gT/\gT<=t.size
 ·rw[bA hn]at h;obtain⟨k,h1,h2,h3,h4,h5⟩:=adk t gT.toNat 5 0 0 m x h rfl (λi hi=>by omega);exact⟨hn.1,by omega,by omega,h3,h4,by rw[h1];exact h5⟩
 ·rw[bJ hn]at h;simp at h
def hZ(t:aq)(gT:ax):aq×ax×aU:=
 match er t gT with
 |(n,x,ai)=>if n<=20000/\n<=t.size-x then(t.extract x.toNat (x+n).toNat,x+n,ai)else(⟨#[]⟩,0,ak)
 |_=>(⟨#[]⟩,0,ak)
theorem vD{R:Type}{t:aq}(ht:t.size<=4611686018427387904)(gT:ax)(kr:aq->ax->aU->aA R):
  (bif(!(er t gT).2.2)then(kr ({data:= #[]}) 0 ak)else(bif(decide ((er t gT).1>20000))then(kr ({data:= #[]}) 0 ak)else(bif(decide ((er t gT).1>bG ((↑(eu t):ax)-(er t gT).2.1)))then(kr ({data:= #[]}) 0 ak)else(bif(ic (er t gT).2.1 (bG ((er t gT).2.1+(er t gT).1)) (↑(eu t):ax))then(kr (bK t (aZ (er t gT).2.1) (aZ (bG ((er t gT).2.1+(er t gT).1)))) (bG ((er t gT).2.1+(er t gT).1)) ai)else(aj)))))=kr (hZ t gT).1 (hZ t gT).2.1 (hZ t gT).2.2:=by
 unfold hZ;cases hr:er t gT with
 |mk n r=>
  obtain⟨x,ok⟩:=r;cases ok with
  |false=>rfl
  |true=>
   obtain⟨h1,h2,h3,h4,h5,h6⟩:=j7 hr;have e1:bG ((t.size:ax)-x)=t.size-x:=iG (by omega) (by omega);have e2:bG (x+n)=x+n:=iG (by omega) (by omega);simp only[aY,aw,e1,e2];by_cases hc:n<=20000/\n<=t.size-x
   ·rw[bA hc,SZ (Jo (by omega)),SZ (Jo (by omega)),tz (by simp[ic];omega)]
   ·rw[bJ hc];by_cases hb:n>20000
    ·rw[tz (Ar hb)]
    ·rw[SZ (Jo hb),tz (Ar (by omega))]
theorem H8{t:aq}{gT x:ax}{s:aq}(h:hZ t gT=(s,x,ai)):0<=gT/\gT<x/\x<=t.size/\s.size<=20000/\bytesOf (vb s.size)++s=t.extract gT.toNat x.toNat:=by
 unfold hZ at h;cases hr:er t gT with
 |mk n r=>
  obtain⟨y,ok⟩:=r;rw[hr]at h;cases ok with
  |false=>simp at h
  |true=>
   dsimp only at h;obtain⟨h1,h2,h3,h4,h5,h6⟩:=j7 hr;split at h
   ·rename_i hc;simp only[jj,and_true]at h;obtain⟨rfl,rfl⟩:=h;have gj:(t.extract y.toNat (y+n).toNat).size=n.toNat:=by rw[yM];omega
    refine⟨h1,by omega,by omega,by rw[gj];omega, ?_⟩
    rw[gj,show((n.toNat:aE):ax)=n by omega,h6];apply tw;simp only[mH,gk,vF,iy,ia];rw[show(y+n).toNat-gT.toNat=(y.toNat-gT.toNat)+n.toNat by omega,List.take_add,vP,show gT.toNat+(y.toNat-gT.toNat)=y.toNat by omega,show(y+n).toNat-y.toNat=n.toNat by omega]
   ·simp at h
theorem xL(t:aq){i j k:aE}(h1:i<=j)(h2:j<=k):t.extract i j++t.extract j k=t.extract i k:=by apply tw;simp only[mH,gk,vF,iy,ia];rw[show k-i=(j-i)+(k-j)by omega,List.take_add,vP,show i+(j-i)=j by omega]
theorem Hr(t:aq):t.extract 0 t.size=t:=by apply tw;simp only[gk,iy,ia,fg,sA];exact jg (by simp)
def fi(p:aE->aU):aE->aE->ax
 |0,_=> -1
 |d+1,i=>bif p i then(i:ax)else fi p d (i+1)
theorem py(p:aE->aU):∀d i,fi p d i= -1/\(∀k,i<=k->k<i+d->p k=ak)\/∃k,i<=k/\k<i+d/\fi p d i=(k:ax)/\p k=ai/\∀q,i<=q->q<k->p q=ak
 |0,i=> .inl ⟨rfl,λk _ _=>by omega⟩
 |d+1,i=>by
  unfold fi;cases hp:p i with
  |true=>exact .inr ⟨i,by omega,by omega,rfl,hp,λq _ _=>by omega⟩
  |false=>
   rcases py p d (i+1)with ⟨h1,h2⟩|⟨k,h1,h2,h3,h4,h5⟩
   ·refine .inl ⟨h1,λk hk1 Az=> ?_⟩;by_cases h:k=i
    ·subst h;exact hp
    ·exact h2 k (by omega) (by omega)
   ·refine .inr ⟨k,by omega,by omega,h3,h4,λq hq1 hq2=> ?_⟩;by_cases h:q=i
    ·subst h;exact hp
    ·exact h5 q (by omega) hq2
end Go.FG.Lib
namespace Go.FG.Pu
def tN(xs:aQ)(i:aE)(ys:aQ):aQ:=xs.take i++ys++xs.drop i
end Go.FG.Pu

namespace Go.FG
class PT (P:outParam cZ) (T:outParam Tab):Prop where
 e:eA P T
 m:P.follows .mixedOrders=ai
abbrev As:=az fa
abbrev AA.n(x:ax):AA:= .i .i64 x
abbrev AV.n(x:ax):AV:= .i .i64 x
abbrev CV.n(x:ax):CV:= .i .i64 x
abbrev aI(x:ax):fa:= .v ak [.n x]
abbrev aB(x:aU):fa:= .v ak [.b x]
abbrev aS(x:aq):fa:= .v ak [.s x]
abbrev aH(e:aE)(x:aQ):fa:= .v ak [.sh e x]
abbrev aO(e:aE)(x:aQ):fa:= .v ak [.ow e ai x]
abbrev aV(l:az AA):fa:= .v ai l
abbrev cA(k:aE)(a:AV):aE×eP:=(k, .v (.v ak [a]))
abbrev cV(k:aE)(l:az AV):aE×eP:=(k, .v (.v ai l))
abbrev cI(k:aE)(x:ax):aE×eP:=cA k (.n x)
abbrev cP(k n:aE):aE×eP:=cA k (.bp n 0)
abbrev cH(k e:aE)(x:aQ):aE×eP:=cA k (.sh e x)
abbrev oB(k:aE)(l:az AV):aE×eP:=(k, .o (.box l))
abbrev oR(k e:aE)(x:aQ):aE×eP:=(k, .o (.row e ai x))
variable {P:cZ} {T:Tab} [i:PT P T] {E:fT} {g:aE} {F:Func} {s t:az Ho} {A:Fn s As} {k:Fn t dq}
theorem fq(hF:∀g,lY P T g (E.call g))(hf:P.funcs[g]? =ah F){it:aE->It (Pr t)}{l:az Code}(CR:∀N,∀c∈l,bZ E (it N) c)
  {c:Fn s aU} {v:Fn s (Pr t)} (b:aE->Fn t (aA (Pr t))->Fn s (aA (Pr t))) (u:Fn s (aA (Pr t))) {d:Pr t} (hT:E.toTab=T:=by rfl)
  (hc:∀x,Jj F (ap s A x)=true:=by intro x;kernel_rfl) (hl:jZ (F.body.getD .skip)=l:=by kernel_rfl) (hA:okA A:=by intro x;rfl) (hk:okK k:=by intro x;rfl)
  (h:∀N x,Ct E (it N) F k (ap s A x)=ap s (b N (cmp t (kq t) ah)) x:=by intro N x;kernel_rfl) (hw:b Lib.cJ (cmp t (kq t) ah)=u:=by rfl) (h1:cmp s u nL=c:=by rfl) (h2:cmp s u (λo=>o.getD d)=v:=by rfl):lY P T g (dP A k c v):=by subst hT;exact fl i.e i.m hF hf hc hl CR hA hk Lib.cJ h hw h1 h2
theorem fr(hF:∀g,lY P T g (E.call g))(hf:P.funcs[g]? =ah F)
  {c:Fn s aU} {v:Fn s (Pr t)} (b:Fn t (aA (Pr t))->Fn s (aA (Pr t))) (u:Fn s (aA (Pr t))) {d:Pr t} (hT:E.toTab=T:=by rfl)
  (hc:∀x,Jj F (ap s A x)=true:=by intro x;kernel_rfl) (hl:jZ (F.body.getD .skip)=[]:=by kernel_rfl) (hA:okA A:=by intro x;rfl) (hk:okK k:=by intro x;rfl)
  (h:∀x,Ct E ln F k (ap s A x)=ap s (b (cmp t (kq t) ah)) x:=by intro x;kernel_rfl) (hw:b (cmp t (kq t) ah)=u:=by rfl) (h1:cmp s u nL=c:=by rfl) (h2:cmp s u (λo=>o.getD d)=v:=by rfl):lY P T g (dP A k c v):=by subst hT;exact fl i.e i.m hF hf hc hl (it:=λ_=>ln) (λ_=>bw) hA hk (w:=λ_=>b (cmp t (kq t) ah)) 0 (λ_=>h) hw h1 h2
theorem ft(hF:∀g,lY P T g (E.call g))(hf:P.funcs[g]? =ah F)
  {v:Fn s (Pr t)} (b:Fn t (aA (Pr t))->Fn s (aA (Pr t))) (hv:∀x,ap s (b (cmp t (kq t) ah)) x=ah (ap s v x)) (hT:E.toTab=T:=by rfl)
  (hc:∀x,Jj F (ap s A x)=true:=by intro x;kernel_rfl) (hl:jZ (F.body.getD .skip)=[]:=by kernel_rfl) (hA:okA A:=by intro x;rfl) (hk:okK k:=by intro x;rfl)
  (h:∀x,Ct E ln F k (ap s A x)=ap s (b (cmp t (kq t) ah)) x:=by intro x;kernel_rfl):lY P T g (dP A k (ct s) v):=by subst hT;exact flh i.e i.m hF hf hc hl (it:=λ_=>ln) (λ_=>bw) hA hk λx _ _=>⟨0,(h x).trans (hv x)⟩
theorem fh(hF:∀g,lY P T g (E.call g))(hf:P.funcs[g]? =ah F){it:aE->It (Pr t)}{l:az Code}(CR:∀N,∀c∈l,bZ E (it N) c)
  {c:Fn s aU} {v:Fn s (Pr t)} (b:aE->Fn t (aA (Pr t))->Fn s (aA (Pr t))) (hv:∀x,xP (ap s A x)->ap s c x=ai->∃N,ap s (b N (cmp t (kq t) ah)) x=ah (ap s v x)) (hT:E.toTab=T:=by rfl)
  (hc:∀x,Jj F (ap s A x)=true:=by intro x;kernel_rfl) (hl:jZ (F.body.getD .skip)=l:=by kernel_rfl) (hA:okA A:=by intro x;rfl) (hk:okK k:=by intro x;rfl)
  (h:∀N x,Ct E (it N) F k (ap s A x)=ap s (b N (cmp t (kq t) ah)) x:=by intro N x;kernel_rfl):lY P T g (dP A k c v):=by subst hT;exact flh i.e i.m hF hf hc hl CR hA hk λx f q=>(hv x f q).imp λN e=>(h N x).trans e
section
variable {R:Type} {it:It R} {F:Func}
theorem lq(n:aE){s:az Ho}(T:Fn s Tb)(l:Kt R->aE->Fn s (aA R))(r:Kt R->Fn s (aA R)->Fn s (aA R)){N:aE}(hr:gK (bT F n)=n:=by kernel_rfl)(hT:okT T:=by intro x;rfl)
  (hi:∀L K,it n (tF E it (bT F n)) (canon (E.AB n)) L K=al T (λK=>l K N) an L K:=by intro L K;rfl) (h0:∀K x,ap s (l K 0) x=none:=by intro K x;rfl) (h1:∀K n,l K (n+1)=r K (l K n):=by intro K n;rfl)
  (h:∀K g x,tF E it (bT F n) (fM (ap s T x)) (FK g (canon (E.AB n)) K)=ap s (r K (cmp s T λt=>g (fM t))) x:=by intro K g x;kernel_rfl):bZ E it (bT F n):=
 lo1 n T hr hT l r hi h0 h1 h
theorem lw{n:aE}{K:Kt R}{s:az Ho}{T:Fn s Tb}{l:aE->Fn s (aA R)}(r:(St->aA R)->Fn s (aA R))
  (h1:∀m,(∀x,iter (tF E it (bT F n)) (canon (E.AB n)) m (fM (ap s T x)) K=ap s (l m) x)->r (λσ=>iter (tF E it (bT F n)) (canon (E.AB n)) m σ K)=l (m+1)) (h0:∀x,ap s (l 0) x=none:=by intro x;rfl)
  (h:∀g x,tF E it (bT F n) (fM (ap s T x)) (FK g (canon (E.AB n)) K)=ap s (r g) x:=by intro g x;kernel_rfl):Wd E it (bT F n) n K T l:=wl r h0 h1 h
theorem lm(n:aE){a:Tb->Kt R->aA R}(h:Good E it (bT F n) n a)(hr:gK (bT F n)=n:=by kernel_rfl)(hi:∀L K,it n (tF E it (bT F n)) (canon (E.AB n)) L K=a L K:=by intro L K;rfl):bZ E it (bT F n):=lom n hr hi h
theorem ga{C:Code}{n:aE}{s:az Ho}(T:Fn s Tb){N:aE}{l:Kt R->aE->Fn s (aA R)}{o:Tb->Kt R->aA R}(h:∀K,Wd E it C n K T (l K))(ho:Good E it C n o)(hT:okT T:=by intro x;rfl):Good E it C n (al T (λK=>l K N) o):=NV hT h ho
end
end Go.FG

