/- An evaluator for the part of the language that this program uses, proved sound over the model: states told as values and lists; what an evaluation tells, the call does. No condition. -/
import Derived.Calls
import Derived.Orders
import Derived.Below
import Derived.Laws.AppendOwn
import Derived.Laws.Slices
import Derived.Laws.StructEq
import Derived.Laws.Tables
import Derived.Laws.MakeOwn
import Derived.Laws.IdiomStrings
import Derived.Laws.BytesArg
import Derived.Laws.NewFold
import Derived.SizedLaws
import Derived.Carry
import Derived.ProofKit
import Derived.KernelRfl
import Derived.Laws.Strings
import Derived.Test.YtijidheebmbkcaaCoreb
set_option linter.unusedVariables false
set_option linter.unusedSimpArgs false
set_option maxRecDepth 100000
open Array renaming length_toList->c8,getElem?_eq_some_iff->c_,toList_extract->ql,getElem?_toList->bY,getD_eq_getD_getElem?->dD
open Bool renaming true->ae,and_eq_true->az,false->ah,false_eq_true->cJ,not_eq_true'->dt,and_true->j9,not_true->bz,not_false->bX
open ByteArray renaming size->fW,size_append->fE,data_extract->mC,size_extract->O8,data_append->u_
open Go renaming Program->b9,Value->aR,World->bf
open Go.Addr renaming add->Ry
open Go.ByteArray renaming toList_eq->kP
open Go.Cell renaming okWide->Ur
open Go.DataW renaming weightsAll->uk,trod->xP,weights->qL,TrodAll->yF,weightsEach->j7
open Go.IntKind renaming i64->aj,u8->aU,wrap->bj
open Go.Value renaming okWide->oG
open Go.World renaming cell?->Vj
open Int renaming toNat->aX,tmod->bL,tdiv->cj,tdiv_eq_ediv_of_nonneg->gn,pow_succ->vZ,tmod_eq_emod_of_nonneg->ed
open List renaming getElem?_append_left->cS,getElem?_append_right->cm,getElem?_eq_none->iL,mem_singleton->aP,mem_append->aQ,length_append->b8,length_take->eA,length_drop->im,length_map->bC,map_append->fw,getElem?_take->dj,getElem?_drop->c7,getElem?_eq_getElem->dV,mem_cons->bP,getElem?_eq_some_iff->aG,getElem?_of_mem->bB,eq_nil_of_length_eq_zero->eH,getElem?_map->bc,length_eq_one_iff->e8,all_cons->oP,mem_append_left->bw,mem_append_right->bm,append_nil->da,all_eq_true->aZ,append_assoc->bR,map_cons->dW,mem_cons_self->cR,mem_cons_of_mem->b_,getD->gW,drop_eq_getElem_cons->nR,set->aF,beq->cC,range'->oH,ext_getElem?->Md,extract_eq_take_drop->Bc,length->cq,drop_drop->RY
open List.cons renaming injEq->Pz,inj->jP
open Nat renaming beq->a_,blt->nk,add_assoc->ju,lt_or_ge->rA,eq_zero_or_pos->xR,eq_of_beq_eq_true->aJ,zero_add->bu,blt_eq->uN,mul_le_mul_right->bD,le_trans->c5,beq_eq->YY,ble->dZ,le_of_ble_eq_true->bN,add_zero->tn
open Option renaming some->ab,none->af,isSome->kJ,getD->PA,map_some->gm
open Option.some renaming inj->aq
open Prod.mk renaming inj->bn,injEq->hZ
open _root_ renaming ByteArray->ai,Nat->au,Option->ar,List->ak,cond_true->aw,if_pos->br,Bool->aL,absurd->bS,Array->cG,Int->ax,decide_eq_true_eq->a9,of_decide_eq_true->bU,cond_false->aC,decide_eq_true->aE,if_neg->bF,congrArg->o6,decide_eq_decide->cO,UInt8->Bd,decide_eq_false->aK
namespace Go.FG
open Go.RowKit Go.ChangeShapes
inductive nQ (T:Tab):CV->Prop
 |i (k n):(Lit.int k n).wf=ae->nQ T (.i k n)
 |b (x):nQ T (.b x)
 |s (x:ai):x.size<=140737488351232->nQ T (.s x)
 |l (e xs ti):T.ty e=ab ti->xs.length*ti.bytes<=140737488351232->(∀y∈xs,y.map CV.kd=ti.ks)->(∀y∈xs,∀x∈y,nQ T x)->nQ T (.l e xs)
def He(P:b9)(g:au->ar (ak Ck)):ak Field->au->ar (ak Ck)
 |[],_=>ab []
 |f::r,off=>match g f.type with
  |some ks=>bif a_ f.offset off&&a_ (P.cellsOf f.type) ks.length then(match He P g r (off+ks.length)with|some l=>ab (ks++l)|none=>af)else af
  |none=>af
def Hd(P:b9)(T:Tab):au->au->ar (ak Ck)
 |0,_=>af
 |n+1,t=>match P.underlying t with
  |some (.int k)=>ab [.i k]
  |some .bool=>ab [.b]
  |some .string=>ab [.s]
  |some (.slice e)=>match T.ty e,Hd P T n e with
   |some te,ab ks=>bif na ks te.ks&&a_ te.bytes (P.bytesOf e)&&a_ (P.cellsOf e) ks.length&&nk 0 ks.length then ab [.l e]else af
   |_,_=>af
  |some (.struct fs)=>match He P (Hd P T n) fs.toList 0 with
   |some ks=>bif a_ (P.cellsOf t) ks.length then ab ks else af
   |none=>af
  |_=>af
def Bv:CV->AA
 | .i k n=> .i k n| .b x=> .b x| .s x=> .s x| .l e xs=> .sh e xs
section
variable {H:Type} {enc:TypeId×aR->H} {P:b9} {T:Tab} {w:bf}
def xZ(w:bf):au->Prop:=λb=>b<w.heap.size
structure rC (T:Tab) (w:bf) (cs:ak aR) (off:au) (ys:ak CV) (ks:ak Ck):Prop where
 kd:ys.map CV.kd=ks
 at_:∀(j:au) (y:CV),ys[j]? =ab y->∃v,cs[off+j]? =ab v/\ch T w (xZ w) v y
 fine:∀y∈ys,nQ T y
theorem Jn(a:Addr)(m k:au):(a.add m).add k=a.add (m+k):=by
 unfold Ry;by_cases h1:m=0<;>by_cases h2:k=0
 ·simp[h1,h2]
 ·simp[h1,h2]
 ·simp[h1,h2]
 ·simp[h1,h2,ju]
theorem R5(b o n:au):(ad b o).add n=ad b (o+n):=by unfold Ry;by_cases h:n=0<;>simp[h]
theorem ur{α:Type}{p:au->α->Prop}:∀n:au,(∀i,i<n->∃y,p i y)->∃xs:ak α,xs.length=n/\∀(i:au) (y:α),xs[i]? =ab y->p i y
 |0,_=>⟨[],rfl,λi y h=>by simp at h⟩
 |n+1,h=>by
  obtain⟨xs,h1,h2⟩:=ur n (λi hi=>h i (by omega));obtain⟨y,hy⟩:=h n (by omega);refine⟨xs++[y],by simp[h1],λi z hz=> ?_⟩
  rcases rA i xs.length with hi|hi
  ·rw[cS hi]at hz;exact h2 i z hz
  ·rw[cm hi]at hz;have:i-xs.length=0:=by
    rcases xR (i-xs.length)with h|h
    ·exact h
    ·rw[iL (by simp;omega)]at hz;cases hz
   rw[this]at hz;cases hz;have:i=n:=by omega
   subst this;exact hy
theorem pB{v:aR}{y:CV}{k:Ck}(hk:y.kd=k)(hh:ch T w (xZ w) v y)(hf:nQ T y):rC T w [v] 0 [y] [k] where
 kd:=by simp[hk]
 at_ j y' hj:=by
  cases j with
  |zero=>cases hj;exact⟨v,rfl,hh⟩
  |succ j=>simp at hj
 fine y' hy:=by rw[aP]at hy;subst hy;exact hf
theorem pQ{e:TypeId}:∀{ds:ak (DataW H)} {i:au} {d:DataW H},ds[i]? =ab d->∀n∈d.weights P e,n∈uk P e ds
 |[],_,_,h,_,_=>by simp at h
 |d0::ds,0,d,h,n,hn=>by cases h;simp only[uk,aQ];exact .inl hn
 |d0::ds,i+1,d,h,n,hn=>by simp only[uk,aQ];exact .inr (pQ (ds:=ds) (i:=i) h n hn)
theorem GW{g:au->ar (ak Ck)}{cs:ak aR}
  (hg:∀t ks,g t=ab ks->∀(fuel:au) (cs:ak aR) (x:DataW H×ak MemPlace) sp hd,xP enc P w 0 sp hd fuel t cs=ab x->(∀m∈x.1.weights P t,m<=reachBytes)->cs.length=P.cellsOf t->∃ys,rC T w cs 0 ys ks):
  ∀(fs:ak Field) (off:au) (ks:ak Ck),He P g fs off=ab ks->off+ks.length<=cs.length->∀(xs:ak (DataW H×ak MemPlace)) (fuel:au) sp hd,xs.length=fs.length->
   (∀(i:au) (f:Field),fs[i]? =ab f->xP enc P w 0 sp hd fuel f.type ((cs.drop f.offset).take (P.cellsOf f.type))=xs[i]?)->
   (∀(i:au) (f:Field) x,fs[i]? =ab f->xs[i]? =ab x->∀m∈x.1.weights P f.type,m<=reachBytes)->∃ys,rC T w cs off ys ks:=by
 intro fs;induction fs with
 |nil=>intro off ks h _ xs fuel sp hd _ _ _;cases h;exact⟨[],⟨rfl,λj y hj=>by simp at hj,λy hy=>by cases hy⟩⟩
 |cons f fs ih=>
  intro off ks h hlen xs fuel sp hd NP Ie Th;unfold He at h;cases hgf:g f.type with
  |none=>rw[hgf]at h;cases h
  |some k1=>
   rw[hgf]at h;dsimp only at h;cases hb:(a_ f.offset off&&a_ (P.cellsOf f.type) k1.length)with
   |false=>rw[hb]at h;cases h
   |true=>
    rw[hb,aw]at h;simp only[az]at hb;have e1:=aJ hb.1;have e2:=aJ hb.2;cases hr:He P g fs (off+k1.length)with
    |none=>rw[hr]at h;cases h
    |some k2=>
     rw[hr]at h;have h:k1++k2=ks:=by injection h
     subst h;rw[b8]at hlen;cases xs with
     |nil=>simp at NP
     |cons x xs=>
      have h0:=Ie 0 f rfl;rw[show(x::xs)[0]? =ab x from rfl]at h0;obtain⟨y1,c1⟩:=hg _ _ hgf fuel _ x sp hd h0 (Th 0 f x rfl rfl) (by rw[eA,im];omega);obtain⟨y2,c2⟩:=ih (off+k1.length) k2 hr (by omega) xs fuel sp hd (by simpa using NP) (λi f' hf=>Ie (i+1) f' hf) (λi f' x' hf hx=>Th (i+1) f' x' hf hx);have FK:y1.length=k1.length:=by rw[<-c1.kd,bC]
      refine⟨y1++y2,⟨by rw[fw,c1.kd,c2.kd],λj y hj=> ?_,λy hy=> ?_⟩⟩
      ·rcases rA j y1.length with jc|jc
       ·rw[cS jc]at hj;obtain⟨v,hv,hh⟩:=c1.at_ j y hj;refine⟨v, ?_,hh⟩
        rw[bu,dj,br (by omega),c7,e1]at hv;exact hv
       ·rw[cm jc]at hj;obtain⟨v,hv,hh⟩:=c2.at_ _ y hj;refine⟨v, ?_,hh⟩
        rw[show off+k1.length+(j-y1.length)=off+j by omega]at hv;exact hv
      ·rcases aQ.1 hy with hy|hy
       ·exact c1.fine y hy
       ·exact c2.fine y hy
theorem xq(hE:dv P T):∀(n t:au) (ks:ak Ck),Hd P T n t=ab ks->∀(fuel:au) (cs:ak aR) (x:DataW H×ak MemPlace) sp hd,xP enc P w 0 sp hd fuel t cs=ab x->(∀m∈x.1.weights P t,m<=reachBytes)->cs.length=P.cellsOf t->∃ys,rC T w cs 0 ys ks:=by
 intro n;induction n with
 |zero=>intro t ks h;cases h
 |succ n ih=>
  intro t ks h fuel cs x sp hd Ie Th mI;unfold Hd at h;split at h
  ·rename_i k hu;cases h;obtain⟨m,rfl,rfl,hwf⟩:=DataW.trod_int hu Ie;exact⟨[.i k m],pB rfl (.i _ _) (.i _ _ hwf)⟩
  ·rename_i hu;cases h;obtain⟨m,rfl,rfl⟩:=DataW.trod_bool hu Ie;exact⟨[.b m],pB rfl (.b _) (.b _)⟩
  ·rename_i hu;cases h;obtain⟨m,rfl,rfl,UE⟩:=DataW.trod_string hu Ie;have hz:m.size<=140737488351232:=by have:=Th m.data.toList.length (by simp[qL]);rw[c8]at this;exact this
   exact⟨[.s m],pB rfl (.s _ (show m.size<=4611686018427387904 by omega)) (.s _ hz)⟩
  ·rename_i e hu;split at h
   ·rename_i te ke DY Wl;cases hb:(na ke te.ks&&a_ te.bytes (P.bytesOf e)&&a_ (P.cellsOf e) ke.length&&nk 0 ke.length)with
    |false=>rw[hb]at h;cases h
    |true=>
     rw[hb]at h;cases h;simp only[az]at hb;obtain⟨⟨⟨b1,b2⟩,b3⟩,b4⟩:=hb;have e1:=kT b1;have e2:=aJ b2;have e3:=aJ b3;have e4:0<ke.length:=by simpa [uN]using b4
     subst e1;rcases DataW.trod_slice hu Ie with ⟨rfl,rfl⟩|⟨a,len,cap,elems,rest,m,rfl,rfl,rfl,_,hlc,Nx,hel,eI,_,_⟩
     ·exact⟨[.l e []],pB rfl (.nl _ _ _) (.l e [] te DY (by simp) (λy hy=>by cases hy) (λy hy=>by cases hy))⟩
     ·have hwl:len*te.bytes<=140737488351232:=by have:=Th ((elems.length+rest.length)*P.bytesOf e) (by simp[qL,hu]);rw[<-e2,hel]at this;have h2:len*te.bytes<=(len+rest.length)*te.bytes:=bD _ (by omega);exact c5 h2 this
      have one:∀i,i<len->∃ys:ak CV,(∀(j:au) (y:CV),ys[j]? =ab y->∃v,w.cell? (a.add (i*te.ks.length+j))=ab v/\ch T w (xZ w) v y)/\ys.map CV.kd=te.ks/\∀y∈ys,nQ T y:=by
       intro i hi;have h1:=eI i hi;have jw:i<elems.length:=by omega
       rw[dV jw]at h1;cases hc:w.cells? 0 (a.add (i*P.cellsOf e)) (P.cellsOf e)with
       |none=>rw[hc]at h1;cases h1
       |some cs=>
        rw[hc]at h1;have h1:xP enc P w 0 sp hd m e cs=ab elems[i]:=h1;obtain⟨_,mI,hcell⟩:=World.cells?_some hc;obtain⟨ys,c⟩:=ih e te.ks Wl m cs _ sp hd h1 (λz hz=>Th z (by simp only[qL,hu,bP,aQ];exact .inr (.inl (pQ (i:=i) (d:=elems[i].1) (by simp[jw]) z hz)))) mI;refine⟨ys,λj y hj=> ?_,c.kd,c.fine⟩
        obtain⟨v,hv,hh⟩:=c.at_ j y hj;rw[bu]at hv;have jc:=(aG.1 hv).1;have:=hcell j (by omega);rw[hv]at this;refine⟨v, ?_,hh⟩
        rw[<-e3];rw[<-Jn];exact this
      obtain⟨xs,NP,hx⟩:=ur len one;have Wb:nQ T (.l e xs):=by
       refine .l e xs te DY (by rw[NP];exact hwl) (λy hy=> ?_) (λy hy=> ?_)
       ·obtain⟨i,hi⟩:=bB hy;exact(hx i y hi).2.1
       ·obtain⟨i,hi⟩:=bB hy;exact(hx i y hi).2.2
      refine⟨[.l e xs],pB rfl ?_ Wb⟩
      rcases xR len with h0|h0
      ·have:xs=[]:=eH (by omega);subst this;rw[h0];exact .nl _ _ _
      ·have hx0:xs[0]? =ab xs[0]:=by rw[dV (by omega)]
       obtain⟨c0,k0,_⟩:=hx 0 _ hx0;have hy0:0<(xs[0]).length:=by rw[<-bC (f:=CV.kd),k0];exact e4
       obtain⟨v0,Ig,_⟩:=c0 0 _ (dV hy0);obtain⟨b,o,s⟩:=a;have hs:s=af/\b<w.heap.size:=by
        unfold Vj at Ig;have e0:(Addr.mk b o s).add (0*te.ks.length+0)=⟨b,o,s⟩:=by simp[Ry]
        rw[e0]at Ig;split at Ig
        ·rename_i hh;refine⟨?_,(c_.1 hh).1⟩
         cases s with
         |none=>rfl
         |some s=>simp at Ig
        ·cases Ig
       obtain⟨rfl,SM⟩:=hs;let U:au->au->aR:=λi j=>(w.cell? (ad b (o+i*te.ks.length+j))).getD undef;have ao:∀i j y z,xs[i]? =ab y->y[j]? =ab z->w.cell? (ad b (o+i*te.ks.length+j))=ab (U i j)/\ch T w (xZ w) (U i j) z:=by
        intro i j y z hi hj;obtain⟨v,hv,hh⟩:=(hx i y hi).1 j z hj;have hv:w.cell? ((ad b o).add (i*te.ks.length+j))=ab v:=hv;rw[R5,<-ju]at hv;have:U i j=v:=by simp only[U,hv];rfl
        rw[this];exact⟨hv,hh⟩
       rw[<-NP];exact .l e xs b o cap te U DY (by omega) Nx SM (λy hy=>by obtain⟨i,hi⟩:=bB hy;exact(hx i y hi).2.1) (λi j y z hi hj=>(ao i j y z hi hj).1) (λi j y z hi hj=>(ao i j y z hi hj).2)
   ·cases h
  ·rename_i fs hu;obtain⟨xs,m,rfl,rfl,SR,NP,hf⟩:=DataW.trod_struct hu Ie;cases hlf:He P (Hd P T n) fs.toList 0 with
   |none=>rw[hlf]at h;cases h
   |some ks'=>
    rw[hlf]at h;obtain⟨hb,rfl⟩:=yN h;refine GW ih fs.toList 0 _ hlf ?_ xs m sp hd (by simpa using NP) (λi f hi=>hf i f (by simpa using hi)) (λi f x hi hx z hz=>Th z ?_)
    ·have:=aJ hb;omega
    ·simp only[qL,hu];refine DataW.weights_mem_each (j:=i) (t:=f.type) (d:=x.1) ?_ ?_ z hz
     ·rw[bc,hi];rfl
     ·rw[bc,hx];rfl
  ·cases h
end
end Go.FG

namespace Go.FG
open Go.RowKit Go.ChangeShapes
def lh(T:Tab):ak au->ak (ak CV)->ak dO
 |t::ts,ys::oE=>dO.v (match T.ty t with|some ti=>ti.agg|none=>ah) (ys.map Bv)::lh T ts oE
 |_,_=>[]
def lX(T:Tab):ak au->ak (ak CV)->Prop
 |[],[]=>True
 |t::ts,ys::oE=>(∃ti,T.ty t=ab ti/\ys.map CV.kd=ti.ks)/\(∀y∈ys,nQ T y)/\lX T ts oE
 |_,_=>False
def Hs(P:b9)(T:Tab)(n:au)(t:au):aL:=
 match T.ty t,Hd P T n t,P.underlying t with
 |some ti,ab ks,ab d=>na ks ti.ks&&(match d with| .struct _=>ti.agg| .array _ _=>ah|_=> !ti.agg)&&P.readableRec t&&decide (t<P.types.size)
 |_,_,_=>ah
theorem R4{T:Tab}{w:bf}{c:dJ}(hc:∀b,xZ w b->c.K b){v:aR}{y:CV}(h:ch T w (xZ w) v y)(nm:au):dz T w c (iW nm (Bv y)) v:=by
 have h:ch T w c.K v y:=h.frame (λ_ _=>rfl) hc;cases y with
 |i k n=>cases h;rfl
 |b x=>cases h;rfl
 |s x=>cases h with|s _ ho=>exact⟨rfl,ho⟩
 |l e xs=>exact h
section
variable {H:Type} {enc:TypeId×aR->H} {P:b9} {T:Tab} {w:bf}
theorem Sb(hE:dv P T){n t:au}(hp:Hs P T n t=ae){v:aR}{d:DataW H}{ps:ak MemPlace}{sp:au->aL}{hd:aL}{base:au}(hv:oG P w .any base t v)(h:DataW.Trod enc P w 0 sp hd t v d ps)(hw:∀m∈d.weights P t,m<=reachBytes):
  ∃ys:ak CV,(∃ti,T.ty t=ab ti/\ys.map CV.kd=ti.ks)/\(∀y∈ys,nQ T y)/\∀c:dJ,(∀b,xZ w b->c.K b)->∀p,gu T w c (pq p (dO.v (match T.ty t with|some ti=>ti.agg|none=>ah) (ys.map Bv))) v:=by
 unfold Hs at hp;split at hp
 ·rename_i ti ks dd ht hl hu;simp only[az]at hp;obtain⟨⟨⟨h1,h2⟩,_⟩,_⟩:=hp;have e1:=kT h1;subst e1;obtain⟨fuel,Ie⟩:=h;obtain⟨inf,hi,eM,_⟩:=hE.info t ti ht;have hct:P.cellsOf t=ti.ks.length:=by unfold Program.cellsOf;rw[hi];exact eM
  have cell:∀(ys:ak CV) (cs:ak aR),rC T w cs 0 ys ti.ks->∀c:dJ,(∀b,xZ w b->c.K b)->∀(p j:au) (a:AV),(eN (c9 p 0) (ys.map Bv))[j]? =ab a->∃u:aR,cs[j]? =ab u/\dz T w c a u:=by
   intro ys cs hc c hK p j a hj;rw[fH,bc]at hj;cases hy:ys[j]? with
   |none=>rw[hy]at hj;cases hj
   |some y=>rw[hy]at hj;cases hj;obtain⟨u,oK,hh⟩:=hc.at_ j y hy;rw[bu]at oK;exact⟨u,oK,R4 hK hh _⟩
  cases p8:ti.agg with
  |true=>
   have DW:∃fs,dd= .struct fs:=by cases dd<;>simp[p8]at h2;exact⟨_,rfl⟩
   obtain⟨fs,rfl⟩:=DW;unfold oG at hv;rw[hu]at hv;obtain⟨cs,rfl,Be,_⟩:=hv;obtain⟨ys,hc⟩:=xq hE n t ti.ks hl fuel cs.toList (d,ps) sp hd Ie hw (by simpa using Be);refine⟨ys,⟨ti,ht,hc.kd⟩,hc.fine,λc hK p=> ?_⟩
   rw[ht];show m9 T w c ti.agg (eN (c9 p 0) (ys.map Bv)) _;rw[p8];refine⟨cs,rfl, ?_,λj a hj=> ?_⟩
   ·rw[fS,bC,Be,hct,<-hc.kd,bC]
   ·obtain⟨u,oK,ha⟩:=cell ys cs.toList hc c hK p j a hj;exact⟨u,by simpa using oK,ha⟩
  |false=>
   have DW:∀fs,dd≠ .struct fs:=by intro fs he;subst he;simp[p8]at h2
   have har:∀m e,dd≠ .array m e:=by intro m e he;subst he;cases h2
   have hcell:Ur P w .any base t v:=by
    unfold oG at hv;rw[hu]at hv;split at hv
    ·rename_i fs he;cases he;exact bS rfl (DW fs)
    ·rename_i m e he;cases he;exact bS rfl (har m e)
    ·exact hv
   have sd:v.cells= #[v]:=by
    cases v<;>first|rfl|skip
    rename_i cs;exfalso;unfold Ur at hcell;rw[hu]at hcell;cases dd<;>simp[Cell.ok,hu]at hcell
   obtain⟨dd',WE,_,hn⟩:=hE.desc t ti ht;have h1:ti.ks.length=1:=by rcases hn p8 with ⟨k,h,_⟩|⟨h,_⟩|⟨h,_⟩|⟨e',h,_⟩|⟨h,_⟩<;>simp[h]
   rw[sd]at Ie;obtain⟨ys,hc⟩:=xq hE n t ti.ks hl fuel [v] (d,ps) sp hd Ie hw (by rw[hct,h1];rfl);have B_:ys.length=1:=by rw[<-bC (f:=CV.kd),hc.kd,h1]
   obtain⟨y,rfl⟩:=e8.1 B_;refine⟨[y],⟨ti,ht,hc.kd⟩,hc.fine,λc hK p=> ?_⟩
   rw[ht];show m9 T w c ti.agg [iW (c9 p 0) (Bv y)] _;rw[p8];obtain⟨u,oK,ha⟩:=cell [y] [v] hc c hK p 0 _ rfl;cases oK;exact ha
 ·cases hp
theorem M1(hE:dv P T){n:au}{sp:au->aL}{hd:aL}{base:au}:∀{ts:ak au} {vs:ak aR} {ds:ak (DataW H)} {ps:ak MemPlace},ts.all (Hs P T n)=ae->
  yF enc P w 0 sp hd ts vs ds ps->(∀(j:au) t v,ts[j]? =ab t->vs[j]? =ab v->oG P w .any base t v)->(∀m∈j7 P ts ds,m<=reachBytes)->
  ∃oE,lX T ts oE/\vs.length=(lh T ts oE).length/\ds.length=ts.length/\∀c:dJ,(∀b,xZ w b->c.K b)->∀(q p:au) (x:dO),(lh T ts oE)[p]? =ab x->∃v,vs[p]? =ab v/\gu T w c (pq (q+p) x) v:=by
 intro ts;induction ts with
 |nil=>intro vs ds ps _ h _ _;obtain⟨rfl,rfl,rfl⟩:=trodAll_nil h;exact⟨[],trivial,rfl,rfl,λc _ q p x h=>by simp[lh]at h⟩
 |cons t ts ih=>
  intro vs ds ps hp h bI hw;simp only[oP,az]at hp;obtain⟨v,vs,d,ds,p,q,rfl,rfl,rfl,h0,r0⟩:=trodAll_cons h;obtain⟨ys,y1,y2,y3⟩:=Sb hE hp.1 (bI 0 t v rfl rfl) h0 (λm hm=>hw m (by simp only[j7,aQ];exact .inl hm));obtain⟨oE,z1,z2,z4,z3⟩:=ih hp.2 r0 (λj t v hj hv=>bI (j+1) t v hj hv) (λm hm=>hw m (by simp only[j7,aQ];exact .inr hm));refine⟨ys::oE,⟨y1,y2,z1⟩,by simp[lh,z2],by simp[z4],λc hK q p x hx=> ?_⟩
  cases p with
  |zero=>cases hx;exact⟨v,rfl,y3 c hK q⟩
  |succ p=>obtain⟨v',h1,h2⟩:=z3 c hK (q+1) p x hx;exact⟨v',h1,by rw[show q+(p+1)=q+1+p by omega];exact h2⟩
theorem kS{m:au}{ob:Obj}:∀{ts:ak au} {oE:ak (ak CV)},inj (lh T ts oE) (cf m)≠ .o ob:=by
 intro ts oE h;obtain⟨p,a,h0,hh⟩:=vA h;have:∀(ts:ak au) (oE:ak (ak CV)) (p:au) (a:dO),(lh T ts oE)[p]? =ab a->∃(g:aL) (ys:ak CV),a= .v g (ys.map Bv):=by
  intro ts;induction ts with
  |nil=>intro oE p a h;simp[lh]at h
  |cons t ts ih=>
   intro oE p a h;cases oE with
   |nil=>simp[lh]at h
   |cons ys oE=>
    cases p with
    |zero=>cases h;exact⟨_,ys,rfl⟩
    |succ p=>exact ih oE p a h
 obtain⟨g,ys,rfl⟩:=this _ _ _ _ h0;rcases hh with ⟨xs,h1,_⟩|⟨xs,j,e,ex,zs,h1,h2,_⟩
 ·cases h1
 ·have h1:ys.map Bv=xs:=by rcases h1 with ⟨g',h1⟩|h1<;>cases h1;rfl
  subst h1;rw[bc]at h2;cases hy:ys[j]? with
  |none=>rw[hy]at h2;cases h2
  |some y=>rw[hy]at h2;cases y<;>cases h2
theorem A3(hl:laidOutB P=ae){W':bf}(hb:Below w.heap.size w W'){n:au}:∀{ts:ak au} {vs:ak aR} {ds:ak (DataW H)} {ps:ak MemPlace},ts.all (Hs P T n)=ae->yF enc P w 0 (λ_=>ae) ae ts vs ds ps->(∀x∈ps,x.block<w.heap.size)->
  yF enc P W' 0 (λb=>decide (b<w.heap.size)) ae ts vs ds ps:=by
 intro ts;induction ts with
 |nil=>intro vs ds ps _ h _;obtain⟨rfl,rfl,rfl⟩:=trodAll_nil h;exact h
 |cons t ts ih=>
  intro vs ds ps hp h ix;simp only[oP,az]at hp;obtain⟨v,vs,d,ds,p,q,rfl,rfl,rfl,h0,r0⟩:=trodAll_cons h;have FL:=hp.1;unfold Hs at FL;split at FL
  ·simp only[az]at FL;exact⟨p,q,Below.trod hl FL.1.2 (by simpa using FL.2) h0 hb (λx hx=>ix x (bw _ hx)),ih hp.2 r0 (λx hx=>ix x (bm _ hx)),rfl⟩
  ·cases FL
end
theorem AB{H:Type}{enc:TypeId×aR->H}{C:Checked}{T:Tab}(hE:dv C.prog T)(hl:laidOutB C.prog=ae){g tb n:au}{fn:Func}{spec:ak dO->ar (aL×dp)}(hF:jf C.prog T g spec){s:ChangeSpec}
  (Wx:fn.params.toList.all (Hs C.prog T n)=ae) (ab2:fn.resultTypes= #[tb]) (htb:C.prog.underlying tb=ab .bool) (Kc:s.vars=[])
  (hfn:∀ds:ak (DataW H),ds.length=fn.params.toList.length->s.fn H ds={results:=[.lit (.bool ae)],args:=ds})
  (claim:∀oE,lX T fn.params.toList oE->spec (lh T fn.params.toList oE)=ab (ae,⟨[.v ah [.b ae]],[]⟩))
  (W:bf) (base:au) (args:cG aR) (ds gs:ak (DataW H)) (before:ak MemPlace)
  (hval:∀(j:au) t v,fn.params[j]? =ab t->args[j]? =ab v->oG C.prog W .any base t v)
  (hW:DataW.Whole enc C.prog fn.params.toList s.vars ah W args.toList ds gs before)
  (eM:(j7 C.prog (fn.params.toList++s.plain.varTypes C.prog) (ds++gs)).all (·<=reachBytes)=ae):
  Calls C.prog g args W λe W'=>∃v,e= .returned v/\s.post enc C.prog fn ah ae ah ah W args v W':=by
 have hW':=hW;obtain⟨p,q,hA,hV,rfl,hfz,hnd⟩:=hW;have ix:=hW'.lt;rw[Kc]at hV;have hgs:gs=[]/\q=[]:=by
  cases gs with
  |nil=>exact⟨rfl,hV⟩
  |cons=>exact hV.elim
 obtain⟨rfl,rfl⟩:=hgs;have hw:∀m∈j7 C.prog fn.params.toList ds,m<=reachBytes:=by
  intro m hm;rw[da]at eM;have e:s.plain.varTypes C.prog=[]:=by unfold DataSpec.varTypes ChangeSpec.plain;simp[Kc]
  rw[e,da]at eM;have:=aZ.1 eM m hm;simpa using this
 obtain⟨oE,NK,hlen,hdl,oJ⟩:=M1 hE Wx hA (λj t v hj hv=>hval j t v (by simpa using hj) (by simpa using hv)) hw;let nl:Pl:=⟨ae,0,0,0,0,0⟩
 let c1:dJ:=⟨λ_=>nl,λ_ _ _=>nl,xZ W⟩
 have bI:Ok T (inj (lh T fn.params.toList oE)) W c1:=⟨λnm o h=>bS h kS,λnm o sq o' b h=>bS h kS,λnm o b h=>bS h kS,λb hb=>hb,λnm xs h=>bS h kS⟩
 obtain⟨_,hc⟩:=hF _ _ (claim oE NK) W c1 args bI (by rw[<-hlen];simp) (λp x hx=>by obtain⟨v,h1,h2⟩:=oJ c1 (λ_ h=>h) 0 p x hx;rw[bu]at h2;exact⟨v,by simpa using h1,h2⟩);refine hc.mono λe W' hR=> ?_;cases e with
 |panicked=>exact hR.elim
 |outgrown=>exact hR.elim
 |returned v=>
  obtain⟨c3,_,s5,_,uZ⟩:=hR;have hv:v= .bool true:=uZ;subst hv;have hb:Below W.heap.size W W':=⟨s5.os,s5.tape,s5.output,s5.size,λk hk=>s5.same k hk (λ⟨nm,o,h,_⟩=>kS h)⟩
  have Ka:=hfn ds hdl;refine⟨_,rfl,ds,[],_,[],p,[],hW', ?_, ?_, ?_,hb.frame _,λh=>by cases h⟩
  ·rw[da,Ka,ab2];exact trodAll_mk1 (shut_bool htb _)
  ·rw[da,Ka];exact A3 hl hb Wx hA (λx hx=>ix x (bw _ hx))
  ·rw[da,Ka,Kc];rfl
end Go.FG

namespace Go.FG
def iI(s:ai)(i:au):au:=(s.data.getD i 0).toNat
abbrev bE(x:ax):ax:=aj.wrap x
inductive eV where
 |I (n:ax)|B (x:aL)|S (x:ai)|R (xs:aY)|N (n:au)
def gI:ak eV->ax| .I n::_=>n|_=>0
def gB:ak eV->aL| .B n::_=>n|_=>ah
def gS:ak eV->ai| .S n::_=>n|_=>⟨#[]⟩
def gR:ak eV->aY| .R n::_=>n|_=>[]
def gN:ak eV->au| .N n::_=>n|_=>0
def hCV:CV->ak eV
 | .i _ n=>[.I n]| .b x=>[.B x]| .s x=>[.S x]| .l _ xs=>[.R xs]
def sCV:CV->CV->aL
 | .i k _, .i k' _=>decide (k=k')| .b _, .b _=>ae| .s _, .s _=>ae| .l e _, .l e' _=>a_ e e'|_,_=>ah
def Y5(s:CV)(l:ak eV):CV×ak eV:=
 match s with
 | .i k _=>(.i k (gI l),l.tail)| .b _=>(.b (gB l),l.tail)| .s _=>(.s (gS l),l.tail)| .l e _=>(.l e (gR l),l.tail)
def BW:ak CV->ak eV|[]=>[]|a::r=>hCV a++BW r
def AW:ak CV->ak CV->aL|[],[]=>ae|a::r,b::t=>sCV a b&&AW r t|_,_=>ah
def tL:ak CV->ak eV->ak CV×ak eV
 |[],l=>([],l)|a::r,l=>((Y5 a l).1::(tL r (Y5 a l).2).1,(tL r (Y5 a l).2).2)
def yZ:ak (ak CV)->ak eV|[]=>[]|a::r=>BW a++yZ r
def zt:ak (ak CV)->ak (ak CV)->aL|[],[]=>ae|a::r,b::t=>AW a b&&zt r t|_,_=>ah
def uA:ak (ak CV)->ak eV->ak (ak CV)×ak eV
 |[],l=>([],l)|a::r,l=>((tL a l).1::(uA r (tL a l).2).1,(uA r (tL a l).2).2)
theorem Sy{s a:CV}(h:sCV s a=ae)(l:ak eV):Y5 s (hCV a++l)=(a,l):=by
 cases s<;>cases a<;>simp only[sCV,a9,cJ,YY]at h<;>first|exact h.elim|skip
 all_goals first|(subst h;rfl)|rfl
theorem r_:∀{s a:ak CV},AW s a=ae->∀l,tL s (BW a++l)=(a,l)
 |[],[],_,l=>rfl
 |s::ss,a::as,h,l=>by
  simp only[AW,az]at h;simp only[tL,BW,bR,Sy h.1,r_ h.2]
 |[],_::_,h,_=>by cases h
 |_::_,[],h,_=>by cases h
theorem wF:∀{s a:ak (ak CV)},zt s a=ae->∀l,uA s (yZ a++l)=(a,l)
 |[],[],_,l=>rfl
 |s::ss,a::as,h,l=>by
  simp only[zt,az]at h;simp only[uA,yZ,bR,r_ h.1,wF h.2]
 |[],_::_,h,_=>by cases h
 |_::_,[],h,_=>by cases h
def Y8:AV->ak eV
 | .i _ n=>[.I n]| .b x=>[.B x]| .s x=>[.S x]| .sh _ xs=>[.R xs]| .vw _ lo hi=>[.N lo, .N hi]| .rp _ i _=>[.N i]
 | .sp _ xs i _=>[.R xs, .N i]| .inn _ i _=>[.N i]| .ip _ i _ i2 _=>[.N i, .N i2]| .fn _ fV=>yZ fV| .fp xs _=>BW xs|_=>[]
def OK:AV->AV->aL
 | .i k _, .i k' _=>decide (k=k')| .b _, .b _=>ae| .s _, .s _=>ae| .sh e _, .sh e' _=>a_ e e'| .nl, .nl=>ae
 | .own n, .own n'=>a_ n n'| .vw n _ _, .vw n' _ _=>a_ n n'| .bp n j, .bp n' j'=>a_ n n'&&a_ j j'| .rp n _ j, .rp n' _ j'=>a_ n n'&&a_ j j'
 | .sp e _ _ j, .sp e' _ _ j'=>a_ e e'&&a_ j j'| .inn n _ j, .inn n' _ j'=>a_ n n'&&a_ j j'
 | .ip n _ j _ q, .ip n' _ j' _ q'=>a_ n n'&&a_ j j'&&a_ q q'| .fn f c, .fn f' c'=>a_ f f'&&zt c c'| .fp c j, .fp c' j'=>a_ j j'&&AW c c'
 |_,_=>ah
def Uw(s:AV)(l:ak eV):AV×ak eV:=
 match s with
 | .i k _=>(.i k (gI l),l.tail)| .b _=>(.b (gB l),l.tail)| .s _=>(.s (gS l),l.tail)| .sh e _=>(.sh e (gR l),l.tail)
 | .vw n _ _=>(.vw n (gN l) (gN l.tail),l.tail.tail)| .rp n _ j=>(.rp n (gN l) j,l.tail)| .sp e _ _ j=>(.sp e (gR l) (gN l.tail) j,l.tail.tail)
 | .inn n _ j=>(.inn n (gN l) j,l.tail)| .ip n _ j _ q=>(.ip n (gN l) j (gN l.tail) q,l.tail.tail)| .fn f c=>(.fn f (uA c l).1,(uA c l).2)| .fp c j=>(.fp (tL c l).1 j,(tL c l).2)
 |a=>(a,l)
def G2:ak AV->ak eV|[]=>[]|a::r=>Y8 a++G2 r
def Eo:ak AV->ak AV->aL|[],[]=>ae|a::r,b::t=>OK a b&&Eo r t|_,_=>ah
def wE:ak AV->ak eV->ak AV×ak eV
 |[],l=>([],l)|a::r,l=>((Uw a l).1::(wE r (Uw a l).2).1,(wE r (Uw a l).2).2)
def Ng(a b:aL):aL:=bif a then b else !b
def Nu:ak (aL×ak AV)->ak eV|[]=>[]|(_,xs)::r=>G2 xs++Nu r
def Lf:ak (aL×ak AV)->ak (aL×ak AV)->aL
 |[],[]=>ae|(g,xs)::r,(g',ys)::t=>Ng g g'&&Eo xs ys&&Lf r t|_,_=>ah
def GV:ak (aL×ak AV)->ak eV->ak (aL×ak AV)×ak eV
 |[],l=>([],l)|(g,xs)::r,l=>((g,(wE xs l).1)::(GV r (wE xs l).2).1,(GV r (wE xs l).2).2)
def G3:dF->ak eV
 | .v (.v _ xs)=>G2 xs| .v (.gM l)=>Nu l| .o (.box xs)=>G2 xs| .o (.lk cs)=>BW cs| .o (.row _ _ xs)=>[.R xs]| .o (.ej _ xs)=>[.R xs]|_=>[]
def ON:dF->dF->aL
 | .v (.v g xs), .v (.v g' ys)=>Ng g g'&&Eo xs ys| .v (.gM l), .v (.gM r)=>Lf l r| .v .un, .v .un=>ae
 | .o (.box xs), .o (.box ys)=>Eo xs ys| .o (.lk c), .o (.lk c')=>AW c c'| .o (.row e x _), .o (.row e' x' _)=>a_ e e'&&Ng x x'| .o (.ej e _), .o (.ej e' _)=>a_ e e'
 | .o .dead, .o .dead=>ae| .ie, .ie=>ae|_,_=>ah
def DG(c:dF)(l:ak eV):dF×ak eV:=
 match c with
 | .v (.v g xs)=>(.v (.v g (wE xs l).1),(wE xs l).2)| .v (.gM r)=>(.v (.gM (GV r l).1),(GV r l).2)
 | .o (.box xs)=>(.o (.box (wE xs l).1),(wE xs l).2)| .o (.lk c)=>(.o (.lk (tL c l).1),(tL c l).2)| .o (.row e x _)=>(.o (.row e x (gR l)),l.tail)| .o (.ej e _)=>(.o (.ej e (gR l)),l.tail)
 |c=>(c,l)
def B8:ak (au×dF)->ak eV|[]=>[]|(_,c)::r=>G3 c++B8 r
def ub:ak (au×dF)->ak (au×dF)->aL
 |[],[]=>ae|(k,c)::r,(k',c')::t=>a_ k k'&&ON c c'&&ub r t|_,_=>ah
def Ft:ak (au×dF)->ak eV->ak (au×dF)
 |[],_=>[]|(k,c)::r,l=>(k,(DG c l).1)::Ft r (DG c l).2
theorem wC{a b:aL}(h:Ng a b=ae):a=b:=by cases a<;>cases b<;>first|rfl|cases h
theorem Sx{s a:AV}(h:OK s a=ae)(l:ak eV):Uw s (Y8 a++l)=(a,l):=by
 match s,a,h with
 | .fn f c, .fn f' c',h=>simp only[OK,az]at h;have h1:=aJ h.1;subst h1;simp only[Uw,Y8,wF h.2]
 | .fp c j, .fp c' j',h=>simp only[OK,az]at h;have h1:=aJ h.1;subst h1;simp only[Uw,Y8,r_ h.2]
 | .i k _, .i k' _,h=>have h1:=bU (show decide (k=k')=ae from h);subst h1;rfl
 | .b _, .b _,_=>rfl
 | .s _, .s _,_=>rfl
 | .sh e _, .sh e' _,h=>have h1:=aJ (show a_ e e'=ae from h);subst h1;rfl
 | .nl, .nl,_=>rfl
 | .own n, .own n',h=>have h1:=aJ (show a_ n n'=ae from h);subst h1;rfl
 | .vw n _ _, .vw n' _ _,h=>have h1:=aJ (show a_ n n'=ae from h);subst h1;rfl
 | .bp n j, .bp n' j',h=>simp only[OK,az]at h;have h1:=aJ h.1;have h2:=aJ h.2;subst h1;subst h2;rfl
 | .rp n _ j, .rp n' _ j',h=>simp only[OK,az]at h;have h1:=aJ h.1;have h2:=aJ h.2;subst h1;subst h2;rfl
 | .sp n _ _ j, .sp n' _ _ j',h=>simp only[OK,az]at h;have h1:=aJ h.1;have h2:=aJ h.2;subst h1;subst h2;rfl
 | .inn n _ j, .inn n' _ j',h=>simp only[OK,az]at h;have h1:=aJ h.1;have h2:=aJ h.2;subst h1;subst h2;rfl
 | .ip n _ j _ q, .ip n' _ j' _ q',h=>simp only[OK,az]at h;have h1:=aJ h.1.1;have h2:=aJ h.1.2;have h3:=aJ h.2;subst h1;subst h2;subst h3;rfl
theorem vq:∀{s a:ak AV},Eo s a=ae->∀l,wE s (G2 a++l)=(a,l)
 |[],[],_,l=>rfl
 |s::ss,a::as,h,l=>by
  simp only[Eo,az]at h;simp only[wE,G2,bR,Sx h.1,vq h.2]
 |[],_::_,h,_=>by cases h
 |_::_,[],h,_=>by cases h
theorem Fq:∀{s a:ak (aL×ak AV)},Lf s a=ae->∀l,GV s (Nu a++l)=(a,l)
 |[],[],_,l=>rfl
 |(g,xs)::ss,(g',ys)::as,h,l=>by
  simp only[Lf,az]at h;obtain⟨⟨h1,h2⟩,h3⟩:=h;have h1:=wC h1;subst h1;simp only[GV,Nu,bR,vq h2,Fq h3]
 |[],_::_,h,_=>by cases h
 |_::_,[],h,_=>by cases h
theorem Nm{s c:dF}(h:ON s c=ae)(l:ak eV):DG s (G3 c++l)=(c,l):=by
 match s,c,h with
 | .v (.v g xs), .v (.v g' ys),h=>simp only[ON,az]at h;have h1:=wC h.1;subst h1;simp only[DG,G3,vq h.2]
 | .v (.gM r), .v (.gM r'),h=>simp only[DG,G3,Fq (show Lf r r'=ae from h)]
 | .v .un, .v .un,_=>rfl
 | .o (.box xs), .o (.box ys),h=>simp only[DG,G3,vq (show Eo xs ys=ae from h)]
 | .o (.lk c), .o (.lk c'),h=>simp only[DG,G3,r_ (show AW c c'=ae from h)]
 | .o (.row e x _), .o (.row e' x' _),h=>simp only[ON,az]at h;have h1:=wC h.2;have h2:=aJ h.1;subst h1;subst h2;rfl
 | .o (.ej e _), .o (.ej e' _),h=>have h2:=aJ h;subst h2;rfl
 | .o .dead, .o .dead,_=>rfl
 | .ie, .ie,_=>rfl
theorem BQ:∀{S L:ak (au×dF)},ub S L=ae->Ft S (B8 L)=L
 |[],[],_=>rfl
 |(k,s)::S,(k',c)::L,h=>by
  simp only[ub,az]at h;obtain⟨⟨h1,h2⟩,h3⟩:=h;have h1:=aJ h1;subst h1;simp only[Ft,B8,Nm h2,BQ h3]
 |[],_::_,h=>by cases h
 |_::_,[],h=>by cases h
def tell{R:Type}(S:ak (au×dF))(H:ak eV->ar R)(L:ak (au×dF))(other:ar R):ar R:=bif ub S L then H (B8 L)else other
def Kr:ak (au×ak au)->au->ak au
 |[],_=>[]|(k,l)::r,n=>bif a_ n k then l else Kr r n
def XF:ak (au×au×Om)->au->au->Om
 |[],_,_=> .nat|(q,j,o)::r,n,m=>bif a_ n q&&a_ m j then o else XF r n m
def KC:ak (au×au)->au->au->aL
 |[],_,_=>ah|(f,p)::r,n,m=>(a_ n f&&a_ m p)||KC r n m
def XJ:ak (au×au)->au->ar au
 |[],_=>af|(k,e)::r,n=>bif a_ n k then ab e else XJ r n
theorem cW{p:Code->Prop}:∀c∈([]:ak Code),p c:=λc h=>by cases h
theorem cz{p:Code->Prop}{c:Code}{l:ak Code}(h:p c)(hl:∀d∈l,p d):∀d∈c::l,p d:=λd hd=>by
 rcases bP.1 hd with rfl|hd
 ·exact h
 ·exact hl d hd
def m_:ak (au×(ak dO->ar (aL×dp)))->au->ak dO->ar (aL×dp)
 |[],_,_=>af
 |(k,s)::r,g,a=>bif a_ g k then(match s a with|some x=>ab x|none=>m_ r g a)else m_ r g a
theorem bH{P:b9}{T:Tab}:∀g,jf P T g (m_ [] g):=λg=>GX λ_=>rfl
theorem aT{P:b9}{T:Tab}{k:au}{s:ak dO->ar (aL×dp)}{L:ak (au×(ak dO->ar (aL×dp)))}(h:jf P T k s)(hl:∀g,jf P T g (m_ L g)):∀g,jf P T g (m_ ((k,s)::L) g):=by
 intro g;cases hb:a_ g k with
 |true=>
  have:=aJ hb;subst this;intro args r hr;unfold m_ at hr;rw[hb,aw]at hr;cases hs:s args with
  |some x=>rw[hs]at hr;exact h args r (hs.trans hr)
  |none=>rw[hs]at hr;exact hl g args r hr
 |false=>
  have e:m_ ((k,s)::L) g=m_ L g:=by funext a;simp only[m_,hb,aC]
  rw[e];exact hl g
def mkE(T:Tab)(md:ak (au×au))(cs:ak (au×(ak dO->ar (aL×dp))))(ks:ak (au×ak au))(tk:ak au)(om:ak (au×au×Om)):eh:={toTab:=T,call:=m_ cs,mode:=KC md,keep:=Kr ks,tk:=λn=>jO n tk,om:=XF om}
end Go.FG

namespace Go.FG
theorem Ez{T:Tab}{t:au}{ts:ak au}{oE:ak (ak CV)}(h:lX T (t::ts) oE):∃ys YP,oE=ys::YP/\(∃ti,T.ty t=ab ti/\ys.map CV.kd=ti.ks)/\(∀y∈ys,nQ T y)/\lX T ts YP:=by
 cases oE with
 |nil=>exact h.elim
 |cons ys oE=>exact⟨ys,oE,rfl,h.1,h.2.1,h.2.2⟩
theorem HL{T:Tab}{oE:ak (ak CV)}(h:lX T [] oE):oE=[]:=by
 cases oE with
 |nil=>rfl
 |cons=>exact h.elim
theorem N0{T:Tab}{k:Ck}{ks:ak Ck}{ys:ak CV}(h:ys.map CV.kd=k::ks)(hf:∀y∈ys,nQ T y):∃y xY,ys=y::xY/\y.kd=k/\nQ T y/\xY.map CV.kd=ks/\∀y∈xY,nQ T y:=by
 cases ys with
 |nil=>cases h
 |cons y ys=>rw[dW,Pz]at h;exact⟨y,ys,rfl,h.1,hf y (cR ..),h.2,λz hz=>hf z (b_ _ hz)⟩
theorem To{ys:ak CV}(h:ys.map CV.kd=[]):ys=[]:=by simpa using h
theorem ady{T:Tab}{e:au}{y:CV}(h:y.kd= .l e)(hf:nQ T y):∃xs,y= .l e xs/\nQ T (.l e xs):=by cases y<;>simp[CV.kd]at h;subst h;exact⟨_,rfl,hf⟩
theorem pP{x:ax}(h1: -9223372036854775808<=x)(h2:x<=9223372036854775807):bE x=x:=by
 have e:bE x=if(decide (x%18446744073709551616≥9223372036854775808))=ae then x%18446744073709551616-18446744073709551616 else x%18446744073709551616:=rfl
 rw[e];by_cases h:x%18446744073709551616≥9223372036854775808
 ·rw[br (aE h)];omega
 ·rw[bF (by simpa using h)];omega
end Go.FG

namespace Go.FG
inductive Ho where|I|B|S|R|N
abbrev den:Ho->Type
 | .I=>ax| .B=>aL| .S=>ai| .R=>aY| .N=>au
abbrev Fn:ak Ho->Type->Type
 |[],A=>A|h::s,A=>den h->Fn s A
abbrev Tu:ak Ho->Type
 |[]=>Unit|h::s=>den h×Tu s
abbrev Pr:ak Ho->Type
 |[]=>Unit|[h]=>den h|h::s=>den h×Pr s
def df:(h:Ho)->den h
 | .I=>(0:ax)| .B=>ah| .S=>(⟨#[]⟩:ai)| .R=>([]:aY)| .N=>(0:au)
def lf:(h:Ho)->den h->eV
 | .I,x=> .I x| .B,x=> .B x| .S,x=> .S x| .R,x=> .R x| .N,x=> .N x
def ap{A:Type}:(s:ak Ho)->Fn s A->Tu s->A
 |[],f,_=>f|_::s,f,x=>ap s (f x.1) x.2
def cmp{A B:Type}:(s:ak Ho)->Fn s A->(A->B)->Fn s B
 |[],f,g=>g f|_::s,f,g=>λy=>cmp s (f y) g
def Fl{A:Type}:(s:ak Ho)->Fn s A->A
 |[],f=>f|h::s,f=>Fl s (f (df h))
def lv:(s:ak Ho)->Tu s->ak eV
 |[],_=>[]|h::s,x=>lf h x.1::lv s x.2
def MY{A:Type}:(s:ak Ho)->Fn s (ar A)->ak eV->ar A
 |[],f,[]=>f
 | .I::s,f, .I x::l=>MY s (f x) l| .B::s,f, .B x::l=>MY s (f x) l| .S::s,f, .S x::l=>MY s (f x) l
 | .R::s,f, .R x::l=>MY s (f x) l| .N::s,f, .N x::l=>MY s (f x) l
 |_,_,_=>af
def gM:(s:ak Ho)->Fn s (Pr s)
 |[]=>()|[_]=>λx=>x|_::h::s=>λx=>cmp (h::s) (gM (h::s)) λp=>(x,p)
def R8{A:Type}:(s:ak Ho)->Fn s A->Pr s->A
 |[],f,_=>f|[_],f,p=>f p|_::h::s,f,p=>R8 (h::s) (f p.1) p.2
theorem wg{A:Type}{s:ak Ho}{f:Fn s (ar A)}{l:ak eV}{a:A}(h:MY s f l=ab a):∃x,l=lv s x/\ap s f x=ab a:=by
 induction s generalizing l with
 |nil=>cases l with
  |nil=>exact⟨(),rfl,h⟩
  |cons=>cases h
 |cons k s ih=>
  cases l with
  |nil=>cases k<;>cases h
  |cons y l=>cases k<;>cases y<;>first|(obtain⟨x,rfl,hx⟩:=ih h;exact⟨(_,x),rfl,hx⟩)|cases h
theorem wh{A B:Type}{s:ak Ho}(f:Fn s A)(g:A->B)(x:Tu s):ap s (cmp s f g) x=g (ap s f x):=by
 induction s with
 |nil=>rfl
 |cons k s ih=>exact ih _ _
theorem R9{A:Type}{s:ak Ho}{f g:Fn s A}(h:∀x,ap s f x=ap s g x):f=g:=by
 induction s with
 |nil=>exact h ()
 |cons k s ih=>exact funext λy=>ih λx=>h (y,x)
theorem MZ{A:Type}{s:ak Ho}(f:Fn s A)(x:Tu s):R8 s f (ap s (gM s) x)=ap s f x:=by
 induction s with
 |nil=>rfl
 |cons k s ih=>
  cases s with
  |nil=>rfl
  |cons h s=>exact(o6 (R8 (k::h::s) f) (wh ..)).trans (ih ..)
def Y7:AA->ak eV
 | .i _ n=>[.I n]| .b x=>[.B x]| .s x=>[.S x]| .sh _ xs=>[.R xs]| .ow _ _ xs=>[.R xs]| .kp xs=>[.R xs]| .fn _ c=>yZ c| .nl=>[]
def XR:AA->AA->aL
 | .i k _, .i k' _=>decide (k=k')| .b _, .b _=>ae| .s _, .s _=>ae| .sh e _, .sh e' _=>a_ e e'| .ow e x _, .ow e' x' _=>a_ e e'&&Ng x x'
 | .kp _, .kp _=>ae| .fn f c, .fn f' c'=>a_ f f'&&zt c c'| .nl, .nl=>ae|_,_=>ah
def VO(s:AA)(l:ak eV):AA×ak eV:=
 match s with
 | .i k _=>(.i k (gI l),l.tail)| .b _=>(.b (gB l),l.tail)| .s _=>(.s (gS l),l.tail)| .sh e _=>(.sh e (gR l),l.tail)| .ow e x _=>(.ow e x (gR l),l.tail)
 | .kp _=>(.kp (gR l),l.tail)| .fn f c=>(.fn f (uA c l).1,(uA c l).2)| .nl=>(.nl,l)
def DQ:ak AA->ak eV|[]=>[]|a::r=>Y7 a++DQ r
def Em:ak AA->ak AA->aL|[],[]=>ae|a::r,b::t=>XR a b&&Em r t|_,_=>ah
def BP:ak AA->ak eV->ak AA×ak eV
 |[],l=>([],l)|a::r,l=>((VO a l).1::(BP r (VO a l).2).1,(BP r (VO a l).2).2)
def DR:dO->ak eV
 | .v _ xs=>DQ xs| .pt xs=>DQ xs| .fb xs=>BW xs
def HG:dO->dO->aL
 | .v g xs, .v g' ys=>Ng g g'&&Em xs ys| .pt xs, .pt ys=>Em xs ys| .fb xs, .fb ys=>AW xs ys|_,_=>ah
def DF(s:dO)(l:ak eV):dO×ak eV:=
 match s with
 | .v g xs=>(.v g (BP xs l).1,(BP xs l).2)| .pt xs=>(.pt (BP xs l).1,(BP xs l).2)| .fb xs=>(.fb (tL xs l).1,(tL xs l).2)
def Uy:ak dO->ak eV|[]=>[]|a::r=>DR a++Uy r
def OM:ak dO->ak dO->aL|[],[]=>ae|a::r,b::t=>HG a b&&OM r t|_,_=>ah
def Nk:ak dO->ak eV->ak dO×ak eV
 |[],l=>([],l)|a::r,l=>((DF a l).1::(Nk r (DF a l).2).1,(Nk r (DF a l).2).2)
def Cw(l:ak (ak AA)):ak dO:=l.map (.v ae)
theorem Sw{s a:AA}(h:XR s a=ae)(l:ak eV):VO s (Y7 a++l)=(a,l):=by
 cases s<;>cases a<;>simp only[XR,a9,cJ,YY,az]at h<;>first|exact h.elim|skip
 all_goals first|rfl|(subst h;rfl)|(obtain⟨rfl,h⟩:=h;first|(obtain rfl:=wC h;rfl)|(simp only[VO,Y7,wF h]))
theorem Ai:∀{s a:ak AA},Em s a=ae->∀l,BP s (DQ a++l)=(a,l)
 |[],[],_,l=>rfl
 |s::ss,a::as,h,l=>by
  simp only[Em,az]at h;simp only[BP,DQ,bR,Sw h.1,Ai h.2]
theorem Nl{s a:dO}(h:HG s a=ae)(l:ak eV):DF s (DR a++l)=(a,l):=by
 cases s<;>cases a<;>simp only[HG,cJ,az]at h
 ·obtain⟨h1,h⟩:=h;obtain rfl:=wC h1;simp only[DF,DR,Ai h]
 ·simp only[DF,DR,Ai h]
 ·simp only[DF,DR,r_ h]
theorem DE:∀{s a:ak dO},OM s a=ae->∀l,Nk s (Uy a++l)=(a,l)
 |[],[],_,l=>rfl
 |s::ss,a::as,h,l=>by
  simp only[OM,az]at h;simp only[Nk,Uy,bR,Nl h.1,DE h.2]
theorem JK{s a:ak dO}(h:OM s a=ae):(Nk s (Uy a)).1=a:=by have:=DE h [];rw[da]at this;rw[this]
def xAA{B:Type}(s a:AA)(k:ak eV->ar B):ar B:=
 match s,a with
 | .i k1 _, .i k2 n=>bif decide (k1=k2)then k [.I n]else af
 | .b _, .b n=>k [.B n]
 | .s _, .s n=>k [.S n]
 | .sh e _, .sh e' n=>bif a_ e e' then k [.R n]else af
 | .ow e x _, .ow e' x' n=>bif a_ e e'&&Ng x x' then k [.R n]else af
 | .kp _, .kp n=>k [.R n]
 | .fn f c, .fn f' c'=>bif a_ f f'&&zt c c' then k (yZ c')else af
 | .nl, .nl=>k []
 |_,_=>af
def LY{B:Type}:ak AA->ak AA->(ak eV->ar B)->ar B
 |[],[],k=>k []|s::ss,a::as,k=>xAA s a λl=>LY ss as λr=>k (l++r)|_,_,_=>af
def Ul{B:Type}(s a:dO)(k:ak eV->ar B):ar B:=
 match s,a with
 | .v g xs, .v g' ys=>bif Ng g g' then LY xs ys k else af
 | .pt xs, .pt ys=>LY xs ys k
 | .fb xs, .fb ys=>bif AW xs ys then k (BW ys)else af
 |_,_=>af
def UR{B:Type}:ak dO->ak dO->(ak eV->ar B)->ar B
 |[],[],k=>k []|s::ss,a::as,k=>Ul s a λl=>UR ss as λr=>k (l++r)|_,_,_=>af
theorem Uk{B:Type}(s a:AA)(k:ak eV->ar B):xAA s a k=bif XR s a then k (Y7 a)else none:=by cases s<;>cases a<;>rfl
theorem Gq{B:Type}:∀(s a:ak AA) (k:ak eV->ar B),LY s a k=bif Em s a then k (DQ a)else af
 |[],[],_=>rfl
 |s::ss,a::as,k=>by
  simp only[LY,Uk,Gq ss as,Em,DQ];cases XR s a<;>rfl
 |[],_::_,_=>rfl
 |_::_,[],_=>rfl
theorem OZ{B:Type}(s a:dO)(k:ak eV->ar B):Ul s a k=bif HG s a then k (DR a)else none:=by
 cases s<;>cases a<;>simp only[Ul,HG,DR,Gq]<;>try rfl
 rename_i g xs g' ys;cases Ng g g'<;>rfl
theorem A8{B:Type}:∀(s a:ak dO) (k:ak eV->ar B),UR s a k=bif OM s a then k (Uy a)else af
 |[],[],_=>rfl
 |s::ss,a::as,k=>by
  simp only[UR,OZ,A8 ss as,OM,Uy];cases HG s a<;>rfl
 |[],_::_,_=>rfl
 |_::_,[],_=>rfl
def Rf{A:Type}(s:ak Ho)(T:Fn s (ak dO))(f:Fn s (ar A))(a:ak dO):ar A:=UR (Fl s T) a (MY s f)
def Up(s t:ak Ho)(k:Fn t dp)(c:Fn s aL)(v:Fn s (Pr t)):Fn s (ar (aL×dp)):=
 match s with
 |[]=>ab (c,R8 t k v)
 |_::s=>λx=>Up s t k (c x) (v x)
theorem O3{s t:ak Ho}{k:Fn t dp}{c:Fn s aL}{v:Fn s (Pr t)}(x:Tu s):ap s (Up s t k c v) x=ab (ap s c x,R8 t k (ap s v x)):=by
 induction s with
 |nil=>rfl
 |cons h s ih=>exact ih _
def dR{s t:ak Ho}(A:Fn s (ak dO))(k:Fn t dp)(c:Fn s aL)(v:Fn s (Pr t)):ak dO->ar (aL×dp):=Rf s A (Up s t k c v)
def M6{t:ak Ho}(k:Fn t dp)(r:dp):ar (Pr t):=
 UR (Fl t k).rs r.rs λl=>UR (Cw (Fl t k).outs) (Cw r.outs) λm=>MY t (cmp t (gM t) ab) (l++m)
def TQ{s:ak Ho}(A:Fn s (ak dO)):Prop:=∀x,(Nk (Fl s A) (lv s x)).1=ap s A x
def TR{t:ak Ho}(k:Fn t dp):Prop:=∀x,(⟨(Nk (Fl t k).rs (lv t x)).1,(Nk (Cw (Fl t k).outs) (Nk (Fl t k).rs (lv t x)).2).1⟩:ak dO×ak dO)=⟨(ap t k x).rs,Cw (ap t k x).outs⟩
def XD{s:ak Ho}(T:Fn s (ak (au×dF))):Prop:=∀x,Ft (Fl s T) (lv s x)=ap s T x
theorem Cx:∀{a b:ak (ak AA)},Cw a=Cw b->a=b
 |[],[],_=>rfl
 |_::_,_::_,h=>by
  obtain⟨h1,h2⟩:=jP h;obtain⟨_,rfl⟩:=dO.v.inj h1;rw[Cx h2]
 |[],_::_,h=>by cases h
 |_::_,[],h=>by cases h
theorem GP{t:ak Ho}{k:Fn t dp}(hk:TR k){r:dp}{p:Pr t}(h:M6 k r=ab p):r=R8 t k p:=by
 unfold M6 at h;rw[A8]at h;cases hb:OM (Fl t k).rs r.rs with
 |false=>rw[hb]at h;cases h
 |true=>
  rw[hb,aw,A8]at h;cases hc:OM (Cw (Fl t k).outs) (Cw r.outs)with
  |false=>rw[hc]at h;cases h
  |true=>rw[hc,aw]at h;obtain⟨x,h1,h2⟩:=wg h;rw[wh]at h2;obtain rfl:=aq h2;rw[MZ];have hx:=hk x;rw[<-h1,DE hb,JK hc]at hx;obtain⟨e1,e2⟩:=bn hx;have e3:=Cx e2;cases r;cases hr:ap t k x;rw[hr]at e1 e3;cases e1;cases e3;rfl
theorem CP{s t:ak Ho}{A:Fn s (ak dO)}(hA:TQ A){k:Fn t dp}{c:Fn s aL}{v:Fn s (Pr t)}{args:ak dO}{r:aL×dp}(h:dR A k c v args=ab r):∃x,args=ap s A x/\r=(ap s c x,R8 t k (ap s v x)):=by
 unfold dR Rf at h;rw[A8]at h;cases hb:OM (Fl s A) args with
 |false=>rw[hb]at h;cases h
 |true=>rw[hb,aw]at h;obtain⟨x,h1,h2⟩:=wg h;rw[O3]at h2;exact⟨x,by rw[<-hA x,<-h1,JK hb],(aq h2).symm⟩
def wm{t:ak Ho}(E:eh)(it:It (Pr t))(F:Func)(k:Fn t dp)(args:ak dO):ar (Pr t):=
 match F.body with
 |some c=>pf E it c (inj args) λe σ=>(fin E F args e σ).bind (M6 k)
 |none=>af
def BH(F:Func)(A:ak dO):aL:=
 (match F.body with|some c=> !(F.name== "runtime.NumGoroutine")&&pe F.ntmps c|none=>ah)&&uc A&&dZ A.length F.ntmps
theorem flh{P:b9}{E:eh}(hE:dv P E)(hm:P.follows .mixedOrders=ae)(hF:∀g,jf P E g (E.call g)){g:au}{F:Func}(hf:P.funcs[g]? =ab F){s t:ak Ho}{A:Fn s (ak dO)}{k:Fn t dp}{it:au->It (Pr t)}
  (hc:∀x,BH F (ap s A x)=ae) {l:ak Code} (hl:ib (F.body.getD .skip)=l) (wQ:∀N,∀c∈l,dy E (it N) c) (hA:TQ A) (hk:TR k)
  {c:Fn s aL} {v:Fn s (Pr t)} (h:∀x,sb (ap s A x)->ap s c x=ae->∃N,wm E (it N) F k (ap s A x)=ab (ap s v x)):jf P E g (dR A k c v):=by
 intro args r hr;obtain⟨x,rfl,_⟩:=CP hA hr;have hx:=hc x;unfold BH at hx;cases hb:F.body with
 |none=>rw[hb]at hx;cases hx
 |some code=>
  rw[hb]at hl hx;have hl:ib code=l:=hl;simp only[az,dt]at hx;refine SB hE hF hm hf hb (by rw[hx.1.1.1,hx.1.1.2];rfl) (λargs r hr=> ?_) _ r hr;obtain⟨x,rfl,hq⟩:=CP hA hr;obtain⟨h1,rfl⟩:=bn hq;have hx:=hc x;unfold BH at hx;simp only[az]at hx;refine⟨hx.1.2,λhf=> ?_⟩
  obtain⟨N,h⟩:=h x hf h1.symm;refine⟨bN hx.2,Pr t,it N,λe σ=>(fin E F (ap s A x) e σ).bind (M6 k),ap s v x,by rw[hl];exact wQ N, ?_,λe σ he=> ?_⟩
  ·unfold wm at h;rw[hb]at h;exact h
  ·obtain⟨r,hr,hd⟩:=Option.bind_eq_some_iff.1 he;rw[hr,GP hk hd]
theorem R_{s t:ak Ho}{c:Fn s aL}{v:Fn s (Pr t)}{w:Fn s (ar (Pr t))}{d:Pr t}(hc:cmp s w kJ=c)(hv:cmp s w (λo=>o.getD d)=v)(x:Tu s)(h:ap s c x=ae):ap s w x=ab (ap s v x):=by
 subst hc hv;rw[wh]at h;rw[wh];cases hw:ap s w x with
 |none=>rw[hw]at h;cases h
 |some y=>rfl
theorem fl{P:b9}{E:eh}(hE:dv P E)(hm:P.follows .mixedOrders=ae)(hF:∀g,jf P E g (E.call g)){g:au}{F:Func}(hf:P.funcs[g]? =ab F){s t:ak Ho}{A:Fn s (ak dO)}{k:Fn t dp}{it:au->It (Pr t)}
  (hc:∀x,BH F (ap s A x)=ae) {l:ak Code} (hl:ib (F.body.getD .skip)=l) (wQ:∀N,∀c∈l,dy E (it N) c) (hA:TQ A) (hk:TR k)
  {c:Fn s aL} {v:Fn s (Pr t)} {w:au->Fn s (ar (Pr t))} {u:Fn s (ar (Pr t))} {d:Pr t} (N:au) (h:∀N x,wm E (it N) F k (ap s A x)=ap s (w N) x) (hw:w N=u) (h1:cmp s u kJ=c) (h2:cmp s u (λo=>o.getD d)=v):jf P E g (dR A k c v):=
 flh hE hm hF hf hc hl wQ hA hk λx _ hx=>⟨N,(h N x).trans (by rw[hw];exact R_ h1 h2 x hx)⟩
def ct:(s:ak Ho)->Fn s aL
 |[]=>ae|_::s=>λ_=>ct s
abbrev Kt(R:Type):=Ex->St->ar R
abbrev Tb:=ak (au×dF)
def J{R:Type}{s:ak Ho}(T:Fn s Tb)(e:Ex)(K:Kt R):Fn s (ar R):=cmp s T λt=>K e (gk t)
def al{R:Type}{s:ak Ho}(T:Fn s Tb)(f:Kt R->Fn s (ar R))(o:Tb->Kt R->ar R):Tb->Kt R->ar R:=λL K=>bif ub (Fl s T) L then MY s (f K) (B8 L)else o L K
def an{R:Type}:Tb->Kt R->ar R:=λ_ _=>af
def lp{R:Type}(n:au)(a:Tb->Kt R->ar R)(o:It R):It R:=λlx f cn L K=>bif a_ lx n then a L K else o lx f cn L K
def ln{R:Type}:It R:=λ_ _ _ _ _=>af
theorem MW{R:Type}{s:ak Ho}{T:Fn s Tb}(hT:XD T){f:Kt R->Fn s (ar R)}{o:Tb->Kt R->ar R}{L:Tb}{K:Kt R}{r:R}(h:al T f o L K=ab r):(∃x,L=ap s T x/\ap s (f K) x=ab r)\/o L K=ab r:=by
 unfold al at h;cases hb:ub (Fl s T) L with
 |false=>rw[hb]at h;exact .inr h
 |true=>rw[hb]at h;obtain⟨x,h1,h2⟩:=wg h;exact .inl ⟨x,by rw[<-hT x,<-h1,BQ hb],h2⟩
section
variable {R:Type} {E:eh} {it:It R} {C:Code} {n:au}
def Good(E:eh)(it:It R)(C:Code)(n:au)(a:Tb->Kt R->ar R):Prop:=∀L K r,a L K=ab r->∃m,iter (pf E it C) (gZ (E.uD n)) m (gk L) K=ab r
def Wd(E:eh)(it:It R)(C:Code)(n:au)(K:Kt R){s:ak Ho}(T:Fn s Tb)(l:au->Fn s (ar R)):Prop:=∀m x,iter (pf E it C) (gZ (E.uD n)) m (gk (ap s T x)) K=ap s (l m) x
theorem Aq:Good E it C n an:=λ_ _ _ h=>by cases h
theorem FC{s:ak Ho}{T:Fn s Tb}(hT:XD T){l:Kt R->au->Fn s (ar R)}{N:au}{o:Tb->Kt R->ar R}(h:∀K,Wd E it C n K T (l K))(ho:Good E it C n o):Good E it C n (al T (λK=>l K N) o):=by
 intro L K r hq;rcases MW hT hq with ⟨x,rfl,hx⟩|hq
 ·exact⟨N,(h K N x).trans hx⟩
 ·exact ho L K r hq
theorem lom(n:au)(hr:eS C=n){a:Tb->Kt R->ar R}(hi:∀L K,it n (pf E it C) (gZ (E.uD n)) L K=a L K)(h:Good E it C n a):dy E it C:=by intro L K q;rw[hr,hi];exact h L K q
theorem wf{K:Kt R}{s:ak Ho}{T:Fn s Tb}{l:au->Fn s (ar R)}{m:au}(h:∀x,iter (pf E it C) (gZ (E.uD n)) m (gk (ap s T x)) K=ap s (l m) x):cmp s T (λt=>iter (pf E it C) (gZ (E.uD n)) m (gk t) K)=l m:=
 R9 λy=>by rw[wh,h]
theorem wl{K:Kt R}{s:ak Ho}{T:Fn s Tb}{l:au->Fn s (ar R)}(r:(St->ar R)->Fn s (ar R))(h0:∀x,ap s (l 0) x=af)
  (h1:∀m,(∀x,iter (pf E it C) (gZ (E.uD n)) m (gk (ap s T x)) K=ap s (l m) x)->r (λσ=>iter (pf E it C) (gZ (E.uD n)) m σ K)=l (m+1))
  (h:∀g x,pf E it C (gk (ap s T x)) (zf g (gZ (E.uD n)) K)=ap s (r g) x):Wd E it C n K T l:=by
 intro m;induction m with
 |zero=>intro x;rw[h0];rfl
 |succ m ih=>intro x;rw[Hb,h,h1 m ih]
theorem lo1(n:au){s:ak Ho}(T:Fn s Tb)(hr:eS C=n)(hT:XD T)(l:Kt R->au->Fn s (ar R))(r:Kt R->Fn s (ar R)->Fn s (ar R)){N:au}
  (hi:∀L K,it n (pf E it C) (gZ (E.uD n)) L K=al T (λK=>l K N) an L K) (h0:∀K x,ap s (l K 0) x=af) (h1:∀K n,l K (n+1)=r K (l K n))
  (h:∀K g x,pf E it C (gk (ap s T x)) (zf g (gZ (E.uD n)) K)=ap s (r K (cmp s T λt=>g (gk t))) x):dy E it C:=
 lom n hr hi (FC hT (λK=>wl (λg=>r K (cmp s T λt=>g (gk t))) (h0 K) (λm i=>by rw[h1];exact o6 (r K) (wf i)) (h K)) Aq)
end
end Go.FG

namespace Go.FG.Lib
def dE:au:=18446744073709551616
def lt{α β:Type}(a:α)(f:α->β):β:=f a
theorem dN{α:Type}{o:ar α}{x d:α}(h:o=ab x):kJ o=ae/\PA o d=x:=by rw[h];exact⟨rfl,rfl⟩
theorem some_{α:Type}{o:ar α}{d:α}(h:kJ o=ae):o=ab (PA o d):=by
 cases o with
 |none=>cases h
 |some x=>rfl
theorem j5{σ β:Type}(F:au->σ->β)(mu:σ->au)(inv:σ->Prop)(res:σ->β)
  (step:∀n s,inv s->F (n+1) s=res s\/∃s',inv s'/\mu s'<mu s/\res s'=res s/\F (n+1) s=F n s'):∀n s,inv s->mu s<n->F n s=res s:=by
 intro n;induction n with
 |zero=>intro s _ h;omega
 |succ n ih=>
  intro s hi hm;rcases step n s hi with h|⟨s',h1,h2,h3,h4⟩
  ·exact h
  ·rw[h4,<-h3];exact ih s' h1 (by omega)
theorem eO(i n:au):decide ((i:ax)<(n:ax))=decide (i<n):=by rw[cO];omega
theorem dC(i:au):decide (0<=(i:ax))=true:=by simp
theorem gg(i:au):aX (i:ax)=i:=rfl
theorem dQ{i n:au}(h:i<n)(hn:n<=9223372036854775807):bE ((i:ax)+1)=((i+1:au):ax):=by rw[pP (by omega) (by omega)];omega
theorem mP{xs:aY}{i:au}(h:i<xs.length):xs.getD i []=xs[i]:=by simp[gW,h]
theorem dc{xs:aY}{i j:au}(h:i<xs.length):ao xs i j=xs[i].getD j (.b ah):=by unfold ao;rw[mP h]
theorem g7(xs:aY)(i j:au)(ys:ak CV):(dP xs i j ys).length=xs.length:=by unfold dP;simp
theorem sk(ks:ak Ck)(n:au):(aM ks n).length=n:=by unfold aM;simp
theorem dH{n b:au}(h:n*b<=140737488355328)(h2:n<=9223372036854775807):cX n b=true:=by unfold cX;simp;omega
theorem AX{xs:aY}{i j:au}{ys:ak CV}(h:i<xs.length):dP xs i j ys=xs.set i (gb xs[i] j ys):=by unfold dP;rw[mP h]
theorem eF{x:aY}{i:au}(h:i<x.length):x.drop i=x[i]::x.drop (i+1):=nR h
def up:ax->au->ax|k,0=>k|k,n+1=>up (bE (k+1)) n
theorem ED{x:ax}(h:0<=x):bE x<=x:=by
 have e:bE x=if(decide (x%18446744073709551616≥9223372036854775808))=ae then x%18446744073709551616-18446744073709551616 else x%18446744073709551616:=rfl
 rw[e];split<;>omega
def vb(x:ax):aY:=
 if x>127 then [CV.i aU (bj aU (bE (bL x 128+128)))]::vb (bE (cj x 128))else [[CV.i aU (bj aU x)]]
termination_by x.toNat
decreasing_by
 rename_i h
 have h1:cj x 128=x/128:=gn (by omega)
 have h2:=ED (x:=cj x 128) (by omega)
 omega
theorem ui{x:ax}(h:x>127):vb x=[CV.i aU (bj aU (bE (bL x 128+128)))]::vb (bE (cj x 128)):=by rw[vb,br h]
theorem kZ{x:ax}(h:¬x>127):vb x=[[CV.i aU (bj aU x)]]:=by rw[vb,bF h]
theorem jk(y:ak CV)(ks:ak Ck):(aF (aM ks 1) 0 y)=[y]:=rfl
theorem abe{a b c:au}{inst:Decidable (a+b<=c)}(h:a+b<=c): @decide (a+b<=c) inst=true:=aE h
theorem Ub:∀(n:au) (x:ax),x<2^n->(vb x).length<=n+1:=by
 intro n;induction n with
 |zero=>intro x hx;rw[kZ (by omega)];simp
 |succ n ih=>
  intro x hx;by_cases h:x>127
  ·have e1:cj x 128=x/128:=gn (by omega);have h2:=ED (x:=cj x 128) (by omega);rw[ui h];have h3:bE (cj x 128)<2^n:=by rw[vZ]at hx;omega
   have:=ih _ h3;simp;omega
  ·rw[kZ h];simp
theorem fQ(xs:aY):(bytesOf xs).size=xs.length:=by unfold bytesOf;simp[fW]
theorem LS{x:ax}(h:x<=9223372036854775807):(bytesOf (vb x)).size<=64:=by
 rw[fQ];exact Ub 63 x (by have:(2:ax)^63=9223372036854775808:=by decide
                          omega)
theorem sJ(a b:ai):(a++b).size=a.size+b.size:=fE
theorem pb(l:ak Bd):cC l l=true:=by
 induction l with
 |nil=>rfl
 |cons a l ih=>simp only[cC,ih,j9];exact beq_self_eq_true a
theorem Jw(s:ai)(i:au):iI s i<256:=(s.data.getD i 0).toNat_lt
def rv(t:ai)(a:au):au->au->ax->ax×ax×aL
 |0,_,_=>(0,0,ah)
 |f+1,j,n=>
  if a+j<t.size then
   (if(iI t (a+j):ax)>127 then rv t a f (j+1) (n+(iI t (a+j):ax)%128*128^j)
   else if(j>0/\iI t (a+j)=0)\/n+(iI t (a+j):ax)%128*128^j>1000000000 then(0,0,ah)
   else(n+(iI t (a+j):ax)%128*128^j,((a+j+1:au):ax),ae))
  else(0,0,ah)
theorem Ju{α:Type}{c:aL}{x y:α}(h:c=ae):(bif c then x else y)=x:=by rw[h];rfl
def num(t:ai):au->au->ax
 |_,0=>0
 |a,k+1=>(iI t a:ax)%128+128*num t (a+1) k
theorem AH(t:ai):∀(k a:au),0<=num t a k/\num t a k<128^k
 |0,a=>by simp[num]
 |k+1,a=>by
  have:=AH t k (a+1);simp only[num,vZ];omega
theorem xn(t:ai):∀(k a:au),num t a (k+1)=num t a k+(iI t (a+k):ax)%128*128^k
 |0,a=>by simp[num]
 |k+1,a=>by
  rw[num,xn t k (a+1),num,show a+1+k=a+(k+1)by omega,vZ];rw[Int.mul_add,<-Int.add_assoc];congr 1;rw[Int.mul_comm 128,Int.mul_assoc]
theorem FY(t:ai):∀(k a:au),(iI t (a+k):ax)%128≠0->1<=num t a (k+1)
 |0,a,h=>by simp[num]at h⊢;omega
 |k+1,a,h=>by
  rw[num];have:=FY t k (a+1) (by rw[show a+1+k=a+(k+1)by omega];exact h);omega
theorem LU(t:ai):∀(k a:au),(∀i,i<k->128<=iI t (a+i))->iI t (a+k)<128->(k=0\/iI t (a+k)≠0)->num t a (k+1)<=9223372036854775807->vb (num t a (k+1))=(oH a (k+1)).map λi=>[CV.i aU (iI t i:ax)]
 |0,a,_,h2,_,_=>by
  have e:num t a 1=(iI t a:ax):=by simp[num]at h2⊢;omega
  simp only[tn]at h2;rw[e,kZ (by omega)];have hw:bj aU (iI t a:ax)=(iI t a:ax):=by show(iI t a:ax)%256=_;omega
  rw[hw];rfl
 |k+1,a,h1,h2,h3,h4=>by
  have hb:=Jw t a;have h0:=h1 0 (by omega);rw[tn]at h0;have fP:iI t (a+(k+1))≠0:=by rcases h3 with h3|h3;(·omega);exact h3
  have iP:=FY t k (a+1) (by rw[show a+1+k=a+(k+1)by omega];omega);have e:num t a (k+1+1)=(iI t a:ax)%128+128*num t (a+1) (k+1):=rfl;rw[e]at h4⊢;have e1:bL ((iI t a:ax)%128+128*num t (a+1) (k+1)) 128=(iI t a:ax)%128:=by rw[ed (by omega)];omega
  have e2:cj ((iI t a:ax)%128+128*num t (a+1) (k+1)) 128=num t (a+1) (k+1):=by rw[gn (by omega)];omega
  have e3:bE ((iI t a:ax)%128+128)=(iI t a:ax):=by rw[pP (by omega) (by omega)];omega
  have hw:bj aU (iI t a:ax)=(iI t a:ax):=by show(iI t a:ax)%256=_;omega
  rw[ui (by omega),e1,e2,e3,hw,pP (by omega) (by omega),LU t k (a+1) (λi hi=>by rw[show a+1+i=a+(i+1)by omega];exact h1 (i+1) (by omega)) (by rw[show a+1+k=a+(k+1)by omega];exact h2) (by rw[show a+1+k=a+(k+1)by omega];exact .inr fP) (by omega)];rfl
theorem vM:∀(k:au) (x:ax),x<128^(k+1)->(vb x).length<=k+1
 |0,x,h=>by rw[kZ (by simp at h;omega)];simp
 |k+1,x,h=>by
  by_cases hx:x>127
  ·have e1:cj x 128=x/128:=gn (by omega);have h2:=ED (x:=cj x 128) (by omega);rw[ui hx];have h3:bE (cj x 128)<128^(k+1):=by rw[vZ]at h;omega
   have:=vM k _ h3;simp;omega
  ·rw[kZ hx];simp
theorem BC{t:ai}{a m:au}(h:a+m<=t.size):(bytesOf ((oH a m).map λi=>[CV.i aU (iI t i:ax)])).data.toList=(t.extract a (a+m)).data.toList:=by
 have h1:(bytesOf ((oH a m).map λi=>[CV.i aU (iI t i:ax)])).data.toList=(oH a m).map λi=>t.data.getD i 0:=by unfold bytesOf;simp[cw,iI]
 rw[h1];apply Md;intro i;have hs:t.size=t.data.size:=rfl;have Ic:a+m<=t.data.size:=by rw[<-hs];exact h
 simp only[mC,ql,Bc];by_cases hi:i<m
 ·have h3:a+i<t.data.size:=by omega
  rw[bc,List.getElem?_range' hi,dj,br (by omega),c7];simp only[gm,Nat.one_mul,bY,dD];rw[Array.getElem?_eq_getElem h3];rfl
 ·rw[iL (by simp;omega),iL (by simp;omega)]
theorem beq_iff{l r:ak Bd}:cC l r=ae↔l=r:=by
 constructor
 ·intro h;induction l generalizing r with
  |nil=>cases r with|nil=>rfl|cons=>cases h
  |cons a l ih=>
   cases r with
   |nil=>cases h
   |cons b r=>simp only[cC,az]at h;rw[eq_of_beq h.1,ih h.2]
 ·rintro rfl;exact pb l
theorem gZ(t:ai)(k a:au)(h:a+(k+1)<=t.size)(h1:∀i,i<k->128<=iI t (a+i))(h2:iI t (a+k)<128)(h4:num t a (k+1)<=9223372036854775807):
  cC (bytesOf (vb (num t a (k+1)))).toList (t.extract a (a+(k+1))).toList= !decide (k>0/\iI t (a+k)=0):=by
 rw[kP,kP];by_cases hc:k>0/\iI t (a+k)=0
 ·rw[aE hc,bz];obtain⟨k',rfl⟩:∃k',k=k'+1:=⟨k-1,by omega⟩
  cases hb:cC (bytesOf (vb (num t a (k'+1+1)))).data.toList (t.extract a (a+(k'+1+1))).data.toList with
  |false=>rfl
  |true=>
   exfalso;have he:=o6 cq (beq_iff.1 hb);have e:num t a (k'+1+1)=num t a (k'+1):=by rw[xn,hc.2];simp
   have hl:=vM k' (num t a (k'+1)) (AH t (k'+1) a).2;rw[e]at he;have h5:(bytesOf (vb (num t a (k'+1)))).data.toList.length=(vb (num t a (k'+1))).length:=fQ _;have h6:(t.extract a (a+(k'+1+1))).data.toList.length=k'+1+1:=by show(t.extract a (a+(k'+1+1))).size=_;rw[O8];omega
   omega
 ·rw[aK hc,bX];have:=LU t k a h1 h2 (by omega) h4;rw[this];exact beq_iff.2 (BC h)
theorem Ab{a b:ai}(h:a.data.toList=b.data.toList):a=b:=by obtain⟨⟨a⟩⟩:=a;obtain⟨⟨b⟩⟩:=b;simp at h;rw[h]
theorem h_{a b:ai}:cC a.toList b.toList=decide (a=b):=by
 rw[kP,kP];by_cases h:a=b
 ·subst h;rw[aE rfl];exact pb _
 ·rw[aK h];cases hb:cC a.data.toList b.data.toList with
  |false=>rfl
  |true=>exact bS (Ab (beq_iff.1 hb)) h
theorem QI(t:ai)(a:au):∀(f j:au) (n:ax) (m x:ax),rv t a f j n=(m,x,ae)->n=num t a j->(∀i,i<j->128<=iI t (a+i))->
  ∃k,x=((a+(k+1):au):ax)/\a+(k+1)<=t.size/\0<=m/\m<=1000000000/\bytesOf (vb m)=t.extract a (a+(k+1))
 |0,j,n,m,x,h,_,_=>by simp[rv]at h
 |f+1,j,n,m,x,h,hn,Zd=>by
  have hb:=Jw t (a+j);have Zm:n+(iI t (a+j):ax)%128*128^j=num t a (j+1):=by rw[xn,<-hn]
  simp only[rv]at h;by_cases fO:a+j<t.size
  ·rw[br fO]at h;by_cases hc:(iI t (a+j):ax)>127
   ·rw[br hc]at h;refine QI t a f (j+1) _ m x h Zm (λi hi=> ?_);by_cases J0:i<j
    ·exact Zd i J0
    ·have:i=j:=by omega
     subst this;omega
   ·rw[bF hc]at h;by_cases hz:(j>0/\iI t (a+j)=0)\/n+(iI t (a+j):ax)%128*128^j>1000000000
    ·rw[br hz]at h;simp at h
    ·rw[bF hz]at h;simp only[hZ,and_true]at h;obtain⟨rfl,rfl⟩:=h;have hr:=AH t (j+1) a;rw[<-Zm]at hr;refine⟨j,by omega,by omega,hr.1,by omega, ?_⟩
     have:=gZ t j a (by omega) Zd (by omega) (by rw[<-Zm];omega);rw[h_,show decide (j>0/\iI t (a+j)=0)=ah from aK (λh=>hz (.inl h)),bX,<-Zm]at this;exact bU this
  ·rw[bF fO]at h;simp at h
def gL(t:ai)(kB:ax):ax×ax×aL:=if 0<=kB/\kB<=t.size then rv t kB.toNat 5 0 0 else(0,0,ah)
theorem ox{t:ai}{kB m x:ax}(h:gL t kB=(m,x,ae)):0<=kB/\kB<x/\x<=t.size/\0<=m/\m<=1000000000/\bytesOf (vb m)=t.extract kB.toNat x.toNat:=by
 unfold gL at h;by_cases hn:0<=kB/\kB<=t.size
 ·rw[br hn]at h;obtain⟨k,h1,h2,h3,h4,h5⟩:=QI t kB.toNat 5 0 0 m x h rfl (λi hi=>by omega);exact⟨hn.1,by omega,by omega,h3,h4,by rw[h1];exact h5⟩
 ·rw[bF hn]at h;simp at h
def tZ(t:ai)(kB:ax):ai×ax×aL:=
 match gL t kB with
 |(n,x,ae)=>if n<=20000/\n<=t.size-x then(t.extract x.toNat (x+n).toNat,x+n,ae)else(⟨#[]⟩,0,ah)
 |_=>(⟨#[]⟩,0,ah)
theorem Fp(t:ai){i j k:au}(h1:i<=j)(h2:j<=k):t.extract i j++t.extract j k=t.extract i k:=by apply Ab;simp only[u_,mC,Array.toList_append,ql,Bc];rw[show k-i=(j-i)+(k-j)by omega,List.take_add,RY,show i+(j-i)=j by omega]
def fi(p:au->aL):au->au->ax
 |0,_=> -1
 |d+1,i=>bif p i then(i:ax)else fi p d (i+1)
theorem n_(p:au->aL):∀d i,fi p d i= -1/\(∀k,i<=k->k<i+d->p k=ah)\/∃k,i<=k/\k<i+d/\fi p d i=(k:ax)/\p k=ae/\∀q,i<=q->q<k->p q=ah
 |0,i=> .inl ⟨rfl,λk _ _=>by omega⟩
 |d+1,i=>by
  unfold fi;cases hp:p i with
  |true=>exact .inr ⟨i,by omega,by omega,rfl,hp,λq _ _=>by omega⟩
  |false=>
   rcases n_ p d (i+1)with ⟨h1,h2⟩|⟨k,h1,h2,h3,h4,h5⟩
   ·refine .inl ⟨h1,λk hk1 wP=> ?_⟩;by_cases h:k=i
    ·subst h;exact hp
    ·exact h2 k (by omega) (by omega)
   ·refine .inr ⟨k,by omega,by omega,h3,h4,λq hq1 hq2=> ?_⟩;by_cases h:q=i
    ·subst h;exact hp
    ·exact h5 q (by omega) hq2
end Go.FG.Lib
namespace Go.FG.Pu
def pr(xs:aY)(i:au)(ys:aY):aY:=xs.take i++ys++xs.drop i
end Go.FG.Pu

namespace Go.FG
class PT (P:outParam b9) (T:outParam Tab):Prop where
 e:dv P T
 m:P.follows .mixedOrders=ae
abbrev As:=ak dO
abbrev AA.n(x:ax):AA:= .i .i64 x
abbrev AV.n(x:ax):AV:= .i .i64 x
abbrev CV.n(x:ax):CV:= .i .i64 x
abbrev aI(x:ax):dO:= .v ah [.n x]
abbrev aB(x:aL):dO:= .v ah [.b x]
abbrev aS(x:ai):dO:= .v ah [.s x]
abbrev aH(e:au)(x:aY):dO:= .v ah [.sh e x]
abbrev aO(e:au)(x:aY):dO:= .v ah [.ow e ae x]
abbrev aV(l:ak AA):dO:= .v ae l
abbrev cA(k:au)(a:AV):au×dF:=(k, .v (.v ah [a]))
abbrev cV(k:au)(l:ak AV):au×dF:=(k, .v (.v ae l))
abbrev cI(k:au)(x:ax):au×dF:=cA k (.n x)
abbrev cP(k n:au):au×dF:=cA k (.bp n 0)
abbrev cH(k e:au)(x:aY):au×dF:=cA k (.sh e x)
abbrev oB(k:au)(l:ak AV):au×dF:=(k, .o (.box l))
abbrev oR(k e:au)(x:aY):au×dF:=(k, .o (.row e ae x))
variable {P:b9} {T:Tab} [i:PT P T] {E:eh} {g:au} {F:Func} {s t:ak Ho} {A:Fn s As} {k:Fn t dp}
theorem fq(hF:∀g,jf P T g (E.call g))(hf:P.funcs[g]? =ab F){it:au->It (Pr t)}{l:ak Code}(wQ:∀N,∀c∈l,dy E (it N) c)
  {c:Fn s aL} {v:Fn s (Pr t)} (b:au->Fn t (ar (Pr t))->Fn s (ar (Pr t))) (u:Fn s (ar (Pr t))) {d:Pr t} (hT:E.toTab=T:=by rfl)
  (hc:∀x,BH F (ap s A x)=true:=by intro x;kernel_rfl) (hl:ib (F.body.getD .skip)=l:=by kernel_rfl) (hA:TQ A:=by intro x;rfl) (hk:TR k:=by intro x;rfl)
  (h:∀N x,wm E (it N) F k (ap s A x)=ap s (b N (cmp t (gM t) ab)) x:=by intro N x;kernel_rfl) (hw:b Lib.dE (cmp t (gM t) ab)=u:=by rfl) (h1:cmp s u kJ=c:=by rfl) (h2:cmp s u (λo=>o.getD d)=v:=by rfl):jf P T g (dR A k c v):=by subst hT;exact fl i.e i.m hF hf hc hl wQ hA hk Lib.dE h hw h1 h2
theorem fr(hF:∀g,jf P T g (E.call g))(hf:P.funcs[g]? =ab F)
  {c:Fn s aL} {v:Fn s (Pr t)} (b:Fn t (ar (Pr t))->Fn s (ar (Pr t))) (u:Fn s (ar (Pr t))) {d:Pr t} (hT:E.toTab=T:=by rfl)
  (hc:∀x,BH F (ap s A x)=true:=by intro x;kernel_rfl) (hl:ib (F.body.getD .skip)=[]:=by kernel_rfl) (hA:TQ A:=by intro x;rfl) (hk:TR k:=by intro x;rfl)
  (h:∀x,wm E ln F k (ap s A x)=ap s (b (cmp t (gM t) ab)) x:=by intro x;kernel_rfl) (hw:b (cmp t (gM t) ab)=u:=by rfl) (h1:cmp s u kJ=c:=by rfl) (h2:cmp s u (λo=>o.getD d)=v:=by rfl):jf P T g (dR A k c v):=by subst hT;exact fl i.e i.m hF hf hc hl (it:=λ_=>ln) (λ_=>cW) hA hk (w:=λ_=>b (cmp t (gM t) ab)) 0 (λ_=>h) hw h1 h2
theorem ft(hF:∀g,jf P T g (E.call g))(hf:P.funcs[g]? =ab F)
  {v:Fn s (Pr t)} (b:Fn t (ar (Pr t))->Fn s (ar (Pr t))) (hv:∀x,ap s (b (cmp t (gM t) ab)) x=ab (ap s v x)) (hT:E.toTab=T:=by rfl)
  (hc:∀x,BH F (ap s A x)=true:=by intro x;kernel_rfl) (hl:ib (F.body.getD .skip)=[]:=by kernel_rfl) (hA:TQ A:=by intro x;rfl) (hk:TR k:=by intro x;rfl)
  (h:∀x,wm E ln F k (ap s A x)=ap s (b (cmp t (gM t) ab)) x:=by intro x;kernel_rfl):jf P T g (dR A k (ct s) v):=by subst hT;exact flh i.e i.m hF hf hc hl (it:=λ_=>ln) (λ_=>cW) hA hk λx _ _=>⟨0,(h x).trans (hv x)⟩
theorem fh(hF:∀g,jf P T g (E.call g))(hf:P.funcs[g]? =ab F){it:au->It (Pr t)}{l:ak Code}(wQ:∀N,∀c∈l,dy E (it N) c)
  {c:Fn s aL} {v:Fn s (Pr t)} (b:au->Fn t (ar (Pr t))->Fn s (ar (Pr t))) (hv:∀x,sb (ap s A x)->ap s c x=ae->∃N,ap s (b N (cmp t (gM t) ab)) x=ab (ap s v x)) (hT:E.toTab=T:=by rfl)
  (hc:∀x,BH F (ap s A x)=true:=by intro x;kernel_rfl) (hl:ib (F.body.getD .skip)=l:=by kernel_rfl) (hA:TQ A:=by intro x;rfl) (hk:TR k:=by intro x;rfl)
  (h:∀N x,wm E (it N) F k (ap s A x)=ap s (b N (cmp t (gM t) ab)) x:=by intro N x;kernel_rfl):jf P T g (dR A k c v):=by subst hT;exact flh i.e i.m hF hf hc hl wQ hA hk λx f q=>(hv x f q).imp λN e=>(h N x).trans e
section
variable {R:Type} {it:It R} {F:Func}
theorem lq(n:au){s:ak Ho}(T:Fn s Tb)(l:Kt R->au->Fn s (ar R))(r:Kt R->Fn s (ar R)->Fn s (ar R)){N:au}(hr:eS (di F n)=n:=by kernel_rfl)(hT:XD T:=by intro x;rfl)
  (hi:∀L K,it n (pf E it (di F n)) (gZ (E.uD n)) L K=al T (λK=>l K N) an L K:=by intro L K;rfl) (h0:∀K x,ap s (l K 0) x=none:=by intro K x;rfl) (h1:∀K n,l K (n+1)=r K (l K n):=by intro K n;rfl)
  (h:∀K g x,pf E it (di F n) (gk (ap s T x)) (zf g (gZ (E.uD n)) K)=ap s (r K (cmp s T λt=>g (gk t))) x:=by intro K g x;kernel_rfl):dy E it (di F n):=
 lo1 n T hr hT l r hi h0 h1 h
theorem lw{n:au}{K:Kt R}{s:ak Ho}{T:Fn s Tb}{l:au->Fn s (ar R)}(r:(St->ar R)->Fn s (ar R))
  (h1:∀m,(∀x,iter (pf E it (di F n)) (gZ (E.uD n)) m (gk (ap s T x)) K=ap s (l m) x)->r (λσ=>iter (pf E it (di F n)) (gZ (E.uD n)) m σ K)=l (m+1)) (h0:∀x,ap s (l 0) x=none:=by intro x;rfl)
  (h:∀g x,pf E it (di F n) (gk (ap s T x)) (zf g (gZ (E.uD n)) K)=ap s (r g) x:=by intro g x;kernel_rfl):Wd E it (di F n) n K T l:=wl r h0 h1 h
theorem lm(n:au){a:Tb->Kt R->ar R}(h:Good E it (di F n) n a)(hr:eS (di F n)=n:=by kernel_rfl)(hi:∀L K,it n (pf E it (di F n)) (gZ (E.uD n)) L K=a L K:=by intro L K;rfl):dy E it (di F n):=lom n hr hi h
theorem ga{C:Code}{n:au}{s:ak Ho}(T:Fn s Tb){N:au}{l:Kt R->au->Fn s (ar R)}{o:Tb->Kt R->ar R}(h:∀K,Wd E it C n K T (l K))(ho:Good E it C n o)(hT:XD T:=by intro x;rfl):Good E it C n (al T (λK=>l K N) o):=FC hT h ho
end
end Go.FG

