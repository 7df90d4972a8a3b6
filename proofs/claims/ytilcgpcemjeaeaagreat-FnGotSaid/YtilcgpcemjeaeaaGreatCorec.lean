/- An evaluator for the part of the language that this program uses, proved sound over the model: states told as values and lists; what an evaluation tells, the call does. No condition. -/
import Derived.Calls
import Derived.Orders
import Derived.Below
import Derived.Laws.AppendOwn
import Derived.Laws.Slices
import Derived.Laws.StructEq
import Derived.Laws.Tables
import Derived.Laws.MakeOwn
import Derived.Laws.IdiomStrings
import Derived.Laws.BytesArg
import Derived.Laws.NewFold
import Derived.SizedLaws
import Derived.Carry
import Derived.ProofKit
import Derived.KernelRfl
import Derived.Laws.Strings
import Derived.Test.YtilcgpcemjeaeaaGreatCoreb
set_option linter.unusedVariables false
set_option linter.unusedSimpArgs false
set_option maxRecDepth 100000
open Array renaming length_toList->dR,getElem?_eq_some_iff->dU,toList_extract->iv,getElem?_toList->cX,getD_eq_getD_getElem?->eJ,toList_append->vp
open Bool renaming true->ai,and_eq_true->aL,false->ak,false_eq_true->dv,not_eq_true'->dx,and_true->j4,not_true->a_,not_false->bR
open ByteArray renaming size->cj,size_append->dJ,data_extract->gg,size_extract->yt,extract->bK,data_append->my
open Go renaming Program->c5,Value->bk,World->bM
open Go.ByteArray renaming toList_eq->kq
open Go.DataW renaming weightsAll->zT,trod->Dc,weights->vD,TrodAll->Ed,weightsEach->mZ
open Go.IntKind renaming i64->ao,u8->bf,wrap->bF
open Go.Value renaming okWide->sa
open Int renaming toNat->aY,tmod->cO,tdiv->cQ,tdiv_eq_ediv_of_nonneg->g7,mul_le_mul_of_nonneg_right->Ds,mul_le_mul_of_nonneg_left->BF,pow_succ->uN,tmod_eq_emod_of_nonneg->ig
open List renaming getElem?_append_left->dH,getElem?_append_right->da,getElem?_eq_none->kY,mem_singleton->aZ,mem_append->ba,length_append->bT,length_take->eK,length_drop->iz,length_map->bU,map_append->dh,getElem?_take->d_,getElem?_drop->dQ,getElem?_eq_getElem->eT,mem_cons->cy,getElem?_eq_some_iff->aT,getElem?_of_mem->bY,eq_nil_of_length_eq_zero->gb,getElem?_map->bL,length_eq_one_iff->gU,all_cons->sU,mem_append_left->bN,mem_append_right->bO,append_nil->dm,all_eq_true->bn,append_assoc->cu,map_cons->fB,mem_cons_self->dn,mem_cons_of_mem->c7,getD->ka,drop_eq_getElem_cons->dE,set->aD,length_singleton->bA,beq->bZ,range'->mm,ext_getElem?->VU,extract_eq_take_drop->g8,length->bS,drop_drop->vE,drop_zero->fu,take_of_length_le->jc
open List.cons renaming inj->kj
open Nat renaming beq->bC,blt->qw,add_assoc->lZ,lt_or_ge->qU,eq_zero_or_pos->De,eq_of_beq_eq_true->aU,zero_add->bV,blt_eq->Ar,mul_le_mul_right->b8,le_trans->dg,ble->fI,le_of_ble_eq_true->cL,add_zero->yL,sub_zero->yv
open Option renaming some->ah,none->aj,isSome->nE,map_some->je
open Option.some renaming inj->aJ
open Prod.mk renaming inj->bW,injEq->jf
open _root_ renaming ByteArray->aq,Nat->aF,Option->az,List->aA,cond_true->au,if_pos->bz,Bool->aW,absurd->cJ,Array->dt,Int->aw,decide_eq_true_eq->bc,of_decide_eq_true->cm,cond_false->ax,decide_eq_true->aE,if_neg->bH,congrArg->lM,decide_eq_decide->ca,UInt8->HJ,decide_eq_false->aK
namespace Go.FG
open Go.RowKit Go.ChangeShapes
inductive rj (T:Tab):CV->Prop
 |i (k n):(Lit.int k n).wf=ai->rj T (.i k n)
 |b (x):rj T (.b x)
 |s (x:aq):x.size<=140737488351232->rj T (.s x)
 |l (e xs ti):T.ty e=ah ti->xs.length*ti.bytes<=140737488351232->(∀y∈xs,y.map CV.kd=ti.ks)->(∀y∈xs,∀x∈y,rj T x)->rj T (.l e xs)
def Pg(P:c5)(g:aF->az (aA Ck)):aA Field->aF->az (aA Ck)
 |[],_=>ah []
 |f::r,off=>match g f.type with
  |some ks=>bif bC f.offset off&&bC (P.cellsOf f.type) ks.length then(match Pg P g r (off+ks.length)with|some l=>ah (ks++l)|none=>aj)else aj
  |none=>aj
def Pf(P:c5)(T:Tab):aF->aF->az (aA Ck)
 |0,_=>aj
 |n+1,t=>match P.underlying t with
  |some (.int k)=>ah [.i k]
  |some .bool=>ah [.b]
  |some .string=>ah [.s]
  |some (.slice e)=>match T.ty e,Pf P T n e with
   |some te,ah ks=>bif ql ks te.ks&&bC te.bytes (P.bytesOf e)&&bC (P.cellsOf e) ks.length&&qw 0 ks.length then ah [.l e]else aj
   |_,_=>aj
  |some (.struct fs)=>match Pg P (Pf P T n) fs.toList 0 with
   |some ks=>bif bC (P.cellsOf t) ks.length then ah ks else aj
   |none=>aj
  |_=>aj
def Ib:CV->AA
 | .i k n=> .i k n| .b x=> .b x| .s x=> .s x| .l e xs=> .sh e xs
section
variable {H:Type} {enc:TypeId×bk->H} {P:c5} {T:Tab} {w:bM}
def Dn(w:bM):aF->Prop:=λb=>b<w.heap.size
structure wq (T:Tab) (w:bM) (cs:aA bk) (off:aF) (ys:aA CV) (ks:aA Ck):Prop where
 kd:ys.map CV.kd=ks
 at_:∀(j:aF) (y:CV),ys[j]? =ah y->∃v,cs[off+j]? =ah v/\c_ T w (Dn w) v y
 fine:∀y∈ys,rj T y
theorem RV(a:Addr)(m k:aF):(a.add m).add k=a.add (m+k):=by
 unfold Addr.add;by_cases h1:m=0<;>by_cases h2:k=0
 ·simp[h1,h2]
 ·simp[h1,h2]
 ·simp[h1,h2]
 ·simp[h1,h2,lZ]
theorem adX(b o n:aF):(ad b o).add n=ad b (o+n):=by unfold Addr.add;by_cases h:n=0<;>simp[h]
theorem zX{α:Type}{p:aF->α->Prop}:∀n:aF,(∀i,i<n->∃y,p i y)->∃xs:aA α,xs.length=n/\∀(i:aF) (y:α),xs[i]? =ah y->p i y
 |0,_=>⟨[],rfl,λi y h=>by simp at h⟩
 |n+1,h=>by
  obtain⟨xs,h1,h2⟩:=zX n (λi hi=>h i (by omega));obtain⟨y,hy⟩:=h n (by omega);refine⟨xs++[y],by simp[h1],λi z hz=> ?_⟩
  rcases qU i xs.length with hi|hi
  ·rw[dH hi]at hz;exact h2 i z hz
  ·rw[da hi]at hz;have:i-xs.length=0:=by
    rcases De (i-xs.length)with h|h
    ·exact h
    ·rw[kY (by simp;omega)]at hz;cases hz
   rw[this]at hz;cases hz;have:i=n:=by omega
   subst this;exact hy
theorem tH{v:bk}{y:CV}{k:Ck}(hk:y.kd=k)(hh:c_ T w (Dn w) v y)(hf:rj T y):wq T w [v] 0 [y] [k] where
 kd:=by simp[hk]
 at_ j y' hj:=by
  cases j with
  |zero=>cases hj;exact⟨v,rfl,hh⟩
  |succ j=>simp at hj
 fine y' hy:=by rw[aZ]at hy;subst hy;exact hf
theorem tZ{e:TypeId}:∀{ds:aA (DataW H)} {i:aF} {d:DataW H},ds[i]? =ah d->∀n∈d.weights P e,n∈zT P e ds
 |[],_,_,h,_,_=>by simp at h
 |d0::ds,0,d,h,n,hn=>by cases h;simp only[zT,ba];exact .inl hn
 |d0::ds,i+1,d,h,n,hn=>by simp only[zT,ba];exact .inr (tZ (ds:=ds) (i:=i) h n hn)
theorem ON{g:aF->az (aA Ck)}{cs:aA bk}
  (hg:∀t ks,g t=ah ks->∀(fuel:aF) (cs:aA bk) (x:DataW H×aA MemPlace) sp hd,Dc enc P w 0 sp hd fuel t cs=ah x->(∀m∈x.1.weights P t,m<=reachBytes)->cs.length=P.cellsOf t->∃ys,wq T w cs 0 ys ks):
  ∀(fs:aA Field) (off:aF) (ks:aA Ck),Pg P g fs off=ah ks->off+ks.length<=cs.length->∀(xs:aA (DataW H×aA MemPlace)) (fuel:aF) sp hd,xs.length=fs.length->
   (∀(i:aF) (f:Field),fs[i]? =ah f->Dc enc P w 0 sp hd fuel f.type ((cs.drop f.offset).take (P.cellsOf f.type))=xs[i]?)->
   (∀(i:aF) (f:Field) x,fs[i]? =ah f->xs[i]? =ah x->∀m∈x.1.weights P f.type,m<=reachBytes)->∃ys,wq T w cs off ys ks:=by
 intro fs;induction fs with
 |nil=>intro off ks h _ xs fuel sp hd _ _ _;cases h;exact⟨[],⟨rfl,λj y hj=>by simp at hj,λy hy=>by cases hy⟩⟩
 |cons f fs ih=>
  intro off ks h hlen xs fuel sp hd XG Ql hwt;unfold Pg at h;cases hgf:g f.type with
  |none=>rw[hgf]at h;cases h
  |some k1=>
   rw[hgf]at h;dsimp only at h;cases hb:(bC f.offset off&&bC (P.cellsOf f.type) k1.length)with
   |false=>rw[hb]at h;cases h
   |true=>
    rw[hb,au]at h;simp only[aL]at hb;have e1:=aU hb.1;have e2:=aU hb.2;cases hr:Pg P g fs (off+k1.length)with
    |none=>rw[hr]at h;cases h
    |some k2=>
     rw[hr]at h;have h:k1++k2=ks:=by injection h
     subst h;rw[bT]at hlen;cases xs with
     |nil=>simp at XG
     |cons x xs=>
      have h0:=Ql 0 f rfl;rw[show(x::xs)[0]? =ah x from rfl]at h0;obtain⟨y1,c1⟩:=hg _ _ hgf fuel _ x sp hd h0 (hwt 0 f x rfl rfl) (by rw[eK,iz];omega);obtain⟨y2,c2⟩:=ih (off+k1.length) k2 hr (by omega) xs fuel sp hd (by simpa using XG) (λi f' hf=>Ql (i+1) f' hf) (λi f' x' hf hx=>hwt (i+1) f' x' hf hx);have Nb:y1.length=k1.length:=by rw[<-c1.kd,bU]
      refine⟨y1++y2,⟨by rw[dh,c1.kd,c2.kd],λj y hj=> ?_,λy hy=> ?_⟩⟩
      ·rcases qU j y1.length with jY|jY
       ·rw[dH jY]at hj;obtain⟨v,hv,hh⟩:=c1.at_ j y hj;refine⟨v, ?_,hh⟩
        rw[bV,d_,bz (by omega),dQ,e1]at hv;exact hv
       ·rw[da jY]at hj;obtain⟨v,hv,hh⟩:=c2.at_ _ y hj;refine⟨v, ?_,hh⟩
        rw[show off+k1.length+(j-y1.length)=off+j by omega]at hv;exact hv
      ·rcases ba.1 hy with hy|hy
       ·exact c1.fine y hy
       ·exact c2.fine y hy
theorem CB(hE:eB P T):∀(n t:aF) (ks:aA Ck),Pf P T n t=ah ks->∀(fuel:aF) (cs:aA bk) (x:DataW H×aA MemPlace) sp hd,Dc enc P w 0 sp hd fuel t cs=ah x->(∀m∈x.1.weights P t,m<=reachBytes)->cs.length=P.cellsOf t->∃ys,wq T w cs 0 ys ks:=by
 intro n;induction n with
 |zero=>intro t ks h;cases h
 |succ n ih=>
  intro t ks h fuel cs x sp hd Ql hwt oU;unfold Pf at h;split at h
  ·rename_i k hu;cases h;obtain⟨m,rfl,rfl,hwf⟩:=DataW.trod_int hu Ql;exact⟨[.i k m],tH rfl (.i _ _) (.i _ _ hwf)⟩
  ·rename_i hu;cases h;obtain⟨m,rfl,rfl⟩:=DataW.trod_bool hu Ql;exact⟨[.b m],tH rfl (.b _) (.b _)⟩
  ·rename_i hu;cases h;obtain⟨m,rfl,rfl,hmx⟩:=DataW.trod_string hu Ql;have hz:m.size<=140737488351232:=by have:=hwt m.data.toList.length (by simp[vD]);rw[dR]at this;exact this
   exact⟨[.s m],tH rfl (.s _ (show m.size<=4611686018427387904 by omega)) (.s _ hz)⟩
  ·rename_i e hu;split at h
   ·rename_i te ke KZ hke;cases hb:(ql ke te.ks&&bC te.bytes (P.bytesOf e)&&bC (P.cellsOf e) ke.length&&qw 0 ke.length)with
    |false=>rw[hb]at h;cases h
    |true=>
     rw[hb]at h;cases h;simp only[aL]at hb;obtain⟨⟨⟨b1,b2⟩,b3⟩,b4⟩:=hb;have e1:=nQ b1;have e2:=aU b2;have e3:=aU b3;have e4:0<ke.length:=by simpa [Ar]using b4
     subst e1;rcases DataW.trod_slice hu Ql with ⟨rfl,rfl⟩|⟨a,len,cap,elems,rest,m,rfl,rfl,rfl,_,hlc,Xn,OY,gd,_,_⟩
     ·exact⟨[.l e []],tH rfl (.nl _ _ _) (.l e [] te KZ (by simp) (λy hy=>by cases hy) (λy hy=>by cases hy))⟩
     ·have hwl:len*te.bytes<=140737488351232:=by have:=hwt ((elems.length+rest.length)*P.bytesOf e) (by simp[vD,hu]);rw[<-e2,OY]at this;have h2:len*te.bytes<=(len+rest.length)*te.bytes:=b8 _ (by omega);exact dg h2 this
      have one:∀i,i<len->∃ys:aA CV,(∀(j:aF) (y:CV),ys[j]? =ah y->∃v,w.cell? (a.add (i*te.ks.length+j))=ah v/\c_ T w (Dn w) v y)/\ys.map CV.kd=te.ks/\∀y∈ys,rj T y:=by
       intro i hi;have h1:=gd i hi;have mb:i<elems.length:=by omega
       rw[eT mb]at h1;cases hc:w.cells? 0 (a.add (i*P.cellsOf e)) (P.cellsOf e)with
       |none=>rw[hc]at h1;cases h1
       |some cs=>
        rw[hc]at h1;have h1:Dc enc P w 0 sp hd m e cs=ah elems[i]:=h1;obtain⟨_,oU,hcell⟩:=World.cells?_some hc;obtain⟨ys,c⟩:=ih e te.ks hke m cs _ sp hd h1 (λz hz=>hwt z (by simp only[vD,hu,cy,ba];exact .inr (.inl (tZ (i:=i) (d:=elems[i].1) (by simp[mb]) z hz)))) oU;refine⟨ys,λj y hj=> ?_,c.kd,c.fine⟩
        obtain⟨v,hv,hh⟩:=c.at_ j y hj;rw[bV]at hv;have jY:=(aT.1 hv).1;have:=hcell j (by omega);rw[hv]at this;refine⟨v, ?_,hh⟩
        rw[<-e3];rw[<-RV];exact this
      obtain⟨xs,XG,hx⟩:=zX len one;have ail:rj T (.l e xs):=by
       refine .l e xs te KZ (by rw[XG];exact hwl) (λy hy=> ?_) (λy hy=> ?_)
       ·obtain⟨i,hi⟩:=bY hy;exact(hx i y hi).2.1
       ·obtain⟨i,hi⟩:=bY hy;exact(hx i y hi).2.2
      refine⟨[.l e xs],tH rfl ?_ ail⟩
      rcases De len with h0|h0
      ·have:xs=[]:=gb (by omega);subst this;rw[h0];exact .nl _ _ _
      ·have hx0:xs[0]? =ah xs[0]:=by rw[eT (by omega)]
       obtain⟨c0,k0,_⟩:=hx 0 _ hx0;have hy0:0<(xs[0]).length:=by rw[<-bU (f:=CV.kd),k0];exact e4
       obtain⟨v0,Qm,_⟩:=c0 0 _ (eT hy0);obtain⟨b,o,s⟩:=a;have hs:s=aj/\b<w.heap.size:=by
        unfold World.cell? at Qm;have e0:(Addr.mk b o s).add (0*te.ks.length+0)=⟨b,o,s⟩:=by simp[Addr.add]
        rw[e0]at Qm;split at Qm
        ·rename_i hh;refine⟨?_,(dU.1 hh).1⟩
         cases s with
         |none=>rfl
         |some s=>simp at Qm
        ·cases Qm
       obtain⟨rfl,hbl⟩:=hs;let U:aF->aF->bk:=λi j=>(w.cell? (ad b (o+i*te.ks.length+j))).getD undef;have ar:∀i j y z,xs[i]? =ah y->y[j]? =ah z->w.cell? (ad b (o+i*te.ks.length+j))=ah (U i j)/\c_ T w (Dn w) (U i j) z:=by
        intro i j y z hi hj;obtain⟨v,hv,hh⟩:=(hx i y hi).1 j z hj;have hv:w.cell? ((ad b o).add (i*te.ks.length+j))=ah v:=hv;rw[adX,<-lZ]at hv;have:U i j=v:=by simp only[U,hv];rfl
        rw[this];exact⟨hv,hh⟩
       rw[<-XG];exact .l e xs b o cap te U KZ (by omega) Xn hbl (λy hy=>by obtain⟨i,hi⟩:=bY hy;exact(hx i y hi).2.1) (λi j y z hi hj=>(ar i j y z hi hj).1) (λi j y z hi hj=>(ar i j y z hi hj).2)
   ·cases h
  ·rename_i fs hu;obtain⟨xs,m,rfl,rfl,aeD,XG,hf⟩:=DataW.trod_struct hu Ql;cases hlf:Pg P (Pf P T n) fs.toList 0 with
   |none=>rw[hlf]at h;cases h
   |some ks'=>
    rw[hlf]at h;obtain⟨hb,rfl⟩:=Et h;refine ON ih fs.toList 0 _ hlf ?_ xs m sp hd (by simpa using XG) (λi f hi=>hf i f (by simpa using hi)) (λi f x hi hx z hz=>hwt z ?_)
    ·have:=aU hb;omega
    ·simp only[vD,hu];refine DataW.weights_mem_each (j:=i) (t:=f.type) (d:=x.1) ?_ ?_ z hz
     ·rw[bL,hi];rfl
     ·rw[bL,hx];rfl
  ·cases h
end
end Go.FG

namespace Go.FG
open Go.RowKit Go.ChangeShapes
def n8(T:Tab):aA aF->aA (aA CV)->aA fj
 |t::ts,ys::r_=>fj.v (match T.ty t with|some ti=>ti.agg|none=>ak) (ys.map Ib)::n8 T ts r_
 |_,_=>[]
def o4(T:Tab):aA aF->aA (aA CV)->Prop
 |[],[]=>True
 |t::ts,ys::r_=>(∃ti,T.ty t=ah ti/\ys.map CV.kd=ti.ks)/\(∀y∈ys,rj T y)/\o4 T ts r_
 |_,_=>False
def PA(P:c5)(T:Tab)(n:aF)(t:aF):aW:=
 match T.ty t,Pf P T n t,P.underlying t with
 |some ti,ah ks,ah d=>ql ks ti.ks&&(match d with| .struct _=>ti.agg| .array _ _=>ak|_=> !ti.agg)&&P.readableRec t&&decide (t<P.types.size)
 |_,_,_=>ak
theorem adW{T:Tab}{w:bM}{c:e9}(hc:∀b,Dn w b->c.K b){v:bk}{y:CV}(h:c_ T w (Dn w) v y)(nm:aF):eG T w c (lB nm (Ib y)) v:=by
 have h:c_ T w c.K v y:=h.frame (λ_ _=>rfl) hc;cases y with
 |i k n=>cases h;rfl
 |b x=>cases h;rfl
 |s x=>cases h with|s _ ho=>exact⟨rfl,ho⟩
 |l e xs=>exact h
section
variable {H:Type} {enc:TypeId×bk->H} {P:c5} {T:Tab} {w:bM}
theorem ad5(hE:eB P T){n t:aF}(hp:PA P T n t=ai){v:bk}{d:DataW H}{ps:aA MemPlace}{sp:aF->aW}{hd:aW}{base:aF}(hv:sa P w .any base t v)(h:DataW.Trod enc P w 0 sp hd t v d ps)(hw:∀m∈d.weights P t,m<=reachBytes):
  ∃ys:aA CV,(∃ti,T.ty t=ah ti/\ys.map CV.kd=ti.ks)/\(∀y∈ys,rj T y)/\∀c:e9,(∀b,Dn w b->c.K b)->∀p,ji T w c (tz p (fj.v (match T.ty t with|some ti=>ti.agg|none=>ak) (ys.map Ib))) v:=by
 unfold PA at hp;split at hp
 ·rename_i ti ks dd ht hl hu;simp only[aL]at hp;obtain⟨⟨⟨h1,h2⟩,_⟩,_⟩:=hp;have e1:=nQ h1;subst e1;obtain⟨fuel,Ql⟩:=h;obtain⟨inf,hi,gf,_⟩:=hE.info t ti ht;have hct:P.cellsOf t=ti.ks.length:=by unfold Program.cellsOf;rw[hi];exact gf
  have cell:∀(ys:aA CV) (cs:aA bk),wq T w cs 0 ys ti.ks->∀c:e9,(∀b,Dn w b->c.K b)->∀(p j:aF) (a:AV),(gu (dS p 0) (ys.map Ib))[j]? =ah a->∃u:bk,cs[j]? =ah u/\eG T w c a u:=by
   intro ys cs hc c hK p j a hj;rw[iB,bL]at hj;cases hy:ys[j]? with
   |none=>rw[hy]at hj;cases hj
   |some y=>rw[hy]at hj;cases hj;obtain⟨u,sg,hh⟩:=hc.at_ j y hy;rw[bV]at sg;exact⟨u,sg,adW hK hh _⟩
  cases uq:ti.agg with
  |true=>
   have KX:∃fs,dd= .struct fs:=by cases dd<;>simp[uq]at h2;exact⟨_,rfl⟩
   obtain⟨fs,rfl⟩:=KX;unfold sa at hv;rw[hu]at hv;obtain⟨cs,rfl,HO,_⟩:=hv;obtain⟨ys,hc⟩:=CB hE n t ti.ks hl fuel cs.toList (d,ps) sp hd Ql hw (by simpa using HO);refine⟨ys,⟨ti,ht,hc.kd⟩,hc.fine,λc hK p=> ?_⟩
   rw[ht];show qj T w c ti.agg (gu (dS p 0) (ys.map Ib)) _;rw[uq];refine⟨cs,rfl, ?_,λj a hj=> ?_⟩
   ·rw[iS,bU,HO,hct,<-hc.kd,bU]
   ·obtain⟨u,sg,ha⟩:=cell ys cs.toList hc c hK p j a hj;exact⟨u,by simpa using sg,ha⟩
  |false=>
   have KX:∀fs,dd≠ .struct fs:=by intro fs he;subst he;simp[uq]at h2
   have har:∀m e,dd≠ .array m e:=by intro m e he;subst he;cases h2
   have hcell:Cell.okWide P w .any base t v:=by
    unfold sa at hv;rw[hu]at hv;split at hv
    ·rename_i fs he;cases he;exact cJ rfl (KX fs)
    ·rename_i m e he;cases he;exact cJ rfl (har m e)
    ·exact hv
   have xB:v.cells= #[v]:=by
    cases v<;>first|rfl|skip
    rename_i cs;exfalso;unfold Cell.okWide at hcell;rw[hu]at hcell;cases dd<;>simp[Cell.ok,hu]at hcell
   obtain⟨dd',hu2,_,hn⟩:=hE.desc t ti ht;have h1:ti.ks.length=1:=by rcases hn uq with ⟨k,h,_⟩|⟨h,_⟩|⟨h,_⟩|⟨e',h,_⟩|⟨h,_⟩<;>simp[h]
   rw[xB]at Ql;obtain⟨ys,hc⟩:=CB hE n t ti.ks hl fuel [v] (d,ps) sp hd Ql hw (by rw[hct,h1];rfl);have I_:ys.length=1:=by rw[<-bU (f:=CV.kd),hc.kd,h1]
   obtain⟨y,rfl⟩:=gU.1 I_;refine⟨[y],⟨ti,ht,hc.kd⟩,hc.fine,λc hK p=> ?_⟩
   rw[ht];show qj T w c ti.agg [lB (dS p 0) (Ib y)] _;rw[uq];obtain⟨u,sg,ha⟩:=cell [y] [v] hc c hK p 0 _ rfl;cases sg;exact ha
 ·cases hp
theorem WX(hE:eB P T){n:aF}{sp:aF->aW}{hd:aW}{base:aF}:∀{ts:aA aF} {vs:aA bk} {ds:aA (DataW H)} {ps:aA MemPlace},ts.all (PA P T n)=ai->
  Ed enc P w 0 sp hd ts vs ds ps->(∀(j:aF) t v,ts[j]? =ah t->vs[j]? =ah v->sa P w .any base t v)->(∀m∈mZ P ts ds,m<=reachBytes)->
  ∃r_,o4 T ts r_/\vs.length=(n8 T ts r_).length/\ds.length=ts.length/\∀c:e9,(∀b,Dn w b->c.K b)->∀(q p:aF) (x:fj),(n8 T ts r_)[p]? =ah x->∃v,vs[p]? =ah v/\ji T w c (tz (q+p) x) v:=by
 intro ts;induction ts with
 |nil=>intro vs ds ps _ h _ _;obtain⟨rfl,rfl,rfl⟩:=trodAll_nil h;exact⟨[],trivial,rfl,rfl,λc _ q p x h=>by simp[n8]at h⟩
 |cons t ts ih=>
  intro vs ds ps hp h cf hw;simp only[sU,aL]at hp;obtain⟨v,vs,d,ds,p,q,rfl,rfl,rfl,h0,r0⟩:=trodAll_cons h;obtain⟨ys,y1,y2,y3⟩:=ad5 hE hp.1 (cf 0 t v rfl rfl) h0 (λm hm=>hw m (by simp only[mZ,ba];exact .inl hm));obtain⟨r_,z1,z2,z4,z3⟩:=ih hp.2 r0 (λj t v hj hv=>cf (j+1) t v hj hv) (λm hm=>hw m (by simp only[mZ,ba];exact .inr hm));refine⟨ys::r_,⟨y1,y2,z1⟩,by simp[n8,z2],by simp[z4],λc hK q p x hx=> ?_⟩
  cases p with
  |zero=>cases hx;exact⟨v,rfl,y3 c hK q⟩
  |succ p=>obtain⟨v',h1,h2⟩:=z3 c hK (q+1) p x hx;exact⟨v',h1,by rw[show q+(p+1)=q+1+p by omega];exact h2⟩
theorem nP{m:aF}{ob:Obj}:∀{ts:aA aF} {r_:aA (aA CV)},inj (n8 T ts r_) (c9 m)≠ .o ob:=by
 intro ts r_ h;obtain⟨p,a,h0,hh⟩:=Bh h;have:∀(ts:aA aF) (r_:aA (aA CV)) (p:aF) (a:fj),(n8 T ts r_)[p]? =ah a->∃(g:aW) (ys:aA CV),a= .v g (ys.map Ib):=by
  intro ts;induction ts with
  |nil=>intro r_ p a h;simp[n8]at h
  |cons t ts ih=>
   intro r_ p a h;cases r_ with
   |nil=>simp[n8]at h
   |cons ys r_=>
    cases p with
    |zero=>cases h;exact⟨_,ys,rfl⟩
    |succ p=>exact ih r_ p a h
 obtain⟨g,ys,rfl⟩:=this _ _ _ _ h0;rcases hh with ⟨xs,h1,_⟩|⟨xs,j,e,ex,zs,h1,h2,_⟩
 ·cases h1
 ·have h1:ys.map Ib=xs:=by rcases h1 with ⟨g',h1⟩|h1<;>cases h1;rfl
  subst h1;rw[bL]at h2;cases hy:ys[j]? with
  |none=>rw[hy]at h2;cases h2
  |some y=>rw[hy]at h2;cases y<;>cases h2
theorem Hv(hl:laidOutB P=ai){W':bM}(hb:Below w.heap.size w W'){n:aF}:∀{ts:aA aF} {vs:aA bk} {ds:aA (DataW H)} {ps:aA MemPlace},ts.all (PA P T n)=ai->Ed enc P w 0 (λ_=>ai) ai ts vs ds ps->(∀x∈ps,x.block<w.heap.size)->
  Ed enc P W' 0 (λb=>decide (b<w.heap.size)) ai ts vs ds ps:=by
 intro ts;induction ts with
 |nil=>intro vs ds ps _ h _;obtain⟨rfl,rfl,rfl⟩:=trodAll_nil h;exact h
 |cons t ts ih=>
  intro vs ds ps hp h jy;simp only[sU,aL]at hp;obtain⟨v,vs,d,ds,p,q,rfl,rfl,rfl,h0,r0⟩:=trodAll_cons h;have O8:=hp.1;unfold PA at O8;split at O8
  ·simp only[aL]at O8;exact⟨p,q,Below.trod hl O8.1.2 (by simpa using O8.2) h0 hb (λx hx=>jy x (bN _ hx)),ih hp.2 r0 (λx hx=>jy x (bO _ hx)),rfl⟩
  ·cases O8
end
theorem G4{H:Type}{enc:TypeId×bk->H}{C:Checked}{T:Tab}(hE:eB C.prog T)(hl:laidOutB C.prog=ai){g tb n:aF}{fn:Func}{spec:aA fj->az (aW×dB)}(hF:b9 C.prog T g spec){s:ChangeSpec}
  (aiG:fn.params.toList.all (PA C.prog T n)=ai) (arN:fn.resultTypes= #[tb]) (htb:C.prog.underlying tb=ah .bool) (SM:s.vars=[])
  (hfn:∀ds:aA (DataW H),ds.length=fn.params.toList.length->s.fn H ds={results:=[.lit (.bool ai)],args:=ds})
  (claim:∀r_,o4 T fn.params.toList r_->spec (n8 T fn.params.toList r_)=ah (ai,⟨[.v ak [.b ai]],[]⟩))
  (W:bM) (base:aF) (args:dt bk) (ds gs:aA (DataW H)) (before:aA MemPlace)
  (hval:∀(j:aF) t v,fn.params[j]? =ah t->args[j]? =ah v->sa C.prog W .any base t v)
  (hW:DataW.Whole enc C.prog fn.params.toList s.vars ak W args.toList ds gs before)
  (gf:(mZ C.prog (fn.params.toList++s.plain.varTypes C.prog) (ds++gs)).all (·<=reachBytes)=ai):
  Calls C.prog g args W λe W'=>∃v,e= .returned v/\s.post enc C.prog fn ak ai ak ak W args v W':=by
 have hW':=hW;obtain⟨p,q,hA,hV,rfl,hfz,I5⟩:=hW;have jy:=hW'.lt;rw[SM]at hV;have hgs:gs=[]/\q=[]:=by
  cases gs with
  |nil=>exact⟨rfl,hV⟩
  |cons=>exact hV.elim
 obtain⟨rfl,rfl⟩:=hgs;have hw:∀m∈mZ C.prog fn.params.toList ds,m<=reachBytes:=by
  intro m hm;rw[dm]at gf;have e:s.plain.varTypes C.prog=[]:=by unfold DataSpec.varTypes ChangeSpec.plain;simp[SM]
  rw[e,dm]at gf;have:=bn.1 gf m hm;simpa using this
 obtain⟨r_,XB,hlen,hdl,se⟩:=WX hE aiG hA (λj t v hj hv=>hval j t v (by simpa using hj) (by simpa using hv)) hw;let nl:Pl:=⟨ai,0,0,0,0,0⟩
 let c1:e9:=⟨λ_=>nl,λ_ _ _=>nl,Dn W⟩
 have cf:Ok T (inj (n8 T fn.params.toList r_)) W c1:=⟨λnm o h=>cJ h nP,λnm o xH o' b h=>cJ h nP,λnm o b h=>cJ h nP,λb hb=>hb,λnm xs h=>cJ h nP⟩
 obtain⟨_,hc⟩:=hF _ _ (claim r_ XB) W c1 args cf (by rw[<-hlen];simp) (λp x hx=>by obtain⟨v,h1,h2⟩:=se c1 (λ_ h=>h) 0 p x hx;rw[bV]at h2;exact⟨v,by simpa using h1,h2⟩);refine hc.mono λe W' hR=> ?_;cases e with
 |panicked=>exact hR.elim
 |outgrown=>exact hR.elim
 |returned v=>
  obtain⟨c3,_,yw,_,yx⟩:=hR;have hv:v= .bool true:=yx;subst hv;have hb:Below W.heap.size W W':=⟨yw.os,yw.tape,yw.output,yw.size,λk hk=>yw.same k hk (λ⟨nm,o,h,_⟩=>nP h)⟩
  have SK:=hfn ds hdl;refine⟨_,rfl,ds,[],_,[],p,[],hW', ?_, ?_, ?_,hb.frame _,λh=>by cases h⟩
  ·rw[dm,SK,arN];exact trodAll_mk1 (shut_bool htb _)
  ·rw[dm,SK];exact Hv hl hb aiG hA (λx hx=>jy x (bN _ hx))
  ·rw[dm,SK,SM];rfl
end Go.FG

namespace Go.FG
def gM(s:aq)(i:aF):aF:=(s.data.getD i 0).toNat
abbrev bJ(x:aw):aw:=ao.wrap x
inductive gG where
 |I (n:aw)|B (x:aW)|S (x:aq)|R (xs:aQ)|N (n:aF)
def gI:aA gG->aw| .I n::_=>n|_=>0
def gB:aA gG->aW| .B n::_=>n|_=>ak
def gS:aA gG->aq| .S n::_=>n|_=>⟨#[]⟩
def gR:aA gG->aQ| .R n::_=>n|_=>[]
def gN:aA gG->aF| .N n::_=>n|_=>0
def hCV:CV->aA gG
 | .i _ n=>[.I n]| .b x=>[.B x]| .s x=>[.S x]| .l _ xs=>[.R xs]
def sCV:CV->CV->aW
 | .i k _, .i k' _=>decide (k=k')| .b _, .b _=>ai| .s _, .s _=>ai| .l e _, .l e' _=>bC e e'|_,_=>ak
def fCV(s:CV)(l:aA gG):CV×aA gG:=
 match s with
 | .i k _=>(.i k (gI l),l.tail)| .b _=>(.b (gB l),l.tail)| .s _=>(.s (gS l),l.tail)| .l e _=>(.l e (gR l),l.tail)
def IM:aA CV->aA gG|[]=>[]|a::r=>hCV a++IM r
def Hl:aA CV->aA CV->aW|[],[]=>ai|a::r,b::t=>sCV a b&&Hl r t|_,_=>ak
def zm:aA CV->aA gG->aA CV×aA gG
 |[],l=>([],l)|a::r,l=>((fCV a l).1::(zm r (fCV a l).2).1,(zm r (fCV a l).2).2)
def EI:aA (aA CV)->aA gG|[]=>[]|a::r=>IM a++EI r
def E4:aA (aA CV)->aA (aA CV)->aW|[],[]=>ai|a::r,b::t=>Hl a b&&E4 r t|_,_=>ak
def z7:aA (aA CV)->aA gG->aA (aA CV)×aA gG
 |[],l=>([],l)|a::r,l=>((zm a l).1::(z7 r (zm a l).2).1,(z7 r (zm a l).2).2)
theorem aem{s a:CV}(h:sCV s a=ai)(l:aA gG):fCV s (hCV a++l)=(a,l):=by
 cases s<;>cases a<;>simp only[sCV,bc,dv,Nat.beq_eq]at h<;>first|exact h.elim|skip
 all_goals first|(subst h;rfl)|rfl
theorem wY:∀{s a:aA CV},Hl s a=ai->∀l,zm s (IM a++l)=(a,l)
 |[],[],_,l=>rfl
 |s::ss,a::as,h,l=>by
  simp only[Hl,aL]at h;simp only[zm,IM,cu,aem h.1,wY h.2]
 |[],_::_,h,_=>by cases h
 |_::_,[],h,_=>by cases h
theorem B8:∀{s a:aA (aA CV)},E4 s a=ai->∀l,z7 s (EI a++l)=(a,l)
 |[],[],_,l=>rfl
 |s::ss,a::as,h,l=>by
  simp only[E4,aL]at h;simp only[z7,EI,cu,wY h.1,B8 h.2]
 |[],_::_,h,_=>by cases h
 |_::_,[],h,_=>by cases h
def hAV:AV->aA gG
 | .i _ n=>[.I n]| .b x=>[.B x]| .s x=>[.S x]| .sh _ xs=>[.R xs]| .vw _ lo hi=>[.N lo, .N hi]| .rp _ i _=>[.N i]
 | .sp _ xs i _=>[.R xs, .N i]| .inn _ i _=>[.N i]| .ip _ i _ i2 _=>[.N i, .N i2]| .fn _ iT=>EI iT| .fp xs _=>IM xs|_=>[]
def Zp:AV->AV->aW
 | .i k _, .i k' _=>decide (k=k')| .b _, .b _=>ai| .s _, .s _=>ai| .sh e _, .sh e' _=>bC e e'| .nl, .nl=>ai
 | .own n, .own n'=>bC n n'| .vw n _ _, .vw n' _ _=>bC n n'| .bp n j, .bp n' j'=>bC n n'&&bC j j'| .rp n _ j, .rp n' _ j'=>bC n n'&&bC j j'
 | .sp e _ _ j, .sp e' _ _ j'=>bC e e'&&bC j j'| .inn n _ j, .inn n' _ j'=>bC n n'&&bC j j'
 | .ip n _ j _ q, .ip n' _ j' _ q'=>bC n n'&&bC j j'&&bC q q'| .fn f c, .fn f' c'=>bC f f'&&E4 c c'| .fp c j, .fp c' j'=>bC j j'&&Hl c c'
 |_,_=>ak
def fAV(s:AV)(l:aA gG):AV×aA gG:=
 match s with
 | .i k _=>(.i k (gI l),l.tail)| .b _=>(.b (gB l),l.tail)| .s _=>(.s (gS l),l.tail)| .sh e _=>(.sh e (gR l),l.tail)
 | .vw n _ _=>(.vw n (gN l) (gN l.tail),l.tail.tail)| .rp n _ j=>(.rp n (gN l) j,l.tail)| .sp e _ _ j=>(.sp e (gR l) (gN l.tail) j,l.tail.tail)
 | .inn n _ j=>(.inn n (gN l) j,l.tail)| .ip n _ j _ q=>(.ip n (gN l) j (gN l.tail) q,l.tail.tail)| .fn f c=>(.fn f (z7 c l).1,(z7 c l).2)| .fp c j=>(.fp (zm c l).1 j,(zm c l).2)
 |a=>(a,l)
def OU:aA AV->aA gG|[]=>[]|a::r=>hAV a++OU r
def LD:aA AV->aA AV->aW|[],[]=>ai|a::r,b::t=>Zp a b&&LD r t|_,_=>ak
def B7:aA AV->aA gG->aA AV×aA gG
 |[],l=>([],l)|a::r,l=>((fAV a l).1::(B7 r (fAV a l).2).1,(B7 r (fAV a l).2).2)
def Xa(a b:aW):aW:=bif a then b else !b
def Xl:aA (aW×aA AV)->aA gG|[]=>[]|(_,xs)::r=>OU xs++Xl r
def UI:aA (aW×aA AV)->aA (aW×aA AV)->aW
 |[],[]=>ai|(g,xs)::r,(g',ys)::t=>Xa g g'&&LD xs ys&&UI r t|_,_=>ak
def OM:aA (aW×aA AV)->aA gG->aA (aW×aA AV)×aA gG
 |[],l=>([],l)|(g,xs)::r,l=>((g,(B7 xs l).1)::(OM r (B7 xs l).2).1,(OM r (B7 xs l).2).2)
def OV:eQ->aA gG
 | .v (.v _ xs)=>OU xs| .v (.j_ l)=>Xl l| .o (.box xs)=>OU xs| .o (.n9 cs)=>IM cs| .o (.row _ _ xs)=>[.R xs]| .o (.fQ _ xs)=>[.R xs]|_=>[]
def Zr:eQ->eQ->aW
 | .v (.v g xs), .v (.v g' ys)=>Xa g g'&&LD xs ys| .v (.j_ l), .v (.j_ r)=>UI l r| .v .un, .v .un=>ai
 | .o (.box xs), .o (.box ys)=>LD xs ys| .o (.n9 c), .o (.n9 c')=>Hl c c'| .o (.row e x _), .o (.row e' x' _)=>bC e e'&&Xa x x'| .o (.fQ e _), .o (.fQ e' _)=>bC e e'
 | .o .dead, .o .dead=>ai| .jZ, .jZ=>ai|_,_=>ak
def KE(c:eQ)(l:aA gG):eQ×aA gG:=
 match c with
 | .v (.v g xs)=>(.v (.v g (B7 xs l).1),(B7 xs l).2)| .v (.j_ r)=>(.v (.j_ (OM r l).1),(OM r l).2)
 | .o (.box xs)=>(.o (.box (B7 xs l).1),(B7 xs l).2)| .o (.n9 c)=>(.o (.n9 (zm c l).1),(zm c l).2)| .o (.row e x _)=>(.o (.row e x (gR l)),l.tail)| .o (.fQ e _)=>(.o (.fQ e (gR l)),l.tail)
 |c=>(c,l)
def I7:aA (aF×eQ)->aA gG|[]=>[]|(_,c)::r=>OV c++I7 r
def zJ:aA (aF×eQ)->aA (aF×eQ)->aW
 |[],[]=>ai|(k,c)::r,(k',c')::t=>bC k k'&&Zr c c'&&zJ r t|_,_=>ak
def MZ:aA (aF×eQ)->aA gG->aA (aF×eQ)
 |[],_=>[]|(k,c)::r,l=>(k,(KE c l).1)::MZ r (KE c l).2
theorem B5{a b:aW}(h:Xa a b=ai):a=b:=by cases a<;>cases b<;>first|rfl|cases h
theorem ael{s a:AV}(h:Zp s a=ai)(l:aA gG):fAV s (hAV a++l)=(a,l):=by
 match s,a,h with
 | .fn f c, .fn f' c',h=>simp only[Zp,aL]at h;have h1:=aU h.1;subst h1;simp only[fAV,hAV,B8 h.2]
 | .fp c j, .fp c' j',h=>simp only[Zp,aL]at h;have h1:=aU h.1;subst h1;simp only[fAV,hAV,wY h.2]
 | .i k _, .i k' _,h=>have h1:=cm (show decide (k=k')=ai from h);subst h1;rfl
 | .b _, .b _,_=>rfl
 | .s _, .s _,_=>rfl
 | .sh e _, .sh e' _,h=>have h1:=aU (show bC e e'=ai from h);subst h1;rfl
 | .nl, .nl,_=>rfl
 | .own n, .own n',h=>have h1:=aU (show bC n n'=ai from h);subst h1;rfl
 | .vw n _ _, .vw n' _ _,h=>have h1:=aU (show bC n n'=ai from h);subst h1;rfl
 | .bp n j, .bp n' j',h=>simp only[Zp,aL]at h;have h1:=aU h.1;have h2:=aU h.2;subst h1;subst h2;rfl
 | .rp n _ j, .rp n' _ j',h=>simp only[Zp,aL]at h;have h1:=aU h.1;have h2:=aU h.2;subst h1;subst h2;rfl
 | .sp n _ _ j, .sp n' _ _ j',h=>simp only[Zp,aL]at h;have h1:=aU h.1;have h2:=aU h.2;subst h1;subst h2;rfl
 | .inn n _ j, .inn n' _ j',h=>simp only[Zp,aL]at h;have h1:=aU h.1;have h2:=aU h.2;subst h1;subst h2;rfl
 | .ip n _ j _ q, .ip n' _ j' _ q',h=>simp only[Zp,aL]at h;have h1:=aU h.1.1;have h2:=aU h.1.2;have h3:=aU h.2;subst h1;subst h2;subst h3;rfl
theorem Bb:∀{s a:aA AV},LD s a=ai->∀l,B7 s (OU a++l)=(a,l)
 |[],[],_,l=>rfl
 |s::ss,a::as,h,l=>by
  simp only[LD,aL]at h;simp only[B7,OU,cu,ael h.1,Bb h.2]
 |[],_::_,h,_=>by cases h
 |_::_,[],h,_=>by cases h
theorem MX:∀{s a:aA (aW×aA AV)},UI s a=ai->∀l,OM s (Xl a++l)=(a,l)
 |[],[],_,l=>rfl
 |(g,xs)::ss,(g',ys)::as,h,l=>by
  simp only[UI,aL]at h;obtain⟨⟨h1,h2⟩,h3⟩:=h;have h1:=B5 h1;subst h1;simp only[OM,Xl,cu,Bb h2,MX h3]
 |[],_::_,h,_=>by cases h
 |_::_,[],h,_=>by cases h
theorem Xf{s c:eQ}(h:Zr s c=ai)(l:aA gG):KE s (OV c++l)=(c,l):=by
 match s,c,h with
 | .v (.v g xs), .v (.v g' ys),h=>simp only[Zr,aL]at h;have h1:=B5 h.1;subst h1;simp only[KE,OV,Bb h.2]
 | .v (.j_ r), .v (.j_ r'),h=>simp only[KE,OV,MX (show UI r r'=ai from h)]
 | .v .un, .v .un,_=>rfl
 | .o (.box xs), .o (.box ys),h=>simp only[KE,OV,Bb (show LD xs ys=ai from h)]
 | .o (.n9 c), .o (.n9 c'),h=>simp only[KE,OV,wY (show Hl c c'=ai from h)]
 | .o (.row e x _), .o (.row e' x' _),h=>simp only[Zr,aL]at h;have h1:=B5 h.2;have h2:=aU h.1;subst h1;subst h2;rfl
 | .o (.fQ e _), .o (.fQ e' _),h=>have h2:=aU h;subst h2;rfl
 | .o .dead, .o .dead,_=>rfl
 | .jZ, .jZ,_=>rfl
theorem IE:∀{S L:aA (aF×eQ)},zJ S L=ai->MZ S (I7 L)=L
 |[],[],_=>rfl
 |(k,s)::S,(k',c)::L,h=>by
  simp only[zJ,aL]at h;obtain⟨⟨h1,h2⟩,h3⟩:=h;have h1:=aU h1;subst h1;simp only[MZ,I7,Xf h2,IE h3]
 |[],_::_,h=>by cases h
 |_::_,[],h=>by cases h
def tell{R:Type}(S:aA (aF×eQ))(H:aA gG->az R)(L:aA (aF×eQ))(other:az R):az R:=bif zJ S L then H (I7 L)else other
def Te:aA (aF×aA aF)->aF->aA aF
 |[],_=>[]|(k,l)::r,n=>bif bC n k then l else Te r n
def akT:aA (aF×aF×Om)->aF->aF->Om
 |[],_,_=> .nat|(q,j,o)::r,n,m=>bif bC n q&&bC m j then o else akT r n m
def TB:aA (aF×aF)->aF->aF->aW
 |[],_,_=>ak|(f,p)::r,n,m=>(bC n f&&bC m p)||TB r n m
def akY:aA (aF×aF)->aF->az aF
 |[],_=>aj|(k,e)::r,n=>bif bC n k then ah e else akY r n
theorem bD{p:Code->Prop}:∀c∈([]:aA Code),p c:=λc h=>by cases h
theorem bw{p:Code->Prop}{c:Code}{l:aA Code}(h:p c)(hl:∀d∈l,p d):∀d∈c::l,p d:=λd hd=>by
 rcases cy.1 hd with rfl|hd
 ·exact h
 ·exact hl d hd
def qk:aA (aF×(aA fj->az (aW×dB)))->aF->aA fj->az (aW×dB)
 |[],_,_=>aj
 |(k,s)::r,g,a=>bif bC g k then(match s a with|some x=>ah x|none=>qk r g a)else qk r g a
theorem aX{P:c5}{T:Tab}:∀g,b9 P T g (qk [] g):=λg=>OO λ_=>rfl
theorem aG{P:c5}{T:Tab}{k:aF}{s:aA fj->az (aW×dB)}{L:aA (aF×(aA fj->az (aW×dB)))}(h:b9 P T k s)(hl:∀g,b9 P T g (qk L g)):∀g,b9 P T g (qk ((k,s)::L) g):=by
 intro g;cases hb:bC g k with
 |true=>
  have:=aU hb;subst this;intro args r hr;unfold qk at hr;rw[hb,au]at hr;cases hs:s args with
  |some x=>rw[hs]at hr;exact h args r (hs.trans hr)
  |none=>rw[hs]at hr;exact hl g args r hr
 |false=>
  have e:qk ((k,s)::L) g=qk L g:=by funext a;simp only[qk,hb,ax]
  rw[e];exact hl g
def YV(T:Tab)(md:aA (aF×aF))(cs:aA (aF×(aA fj->az (aW×dB))))(ks:aA (aF×aA aF))(tk:aA aF)(om:aA (aF×aF×Om)):fO:={toTab:=T,call:=qk cs,mode:=TB md,keep:=Te ks,tk:=λn=>mJ n tk,om:=akT om}
end Go.FG

namespace Go.FG
theorem LP{T:Tab}{t:aF}{ts:aA aF}{r_:aA (aA CV)}(h:o4 T (t::ts) r_):∃ys al0,r_=ys::al0/\(∃ti,T.ty t=ah ti/\ys.map CV.kd=ti.ks)/\(∀y∈ys,rj T y)/\o4 T ts al0:=by
 cases r_ with
 |nil=>exact h.elim
 |cons ys r_=>exact⟨ys,r_,rfl,h.1,h.2.1,h.2.2⟩
theorem PV{T:Tab}{r_:aA (aA CV)}(h:o4 T [] r_):r_=[]:=by
 cases r_ with
 |nil=>rfl
 |cons=>exact h.elim
theorem XQ{T:Tab}{k:Ck}{ks:aA Ck}{ys:aA CV}(h:ys.map CV.kd=k::ks)(hf:∀y∈ys,rj T y):∃y Dm,ys=y::Dm/\y.kd=k/\rj T y/\Dm.map CV.kd=ks/\∀y∈Dm,rj T y:=by
 cases ys with
 |nil=>cases h
 |cons y ys=>rw[fB,List.cons.injEq]at h;exact⟨y,ys,rfl,h.1,hf y (dn ..),h.2,λz hz=>hf z (c7 _ hz)⟩
theorem ae7{ys:aA CV}(h:ys.map CV.kd=[]):ys=[]:=by simpa using h
theorem aui{T:Tab}{e:aF}{y:CV}(h:y.kd= .l e)(hf:rj T y):∃xs,y= .l e xs/\rj T (.l e xs):=by cases y<;>simp[CV.kd]at h;subst h;exact⟨_,rfl,hf⟩
theorem iE{x:aw}(h1: -9223372036854775808<=x)(h2:x<=9223372036854775807):bJ x=x:=by
 have e:bJ x=if(decide (x%18446744073709551616≥9223372036854775808))=ai then x%18446744073709551616-18446744073709551616 else x%18446744073709551616:=rfl
 rw[e];by_cases h:x%18446744073709551616≥9223372036854775808
 ·rw[bz (aE h)];omega
 ·rw[bH (by simpa using h)];omega
end Go.FG

namespace Go.FG
inductive Ho where|I|B|S|R|N
abbrev den:Ho->Type
 | .I=>aw| .B=>aW| .S=>aq| .R=>aQ| .N=>aF
abbrev Fn:aA Ho->Type->Type
 |[],A=>A|h::s,A=>den h->Fn s A
abbrev Tu:aA Ho->Type
 |[]=>Unit|h::s=>den h×Tu s
abbrev Pr:aA Ho->Type
 |[]=>Unit|[h]=>den h|h::s=>den h×Pr s
def df:(h:Ho)->den h
 | .I=>(0:aw)| .B=>ak| .S=>(⟨#[]⟩:aq)| .R=>([]:aQ)| .N=>(0:aF)
def lf:(h:Ho)->den h->gG
 | .I,x=> .I x| .B,x=> .B x| .S,x=> .S x| .R,x=> .R x| .N,x=> .N x
def ap{A:Type}:(s:aA Ho)->Fn s A->Tu s->A
 |[],f,_=>f|_::s,f,x=>ap s (f x.1) x.2
def cmp{A B:Type}:(s:aA Ho)->Fn s A->(A->B)->Fn s B
 |[],f,g=>g f|_::s,f,g=>λy=>cmp s (f y) g
def MR{A:Type}:(s:aA Ho)->Fn s A->A
 |[],f=>f|h::s,f=>MR s (f (df h))
def lv:(s:aA Ho)->Tu s->aA gG
 |[],_=>[]|h::s,x=>lf h x.1::lv s x.2
def WU{A:Type}:(s:aA Ho)->Fn s (az A)->aA gG->az A
 |[],f,[]=>f
 | .I::s,f, .I x::l=>WU s (f x) l| .B::s,f, .B x::l=>WU s (f x) l| .S::s,f, .S x::l=>WU s (f x) l
 | .R::s,f, .R x::l=>WU s (f x) l| .N::s,f, .N x::l=>WU s (f x) l
 |_,_,_=>aj
def j_:(s:aA Ho)->Fn s (Pr s)
 |[]=>()|[_]=>λx=>x|_::h::s=>λx=>cmp (h::s) (j_ (h::s)) λp=>(x,p)
def apP{A:Type}:(s:aA Ho)->Fn s A->Pr s->A
 |[],f,_=>f|[_],f,p=>f p|_::h::s,f,p=>apP (h::s) (f p.1) p.2
theorem BO{A:Type}{s:aA Ho}{f:Fn s (az A)}{l:aA gG}{a:A}(h:WU s f l=ah a):∃x,l=lv s x/\ap s f x=ah a:=by
 induction s generalizing l with
 |nil=>cases l with
  |nil=>exact⟨(),rfl,h⟩
  |cons=>cases h
 |cons k s ih=>
  cases l with
  |nil=>cases k<;>cases h
  |cons y l=>cases k<;>cases y<;>first|(obtain⟨x,rfl,hx⟩:=ih h;exact⟨(_,x),rfl,hx⟩)|cases h
theorem BP{A B:Type}{s:aA Ho}(f:Fn s A)(g:A->B)(x:Tu s):ap s (cmp s f g) x=g (ap s f x):=by
 induction s with
 |nil=>rfl
 |cons k s ih=>exact ih _ _
theorem ad2{A:Type}{s:aA Ho}{f g:Fn s A}(h:∀x,ap s f x=ap s g x):f=g:=by
 induction s with
 |nil=>exact h ()
 |cons k s ih=>exact funext λy=>ih λx=>h (y,x)
theorem WV{A:Type}{s:aA Ho}(f:Fn s A)(x:Tu s):apP s f (ap s (j_ s) x)=ap s f x:=by
 induction s with
 |nil=>rfl
 |cons k s ih=>
  cases s with
  |nil=>rfl
  |cons h s=>exact(lM (apP (k::h::s) f) (BP ..)).trans (ih ..)
def hAA:AA->aA gG
 | .i _ n=>[.I n]| .b x=>[.B x]| .s x=>[.S x]| .sh _ xs=>[.R xs]| .ow _ _ xs=>[.R xs]| .kp xs=>[.R xs]| .fn _ c=>EI c| .nl=>[]
def sAA:AA->AA->aW
 | .i k _, .i k' _=>decide (k=k')| .b _, .b _=>ai| .s _, .s _=>ai| .sh e _, .sh e' _=>bC e e'| .ow e x _, .ow e' x' _=>bC e e'&&Xa x x'
 | .kp _, .kp _=>ai| .fn f c, .fn f' c'=>bC f f'&&E4 c c'| .nl, .nl=>ai|_,_=>ak
def fAA(s:AA)(l:aA gG):AA×aA gG:=
 match s with
 | .i k _=>(.i k (gI l),l.tail)| .b _=>(.b (gB l),l.tail)| .s _=>(.s (gS l),l.tail)| .sh e _=>(.sh e (gR l),l.tail)| .ow e x _=>(.ow e x (gR l),l.tail)
 | .kp _=>(.kp (gR l),l.tail)| .fn f c=>(.fn f (z7 c l).1,(z7 c l).2)| .nl=>(.nl,l)
def KN:aA AA->aA gG|[]=>[]|a::r=>hAA a++KN r
def LC:aA AA->aA AA->aW|[],[]=>ai|a::r,b::t=>sAA a b&&LC r t|_,_=>ak
def IC:aA AA->aA gG->aA AA×aA gG
 |[],l=>([],l)|a::r,l=>((fAA a l).1::(IC r (fAA a l).2).1,(IC r (fAA a l).2).2)
def KO:fj->aA gG
 | .v _ xs=>KN xs| .pt xs=>KN xs| .fb xs=>IM xs
def PO:fj->fj->aW
 | .v g xs, .v g' ys=>Xa g g'&&LC xs ys| .pt xs, .pt ys=>LC xs ys| .fb xs, .fb ys=>Hl xs ys|_,_=>ak
def KD(s:fj)(l:aA gG):fj×aA gG:=
 match s with
 | .v g xs=>(.v g (IC xs l).1,(IC xs l).2)| .pt xs=>(.pt (IC xs l).1,(IC xs l).2)| .fb xs=>(.fb (zm xs l).1,(zm xs l).2)
def hAr:aA fj->aA gG|[]=>[]|a::r=>KO a++hAr r
def Zq:aA fj->aA fj->aW|[],[]=>ai|a::r,b::t=>PO a b&&Zq r t|_,_=>ak
def Xd:aA fj->aA gG->aA fj×aA gG
 |[],l=>([],l)|a::r,l=>((KD a l).1::(Xd r (KD a l).2).1,(Xd r (KD a l).2).2)
def Jt(l:aA (aA AA)):aA fj:=l.map (.v ai)
theorem aek{s a:AA}(h:sAA s a=ai)(l:aA gG):fAA s (hAA a++l)=(a,l):=by
 cases s<;>cases a<;>simp only[sAA,bc,dv,Nat.beq_eq,aL]at h<;>first|exact h.elim|skip
 all_goals first|rfl|(subst h;rfl)|(obtain⟨rfl,h⟩:=h;first|(obtain rfl:=B5 h;rfl)|(simp only[fAA,hAA,B8 h]))
theorem GG:∀{s a:aA AA},LC s a=ai->∀l,IC s (KN a++l)=(a,l)
 |[],[],_,l=>rfl
 |s::ss,a::as,h,l=>by
  simp only[LC,aL]at h;simp only[IC,KN,cu,aek h.1,GG h.2]
theorem Xe{s a:fj}(h:PO s a=ai)(l:aA gG):KD s (KO a++l)=(a,l):=by
 cases s<;>cases a<;>simp only[PO,dv,aL]at h
 ·obtain⟨h1,h⟩:=h;obtain rfl:=B5 h1;simp only[KD,KO,GG h]
 ·simp only[KD,KO,GG h]
 ·simp only[KD,KO,wY h]
theorem KC:∀{s a:aA fj},Zq s a=ai->∀l,Xd s (hAr a++l)=(a,l)
 |[],[],_,l=>rfl
 |s::ss,a::as,h,l=>by
  simp only[Zq,aL]at h;simp only[Xd,hAr,cu,Xe h.1,KC h.2]
theorem Si{s a:aA fj}(h:Zq s a=ai):(Xd s (hAr a)).1=a:=by have:=KC h [];rw[dm]at this;rw[this]
def xAA{B:Type}(s a:AA)(k:aA gG->az B):az B:=
 match s,a with
 | .i k1 _, .i k2 n=>bif decide (k1=k2)then k [.I n]else aj
 | .b _, .b n=>k [.B n]
 | .s _, .s n=>k [.S n]
 | .sh e _, .sh e' n=>bif bC e e' then k [.R n]else aj
 | .ow e x _, .ow e' x' n=>bif bC e e'&&Xa x x' then k [.R n]else aj
 | .kp _, .kp n=>k [.R n]
 | .fn f c, .fn f' c'=>bif bC f f'&&E4 c c' then k (EI c')else aj
 | .nl, .nl=>k []
 |_,_=>aj
def VH{B:Type}:aA AA->aA AA->(aA gG->az B)->az B
 |[],[],k=>k []|s::ss,a::as,k=>xAA s a λl=>VH ss as λr=>k (l++r)|_,_,_=>aj
def agi{B:Type}(s a:fj)(k:aA gG->az B):az B:=
 match s,a with
 | .v g xs, .v g' ys=>bif Xa g g' then VH xs ys k else aj
 | .pt xs, .pt ys=>VH xs ys k
 | .fb xs, .fb ys=>bif Hl xs ys then k (IM ys)else aj
 |_,_=>aj
def xAr{B:Type}:aA fj->aA fj->(aA gG->az B)->az B
 |[],[],k=>k []|s::ss,a::as,k=>agi s a λl=>xAr ss as λr=>k (l++r)|_,_,_=>aj
theorem agh{B:Type}(s a:AA)(k:aA gG->az B):xAA s a k=bif sAA s a then k (hAA a)else none:=by cases s<;>cases a<;>rfl
theorem Oc{B:Type}:∀(s a:aA AA) (k:aA gG->az B),VH s a k=bif LC s a then k (KN a)else aj
 |[],[],_=>rfl
 |s::ss,a::as,k=>by
  simp only[VH,agh,Oc ss as,LC,KN];cases sAA s a<;>rfl
 |[],_::_,_=>rfl
 |_::_,[],_=>rfl
theorem ZF{B:Type}(s a:fj)(k:aA gG->az B):agi s a k=bif PO s a then k (KO a)else none:=by
 cases s<;>cases a<;>simp only[agi,PO,KO,Oc]<;>try rfl
 rename_i g xs g' ys;cases Xa g g'<;>rfl
theorem Hz{B:Type}:∀(s a:aA fj) (k:aA gG->az B),xAr s a k=bif Zq s a then k (hAr a)else aj
 |[],[],_=>rfl
 |s::ss,a::as,k=>by
  simp only[xAr,ZF,Hz ss as,Zq,hAr];cases PO s a<;>rfl
 |[],_::_,_=>rfl
 |_::_,[],_=>rfl
def adt{A:Type}(s:aA Ho)(T:Fn s (aA fj))(f:Fn s (az A))(a:aA fj):az A:=xAr (MR s T) a (WU s f)
def ags(s t:aA Ho)(k:Fn t dB)(c:Fn s aW)(v:Fn s (Pr t)):Fn s (az (aW×dB)):=
 match s with
 |[]=>ah (c,apP t k v)
 |_::s=>λx=>ags s t k (c x) (v x)
theorem ZK{s t:aA Ho}{k:Fn t dB}{c:Fn s aW}{v:Fn s (Pr t)}(x:Tu s):ap s (ags s t k c v) x=ah (ap s c x,apP t k (ap s v x)):=by
 induction s with
 |nil=>rfl
 |cons h s ih=>exact ih _
def dX{s t:aA Ho}(A:Fn s (aA fj))(k:Fn t dB)(c:Fn s aW)(v:Fn s (Pr t)):aA fj->az (aW×dB):=adt s A (ags s t k c v)
def W4{t:aA Ho}(k:Fn t dB)(r:dB):az (Pr t):=
 xAr (MR t k).rs r.rs λl=>xAr (Jt (MR t k).outs) (Jt r.outs) λm=>WU t (cmp t (j_ t) ah) (l++m)
def okA{s:aA Ho}(A:Fn s (aA fj)):Prop:=∀x,(Xd (MR s A) (lv s x)).1=ap s A x
def okK{t:aA Ho}(k:Fn t dB):Prop:=∀x,(⟨(Xd (MR t k).rs (lv t x)).1,(Xd (Jt (MR t k).outs) (Xd (MR t k).rs (lv t x)).2).1⟩:aA fj×aA fj)=⟨(ap t k x).rs,Jt (ap t k x).outs⟩
def okT{s:aA Ho}(T:Fn s (aA (aF×eQ))):Prop:=∀x,MZ (MR s T) (lv s x)=ap s T x
theorem Ju:∀{a b:aA (aA AA)},Jt a=Jt b->a=b
 |[],[],_=>rfl
 |_::_,_::_,h=>by
  obtain⟨h1,h2⟩:=kj h;obtain⟨_,rfl⟩:=fj.v.inj h1;rw[Ju h2]
 |[],_::_,h=>by cases h
 |_::_,[],h=>by cases h
theorem OG{t:aA Ho}{k:Fn t dB}(hk:okK k){r:dB}{p:Pr t}(h:W4 k r=ah p):r=apP t k p:=by
 unfold W4 at h;rw[Hz]at h;cases hb:Zq (MR t k).rs r.rs with
 |false=>rw[hb]at h;cases h
 |true=>
  rw[hb,au,Hz]at h;cases hc:Zq (Jt (MR t k).outs) (Jt r.outs)with
  |false=>rw[hc]at h;cases h
  |true=>rw[hc,au]at h;obtain⟨x,h1,h2⟩:=BO h;rw[BP]at h2;obtain rfl:=aJ h2;rw[WV];have hx:=hk x;rw[<-h1,KC hb,Si hc]at hx;obtain⟨e1,e2⟩:=bW hx;have e3:=Ju e2;cases r;cases hr:ap t k x;rw[hr]at e1 e3;cases e1;cases e3;rfl
theorem JM{s t:aA Ho}{A:Fn s (aA fj)}(hA:okA A){k:Fn t dB}{c:Fn s aW}{v:Fn s (Pr t)}{args:aA fj}{r:aW×dB}(h:dX A k c v args=ah r):∃x,args=ap s A x/\r=(ap s c x,apP t k (ap s v x)):=by
 unfold dX adt at h;rw[Hz]at h;cases hb:Zq (MR s A) args with
 |false=>rw[hb]at h;cases h
 |true=>rw[hb,au]at h;obtain⟨x,h1,h2⟩:=BO h;rw[ZK]at h2;exact⟨x,by rw[<-hA x,<-h1,Si hb],(aJ h2).symm⟩
def BT{t:aA Ho}(E:fO)(it:It (Pr t))(F:Func)(k:Fn t dB)(args:aA fj):az (Pr t):=
 match F.body with
 |some c=>tn E it c (inj args) λe σ=>(fin E F args e σ).bind (W4 k)
 |none=>aj
def Iq(F:Func)(A:aA fj):aW:=
 (match F.body with|some c=> !(F.name== "runtime.NumGoroutine")&&th F.ntmps c|none=>ak)&&zK A&&fI A.length F.ntmps
theorem flh{P:c5}{E:fO}(hE:eB P E)(hm:P.follows .mixedOrders=ai)(hF:∀g,b9 P E g (E.call g)){g:aF}{F:Func}(hf:P.funcs[g]? =ah F){s t:aA Ho}{A:Fn s (aA fj)}{k:Fn t dB}{it:aF->It (Pr t)}
  (hc:∀x,Iq F (ap s A x)=ai) {l:aA Code} (hl:jT (F.body.getD .skip)=l) (Cj:∀N,∀c∈l,cg E (it N) c) (hA:okA A) (hk:okK k)
  {c:Fn s aW} {v:Fn s (Pr t)} (h:∀x,w8 (ap s A x)->ap s c x=ai->∃N,BT E (it N) F k (ap s A x)=ah (ap s v x)):b9 P E g (dX A k c v):=by
 intro args r hr;obtain⟨x,rfl,_⟩:=JM hA hr;have hx:=hc x;unfold Iq at hx;cases hb:F.body with
 |none=>rw[hb]at hx;cases hx
 |some code=>
  rw[hb]at hl hx;have hl:jT code=l:=hl;simp only[aL,dx]at hx;refine aep hE hF hm hf hb (by rw[hx.1.1.1,hx.1.1.2];rfl) (λargs r hr=> ?_) _ r hr;obtain⟨x,rfl,hq⟩:=JM hA hr;obtain⟨h1,rfl⟩:=bW hq;have hx:=hc x;unfold Iq at hx;simp only[aL]at hx;refine⟨hx.1.2,λhf=> ?_⟩
  obtain⟨N,h⟩:=h x hf h1.symm;refine⟨cL hx.2,Pr t,it N,λe σ=>(fin E F (ap s A x) e σ).bind (W4 k),ap s v x,by rw[hl];exact Cj N, ?_,λe σ he=> ?_⟩
  ·unfold BT at h;rw[hb]at h;exact h
  ·obtain⟨r,hr,hd⟩:=Option.bind_eq_some_iff.1 he;rw[hr,OG hk hd]
theorem ad3{s t:aA Ho}{c:Fn s aW}{v:Fn s (Pr t)}{w:Fn s (az (Pr t))}{d:Pr t}(hc:cmp s w nE=c)(hv:cmp s w (λo=>o.getD d)=v)(x:Tu s)(h:ap s c x=ai):ap s w x=ah (ap s v x):=by
 subst hc hv;rw[BP]at h;rw[BP];cases hw:ap s w x with
 |none=>rw[hw]at h;cases h
 |some y=>rfl
theorem fl{P:c5}{E:fO}(hE:eB P E)(hm:P.follows .mixedOrders=ai)(hF:∀g,b9 P E g (E.call g)){g:aF}{F:Func}(hf:P.funcs[g]? =ah F){s t:aA Ho}{A:Fn s (aA fj)}{k:Fn t dB}{it:aF->It (Pr t)}
  (hc:∀x,Iq F (ap s A x)=ai) {l:aA Code} (hl:jT (F.body.getD .skip)=l) (Cj:∀N,∀c∈l,cg E (it N) c) (hA:okA A) (hk:okK k)
  {c:Fn s aW} {v:Fn s (Pr t)} {w:aF->Fn s (az (Pr t))} {u:Fn s (az (Pr t))} {d:Pr t} (N:aF) (h:∀N x,BT E (it N) F k (ap s A x)=ap s (w N) x) (hw:w N=u) (h1:cmp s u nE=c) (h2:cmp s u (λo=>o.getD d)=v):b9 P E g (dX A k c v):=
 flh hE hm hF hf hc hl Cj hA hk λx _ hx=>⟨N,(h N x).trans (by rw[hw];exact ad3 h1 h2 x hx)⟩
def ct:(s:aA Ho)->Fn s aW
 |[]=>ai|_::s=>λ_=>ct s
abbrev Kt(R:Type):=Ex->St->az R
abbrev Tb:=aA (aF×eQ)
def J{R:Type}{s:aA Ho}(T:Fn s Tb)(e:Ex)(K:Kt R):Fn s (az R):=cmp s T λt=>K e (fK t)
def al{R:Type}{s:aA Ho}(T:Fn s Tb)(f:Kt R->Fn s (az R))(o:Tb->Kt R->az R):Tb->Kt R->az R:=λL K=>bif zJ (MR s T) L then WU s (f K) (I7 L)else o L K
def an{R:Type}:Tb->Kt R->az R:=λ_ _=>aj
def lp{R:Type}(n:aF)(a:Tb->Kt R->az R)(o:It R):It R:=λoc f cn L K=>bif bC oc n then a L K else o oc f cn L K
def ln{R:Type}:It R:=λ_ _ _ _ _=>aj
theorem WS{R:Type}{s:aA Ho}{T:Fn s Tb}(hT:okT T){f:Kt R->Fn s (az R)}{o:Tb->Kt R->az R}{L:Tb}{K:Kt R}{r:R}(h:al T f o L K=ah r):(∃x,L=ap s T x/\ap s (f K) x=ah r)\/o L K=ah r:=by
 unfold al at h;cases hb:zJ (MR s T) L with
 |false=>rw[hb]at h;exact .inr h
 |true=>rw[hb]at h;obtain⟨x,h1,h2⟩:=BO h;exact .inl ⟨x,by rw[<-hT x,<-h1,IE hb],h2⟩
section
variable {R:Type} {E:fO} {it:It R} {C:Code} {n:aF}
def Good(E:fO)(it:It R)(C:Code)(n:aF)(a:Tb->Kt R->az R):Prop:=∀L K r,a L K=ah r->∃m,iter (tn E it C) (canon (E.Ab n)) m (fK L) K=ah r
def Wd(E:fO)(it:It R)(C:Code)(n:aF)(K:Kt R){s:aA Ho}(T:Fn s Tb)(l:aF->Fn s (az R)):Prop:=∀m x,iter (tn E it C) (canon (E.Ab n)) m (fK (ap s T x)) K=ap s (l m) x
theorem oJ:Good E it C n an:=λ_ _ _ h=>by cases h
theorem M7{s:aA Ho}{T:Fn s Tb}(hT:okT T){l:Kt R->aF->Fn s (az R)}{N:aF}{o:Tb->Kt R->az R}(h:∀K,Wd E it C n K T (l K))(ho:Good E it C n o):Good E it C n (al T (λK=>l K N) o):=by
 intro L K r hq;rcases WS hT hq with ⟨x,rfl,hx⟩|hq
 ·exact⟨N,(h K N x).trans hx⟩
 ·exact ho L K r hq
theorem lom(n:aF)(hr:gC C=n){a:Tb->Kt R->az R}(hi:∀L K,it n (tn E it C) (canon (E.Ab n)) L K=a L K)(h:Good E it C n a):cg E it C:=by intro L K q;rw[hr,hi];exact h L K q
theorem wf{K:Kt R}{s:aA Ho}{T:Fn s Tb}{l:aF->Fn s (az R)}{m:aF}(h:∀x,iter (tn E it C) (canon (E.Ab n)) m (fK (ap s T x)) K=ap s (l m) x):cmp s T (λt=>iter (tn E it C) (canon (E.Ab n)) m (fK t) K)=l m:=
 ad2 λy=>by rw[BP,h]
theorem wl{K:Kt R}{s:aA Ho}{T:Fn s Tb}{l:aF->Fn s (az R)}(r:(St->az R)->Fn s (az R))(h0:∀x,ap s (l 0) x=aj)
  (h1:∀m,(∀x,iter (tn E it C) (canon (E.Ab n)) m (fK (ap s T x)) K=ap s (l m) x)->r (λσ=>iter (tn E it C) (canon (E.Ab n)) m σ K)=l (m+1))
  (h:∀g x,tn E it C (fK (ap s T x)) (EN g (canon (E.Ab n)) K)=ap s (r g) x):Wd E it C n K T l:=by
 intro m;induction m with
 |zero=>intro x;rw[h0];rfl
 |succ m ih=>intro x;rw[O_,h,h1 m ih]
theorem lo1(n:aF){s:aA Ho}(T:Fn s Tb)(hr:gC C=n)(hT:okT T)(l:Kt R->aF->Fn s (az R))(r:Kt R->Fn s (az R)->Fn s (az R)){N:aF}
  (hi:∀L K,it n (tn E it C) (canon (E.Ab n)) L K=al T (λK=>l K N) an L K) (h0:∀K x,ap s (l K 0) x=aj) (h1:∀K n,l K (n+1)=r K (l K n))
  (h:∀K g x,tn E it C (fK (ap s T x)) (EN g (canon (E.Ab n)) K)=ap s (r K (cmp s T λt=>g (fK t))) x):cg E it C:=
 lom n hr hi (M7 hT (λK=>wl (λg=>r K (cmp s T λt=>g (fK t))) (h0 K) (λm i=>by rw[h1];exact lM (r K) (wf i)) (h K)) oJ)
end
end Go.FG

namespace Go.FG.Lib
def cZ:aF:=18446744073709551616
def lt{α β:Type}(a:α)(f:α->β):β:=f a
theorem de{α:Type}{o:az α}{x d:α}(h:o=ah x):nE o=ai/\Option.getD o d=x:=by rw[h];exact⟨rfl,rfl⟩
theorem some_{α:Type}{o:az α}{d:α}(h:nE o=ai):o=ah (Option.getD o d):=by
 cases o with
 |none=>cases h
 |some x=>rfl
theorem gV{σ β:Type}(F:aF->σ->β)(mu:σ->aF)(inv:σ->Prop)(res:σ->β)
  (step:∀n s,inv s->F (n+1) s=res s\/∃s',inv s'/\mu s'<mu s/\res s'=res s/\F (n+1) s=F n s'):∀n s,inv s->mu s<n->F n s=res s:=by
 intro n;induction n with
 |zero=>intro s _ h;omega
 |succ n ih=>
  intro s hi hm;rcases step n s hi with h|⟨s',h1,h2,h3,h4⟩
  ·exact h
  ·rw[h4,<-h3];exact ih s' h1 (by omega)
theorem dq(i n:aF):decide ((i:aw)<(n:aw))=decide (i<n):=by rw[ca];omega
theorem cF(i:aF):decide (0<=(i:aw))=true:=by simp
theorem MU{i n:aF}(h:i<n):decide ((i:aw)<(n:aw))=true:=by simp;omega
theorem Sb{i n:aF}(h:¬i<n):decide ((i:aw)<(n:aw))=false:=by simp;omega
theorem dZ(i:aF):aY (i:aw)=i:=rfl
theorem c6{i n:aF}(h:i<n)(hn:n<=9223372036854775807):bJ ((i:aw)+1)=((i+1:aF):aw):=by rw[iE (by omega) (by omega)];omega
theorem oI{xs:aQ}{i:aF}(h:i<xs.length):xs.getD i []=xs[i]:=by simp[ka,h]
theorem cG{xs:aQ}{i j:aF}(h:i<xs.length):ar xs i j=xs[i].getD j (.b ak):=by unfold ar;rw[oI h]
theorem jR(xs:aQ)(i j:aF)(ys:aA CV):(eD xs i j ys).length=xs.length:=by unfold eD;simp
theorem rN(ks:aA Ck)(n:aF):(aP ks n).length=n:=by unfold aP;simp
theorem cq{n b:aF}(h:n*b<=140737488355328)(h2:n<=9223372036854775807):cC n b=true:=by unfold cC;simp;omega
theorem Bn{xs:aQ}{i j:aF}{ys:aA CV}(h:i<xs.length):eD xs i j ys=xs.set i (iD xs[i] j ys):=by unfold eD;rw[oI h]
theorem eF{x:aQ}{i:aF}(h:i<x.length):x.drop i=x[i]::x.drop (i+1):=dE h
def up:aw->aF->aw|k,0=>k|k,n+1=>up (bJ (k+1)) n
theorem LV{x:aw}(h:0<=x):bJ x<=x:=by
 have e:bJ x=if(decide (x%18446744073709551616≥9223372036854775808))=ai then x%18446744073709551616-18446744073709551616 else x%18446744073709551616:=rfl
 rw[e];split<;>omega
def vb(x:aw):aQ:=
 if x>127 then [CV.i bf (bF bf (bJ (cO x 128+128)))]::vb (bJ (cQ x 128))else [[CV.i bf (bF bf x)]]
termination_by x.toNat
decreasing_by
 rename_i h
 have h1:cQ x 128=x/128:=g7 (by omega)
 have h2:=LV (x:=cQ x 128) (by omega)
 omega
theorem wc{x:aw}(h:x>127):vb x=[CV.i bf (bF bf (bJ (cO x 128+128)))]::vb (bJ (cQ x 128)):=by rw[vb,bz h]
theorem mY{x:aw}(h:¬x>127):vb x=[[CV.i bf (bF bf x)]]:=by rw[vb,bH h]
theorem Hi{n:aF}(h:n<=140737488355328):cC n 1=true:=cq (by omega) (by omega)
theorem iX(y:aA CV)(ks:aA Ck):(aD (aP ks 1) 0 y)=[y]:=rfl
theorem N3{R:Type}(F:aF->aw->aQ->az R)(k:aq->az R)
  (h1:∀n x acc,x>127->acc.length<=100->F (n+1) x acc=F n (bJ (cQ x 128)) (acc++[[CV.i bf (bF bf (bJ (cO x 128+128)))]]))
  (h2:∀n x acc,¬x>127->acc.length<=100->F (n+1) x acc=k (bytesOf (acc++[[CV.i bf (bF bf x)]]))) (x:aw) (hx:x<=9223372036854775807):F (x.toNat+1) x []=k (bytesOf (vb x)):=by
 have:=gV (λn (s:aw×aQ)=>F n s.1 s.2) (λs=>s.1.toNat) (λs=>s.2.length<=100/\(1<=s.1->2^s.2.length*s.1<=9223372036854775808)) (λs=>k (bytesOf (s.2++vb s.1))) (λn s hs=>by
  obtain⟨x,acc⟩:=s;obtain⟨hl,hb⟩:=hs;dsimp only at hl hb⊢;by_cases h:x>127
  ·right;have e1:cQ x 128=x/128:=g7 (by omega);have hp:(1:aw)<=2^acc.length:=by
    have:(0:aw)<2^acc.length:=by exact Int.pow_pos (by omega)
    omega
   have hxb:x<=9223372036854775808:=by have h3:=hb (by omega);have:1*x<=2^acc.length*x:=Ds hp (by omega);omega
   have e2:bJ (cQ x 128)=x/128:=by rw[e1,iE (by omega) (by omega)]
   have h64:acc.length<64:=by
    rcases qU acc.length 64 with h5|h5
    ·exact h5
    ·exfalso;have h6:(2:aw)^64<=2^acc.length:=by have:=Nat.pow_le_pow_right (n:=2) (by omega) h5;exact_mod_cast this
     have h7:=hb (by omega);have h8:(2:aw)^acc.length*1<=2^acc.length*x:=BF (by omega) (by omega);have:(2:aw)^64=18446744073709551616:=by decide
     omega
   refine⟨(bJ (cQ x 128),acc++[[CV.i bf (bF bf (bJ (cO x 128+128)))]]),⟨by simp;omega,λ_=> ?_⟩,by dsimp only;omega, ?_,h1 n x acc h hl⟩
   ·dsimp only;rw[e2,bT,bA,uN];have h7:=hb (by omega);have h9:2*(x/128)<=x:=by omega
    have h8:(2:aw)^acc.length*(2*(x/128))<=2^acc.length*x:=BF h9 (by omega);rw[Int.mul_assoc];omega
   ·dsimp only;rw[wc h,cu];rfl
  ·left;rw[mY h];exact h2 n x acc h hl) (x.toNat+1) (x,[]) ⟨by simp,λh=>by simp;omega⟩ (by dsimp only;omega)
 simpa using this
theorem Sd{a b c:aF}{inst:Decidable (a+b<=c)}(h:a+b<=c): @decide (a+b<=c) inst=true:=aE h
theorem af5:∀(n:aF) (x:aw),x<2^n->(vb x).length<=n+1:=by
 intro n;induction n with
 |zero=>intro x hx;rw[mY (by omega)];simp
 |succ n ih=>
  intro x hx;by_cases h:x>127
  ·have e1:cQ x 128=x/128:=g7 (by omega);have h2:=LV (x:=cQ x 128) (by omega);rw[wc h];have h3:bJ (cQ x 128)<2^n:=by rw[uN]at hx;omega
   have:=ih _ h3;simp;omega
  ·rw[mY h];simp
theorem iR(xs:aQ):(bytesOf xs).size=xs.length:=by unfold bytesOf;simp[cj]
theorem jM{x:aw}(h:x<=9223372036854775807):(bytesOf (vb x)).size<=64:=by
 rw[iR];exact af5 63 x (by have:(2:aw)^63=9223372036854775808:=by decide
                           omega)
theorem j9(a b:aq):(a++b).size=a.size+b.size:=dJ
theorem pb(l:aA HJ):bZ l l=true:=by
 induction l with
 |nil=>rfl
 |cons a l ih=>simp only[bZ,ih,j4];exact beq_self_eq_true a
theorem Gv(s:aq)(i:aF):gM s i<256:=(s.data.getD i 0).toNat_lt
def rv(t:aq)(a:aF):aF->aF->aw->aw×aw×aW
 |0,_,_=>(0,0,ak)
 |f+1,j,n=>
  if a+j<t.size then
   (if(gM t (a+j):aw)>127 then rv t a f (j+1) (n+(gM t (a+j):aw)%128*128^j)
   else if(j>0/\gM t (a+j)=0)\/n+(gM t (a+j):aw)%128*128^j>1000000000 then(0,0,ak)
   else(n+(gM t (a+j):aw)%128*128^j,((a+j+1:aF):aw),ai))
  else(0,0,ak)
theorem tc{α:Type}{c:aW}{x y:α}(h:c=ai):(bif c then x else y)=x:=by rw[h];rfl
theorem R2{α:Type}{c:aW}{x y:α}(h:c=ak):(bif c then x else y)=y:=by rw[h];rfl
theorem zY{p:Prop}{inst:Decidable p}(h:p): @decide p inst=true:=aE h
theorem Iw{p:Prop}{inst:Decidable p}(h:¬p): @decide p inst=false:=aK h
def num(t:aq):aF->aF->aw
 |_,0=>0
 |a,k+1=>(gM t a:aw)%128+128*num t (a+1) k
theorem Bk(t:aq):∀(k a:aF),0<=num t a k/\num t a k<128^k
 |0,a=>by simp[num]
 |k+1,a=>by
  have:=Bk t k (a+1);simp only[num,uN];omega
theorem xI(t:aq):∀(k a:aF),num t a (k+1)=num t a k+(gM t (a+k):aw)%128*128^k
 |0,a=>by simp[num]
 |k+1,a=>by
  rw[num,xI t k (a+1),num,show a+1+k=a+(k+1)by omega,uN];rw[Int.mul_add,<-Int.add_assoc];congr 1;rw[Int.mul_comm 128,Int.mul_assoc]
theorem Nv(t:aq):∀(k a:aF),(gM t (a+k):aw)%128≠0->1<=num t a (k+1)
 |0,a,h=>by simp[num]at h⊢;omega
 |k+1,a,h=>by
  rw[num];have:=Nv t k (a+1) (by rw[show a+1+k=a+(k+1)by omega];exact h);omega
theorem VA(t:aq):∀(k a:aF),(∀i,i<k->128<=gM t (a+i))->gM t (a+k)<128->(k=0\/gM t (a+k)≠0)->num t a (k+1)<=9223372036854775807->vb (num t a (k+1))=(mm a (k+1)).map λi=>[CV.i bf (gM t i:aw)]
 |0,a,_,h2,_,_=>by
  have e:num t a 1=(gM t a:aw):=by simp[num]at h2⊢;omega
  simp only[yL]at h2;rw[e,mY (by omega)];have hw:bF bf (gM t a:aw)=(gM t a:aw):=by show(gM t a:aw)%256=_;omega
  rw[hw];rfl
 |k+1,a,h1,h2,h3,h4=>by
  have hb:=Gv t a;have h0:=h1 0 (by omega);rw[yL]at h0;have iw:gM t (a+(k+1))≠0:=by rcases h3 with h3|h3;(·omega);exact h3
  have lj:=Nv t k (a+1) (by rw[show a+1+k=a+(k+1)by omega];omega);have e:num t a (k+1+1)=(gM t a:aw)%128+128*num t (a+1) (k+1):=rfl;rw[e]at h4⊢;have e1:cO ((gM t a:aw)%128+128*num t (a+1) (k+1)) 128=(gM t a:aw)%128:=by rw[ig (by omega)];omega
  have e2:cQ ((gM t a:aw)%128+128*num t (a+1) (k+1)) 128=num t (a+1) (k+1):=by rw[g7 (by omega)];omega
  have e3:bJ ((gM t a:aw)%128+128)=(gM t a:aw):=by rw[iE (by omega) (by omega)];omega
  have hw:bF bf (gM t a:aw)=(gM t a:aw):=by show(gM t a:aw)%256=_;omega
  rw[wc (by omega),e1,e2,e3,hw,iE (by omega) (by omega),VA t k (a+1) (λi hi=>by rw[show a+1+i=a+(i+1)by omega];exact h1 (i+1) (by omega)) (by rw[show a+1+k=a+(k+1)by omega];exact h2) (by rw[show a+1+k=a+(k+1)by omega];exact .inr iw) (by omega)];rfl
theorem Bs:∀(k:aF) (x:aw),x<128^(k+1)->(vb x).length<=k+1
 |0,x,h=>by rw[mY (by simp at h;omega)];simp
 |k+1,x,h=>by
  by_cases hx:x>127
  ·have e1:cQ x 128=x/128:=g7 (by omega);have h2:=LV (x:=cQ x 128) (by omega);rw[wc hx];have h3:bJ (cQ x 128)<128^(k+1):=by rw[uN]at h;omega
   have:=Bs k _ h3;simp;omega
  ·rw[mY hx];simp
theorem Ik{t:aq}{a m:aF}(h:a+m<=t.size):(bytesOf ((mm a m).map λi=>[CV.i bf (gM t i:aw)])).data.toList=(t.extract a (a+m)).data.toList:=by
 have h1:(bytesOf ((mm a m).map λi=>[CV.i bf (gM t i:aw)])).data.toList=(mm a m).map λi=>t.data.getD i 0:=by unfold bytesOf;simp[bE,gM]
 rw[h1];apply VU;intro i;have hs:t.size=t.data.size:=rfl;have Nc:a+m<=t.data.size:=by rw[<-hs];exact h
 simp only[gg,iv,g8];by_cases hi:i<m
 ·have h3:a+i<t.data.size:=by omega
  rw[bL,List.getElem?_range' hi,d_,bz (by omega),dQ];simp only[je,Nat.one_mul,cX,eJ];rw[Array.getElem?_eq_getElem h3];rfl
 ·rw[kY (by simp;omega),kY (by simp;omega)]
theorem beq_iff{l r:aA HJ}:bZ l r=ai↔l=r:=by
 constructor
 ·intro h;induction l generalizing r with
  |nil=>cases r with|nil=>rfl|cons=>cases h
  |cons a l ih=>
   cases r with
   |nil=>cases h
   |cons b r=>simp only[bZ,aL]at h;rw[eq_of_beq h.1,ih h.2]
 ·rintro rfl;exact pb l
theorem canon(t:aq)(k a:aF)(h:a+(k+1)<=t.size)(h1:∀i,i<k->128<=gM t (a+i))(h2:gM t (a+k)<128)(h4:num t a (k+1)<=9223372036854775807):
  bZ (bytesOf (vb (num t a (k+1)))).toList (t.extract a (a+(k+1))).toList= !decide (k>0/\gM t (a+k)=0):=by
 rw[kq,kq];by_cases hc:k>0/\gM t (a+k)=0
 ·rw[aE hc,a_];obtain⟨k',rfl⟩:∃k',k=k'+1:=⟨k-1,by omega⟩
  cases hb:bZ (bytesOf (vb (num t a (k'+1+1)))).data.toList (t.extract a (a+(k'+1+1))).data.toList with
  |false=>rfl
  |true=>
   exfalso;have he:=lM bS (beq_iff.1 hb);have e:num t a (k'+1+1)=num t a (k'+1):=by rw[xI,hc.2];simp
   have hl:=Bs k' (num t a (k'+1)) (Bk t (k'+1) a).2;rw[e]at he;have h5:(bytesOf (vb (num t a (k'+1)))).data.toList.length=(vb (num t a (k'+1))).length:=iR _;have h6:(t.extract a (a+(k'+1+1))).data.toList.length=k'+1+1:=by show(t.extract a (a+(k'+1+1))).size=_;rw[yt];omega
   omega
 ·rw[aK hc,bR];have:=VA t k a h1 h2 (by omega) h4;rw[this];exact beq_iff.2 (Ik h)
theorem s_{a b:aq}(h:a.data.toList=b.data.toList):a=b:=by obtain⟨⟨a⟩⟩:=a;obtain⟨⟨b⟩⟩:=b;simp at h;rw[h]
theorem eM{a b:aq}:bZ a.toList b.toList=decide (a=b):=by
 rw[kq,kq];by_cases h:a=b
 ·subst h;rw[aE rfl];exact pb _
 ·rw[aK h];cases hb:bZ a.data.toList b.data.toList with
  |false=>rfl
  |true=>exact cJ (s_ (beq_iff.1 hb)) h
theorem ab7(t:aq)(a:aF):∀(f j:aF) (n:aw) (m x:aw),rv t a f j n=(m,x,ai)->n=num t a j->(∀i,i<j->128<=gM t (a+i))->
  ∃k,x=((a+(k+1):aF):aw)/\a+(k+1)<=t.size/\0<=m/\m<=1000000000/\bytesOf (vb m)=t.extract a (a+(k+1))
 |0,j,n,m,x,h,_,_=>by simp[rv]at h
 |f+1,j,n,m,x,h,hn,hge=>by
  have hb:=Gv t (a+j);have Xz:n+(gM t (a+j):aw)%128*128^j=num t a (j+1):=by rw[xI,<-hn]
  simp only[rv]at h;by_cases gq:a+j<t.size
  ·rw[bz gq]at h;by_cases hc:(gM t (a+j):aw)>127
   ·rw[bz hc]at h;refine ab7 t a f (j+1) _ m x h Xz (λi hi=> ?_);by_cases OZ:i<j
    ·exact hge i OZ
    ·have:i=j:=by omega
     subst this;omega
   ·rw[bH hc]at h;by_cases hz:(j>0/\gM t (a+j)=0)\/n+(gM t (a+j):aw)%128*128^j>1000000000
    ·rw[bz hz]at h;simp at h
    ·rw[bH hz]at h;simp only[jf,and_true]at h;obtain⟨rfl,rfl⟩:=h;have hr:=Bk t (j+1) a;rw[<-Xz]at hr;refine⟨j,by omega,by omega,hr.1,by omega, ?_⟩
     have:=canon t j a (by omega) hge (by omega) (by rw[<-Xz];omega);rw[eM,show decide (j>0/\gM t (a+j)=0)=ak from aK (λh=>hz (.inl h)),bR,<-Xz]at this;exact cm this
  ·rw[bH gq]at h;simp at h
def er(t:aq)(gL:aw):aw×aw×aW:=if 0<=gL/\gL<=t.size then rv t gL.toNat 5 0 0 else(0,0,ak)
theorem jX{t:aq}{gL m x:aw}(h:er t gL=(m,x,ai)):0<=gL/\gL<x/\x<=t.size/\0<=m/\m<=1000000000/\bytesOf (vb m)=t.extract gL.toNat x.toNat:=by
 unfold er at h;by_cases hn:0<=gL/\gL<=t.size
 ·rw[bz hn]at h;obtain⟨k,h1,h2,h3,h4,h5⟩:=ab7 t gL.toNat 5 0 0 m x h rfl (λi hi=>by omega);exact⟨hn.1,by omega,by omega,h3,h4,by rw[h1];exact h5⟩
 ·rw[bH hn]at h;simp at h
def g6(t:aq)(gL:aw):aq×aw×aW:=
 match er t gL with
 |(n,x,ai)=>if n<=20000/\n<=t.size-x then(t.extract x.toNat (x+n).toNat,x+n,ai)else(⟨#[]⟩,0,ak)
 |_=>(⟨#[]⟩,0,ak)
theorem vm{R:Type}{t:aq}(ht:t.size<=4611686018427387904)(gL:aw)(kr:aq->aw->aW->az R):
  (bif(!(er t gL).2.2)then(kr ({data:= #[]}) 0 ak)else(bif(decide ((er t gL).1>20000))then(kr ({data:= #[]}) 0 ak)else(bif(decide ((er t gL).1>bJ ((↑(cj t):aw)-(er t gL).2.1)))then(kr ({data:= #[]}) 0 ak)else(bif(g9 (er t gL).2.1 (bJ ((er t gL).2.1+(er t gL).1)) (↑(cj t):aw))then(kr (bK t (aY (er t gL).2.1) (aY (bJ ((er t gL).2.1+(er t gL).1)))) (bJ ((er t gL).2.1+(er t gL).1)) ai)else(aj)))))=kr (g6 t gL).1 (g6 t gL).2.1 (g6 t gL).2.2:=by
 unfold g6;cases hr:er t gL with
 |mk n r=>
  obtain⟨x,ok⟩:=r;cases ok with
  |false=>rfl
  |true=>
   obtain⟨h1,h2,h3,h4,h5,h6⟩:=jX hr;have e1:bJ ((t.size:aw)-x)=t.size-x:=iE (by omega) (by omega);have e2:bJ (x+n)=x+n:=iE (by omega) (by omega);simp only[a_,ax,e1,e2];by_cases hc:n<=20000/\n<=t.size-x
   ·rw[bz hc,R2 (Iw (by omega)),R2 (Iw (by omega)),tc (by simp[g9];omega)]
   ·rw[bH hc];by_cases hb:n>20000
    ·rw[tc (zY hb)]
    ·rw[R2 (Iw hb),tc (zY (by omega))]
theorem Hh{t:aq}{gL x:aw}{s:aq}(h:g6 t gL=(s,x,ai)):0<=gL/\gL<x/\x<=t.size/\s.size<=20000/\bytesOf (vb s.size)++s=t.extract gL.toNat x.toNat:=by
 unfold g6 at h;cases hr:er t gL with
 |mk n r=>
  obtain⟨y,ok⟩:=r;rw[hr]at h;cases ok with
  |false=>simp at h
  |true=>
   dsimp only at h;obtain⟨h1,h2,h3,h4,h5,h6⟩:=jX hr;split at h
   ·rename_i hc;simp only[jf,and_true]at h;obtain⟨rfl,rfl⟩:=h;have gf:(t.extract y.toNat (y+n).toNat).size=n.toNat:=by rw[yt];omega
    refine⟨h1,by omega,by omega,by rw[gf];omega, ?_⟩
    rw[gf,show((n.toNat:aF):aw)=n by omega,h6];apply s_;simp only[my,gg,vp,iv,g8];rw[show(y+n).toNat-gL.toNat=(y.toNat-gL.toNat)+n.toNat by omega,List.take_add,vE,show gL.toNat+(y.toNat-gL.toNat)=y.toNat by omega,show(y+n).toNat-y.toNat=n.toNat by omega]
   ·simp at h
theorem wX(t:aq){i j k:aF}(h1:i<=j)(h2:j<=k):t.extract i j++t.extract j k=t.extract i k:=by apply s_;simp only[my,gg,vp,iv,g8];rw[show k-i=(j-i)+(k-j)by omega,List.take_add,vE,show i+(j-i)=j by omega]
theorem GF(t:aq):t.extract 0 t.size=t:=by apply s_;simp only[gg,iv,g8,fu,yv];exact jc (by simp)
def fi(p:aF->aW):aF->aF->aw
 |0,_=> -1
 |d+1,i=>bif p i then(i:aw)else fi p d (i+1)
theorem pj(p:aF->aW):∀d i,fi p d i= -1/\(∀k,i<=k->k<i+d->p k=ak)\/∃k,i<=k/\k<i+d/\fi p d i=(k:aw)/\p k=ai/\∀q,i<=q->q<k->p q=ak
 |0,i=> .inl ⟨rfl,λk _ _=>by omega⟩
 |d+1,i=>by
  unfold fi;cases hp:p i with
  |true=>exact .inr ⟨i,by omega,by omega,rfl,hp,λq _ _=>by omega⟩
  |false=>
   rcases pj p d (i+1)with ⟨h1,h2⟩|⟨k,h1,h2,h3,h4,h5⟩
   ·refine .inl ⟨h1,λk hk1 Aa=> ?_⟩;by_cases h:k=i
    ·subst h;exact hp
    ·exact h2 k (by omega) (by omega)
   ·refine .inr ⟨k,by omega,by omega,h3,h4,λq hq1 hq2=> ?_⟩;by_cases h:q=i
    ·subst h;exact hp
    ·exact h5 q (by omega) hq2
end Go.FG.Lib
namespace Go.FG.Pu
def tB(xs:aQ)(i:aF)(ys:aQ):aQ:=xs.take i++ys++xs.drop i
end Go.FG.Pu

namespace Go.FG
class PT (P:outParam c5) (T:outParam Tab):Prop where
 e:eB P T
 m:P.follows .mixedOrders=ai
abbrev As:=aA fj
abbrev AA.n(x:aw):AA:= .i .i64 x
abbrev AV.n(x:aw):AV:= .i .i64 x
abbrev CV.n(x:aw):CV:= .i .i64 x
abbrev aI(x:aw):fj:= .v ak [.n x]
abbrev aB(x:aW):fj:= .v ak [.b x]
abbrev aS(x:aq):fj:= .v ak [.s x]
abbrev aH(e:aF)(x:aQ):fj:= .v ak [.sh e x]
abbrev aO(e:aF)(x:aQ):fj:= .v ak [.ow e ai x]
abbrev aV(l:aA AA):fj:= .v ai l
abbrev cA(k:aF)(a:AV):aF×eQ:=(k, .v (.v ak [a]))
abbrev cV(k:aF)(l:aA AV):aF×eQ:=(k, .v (.v ai l))
abbrev cI(k:aF)(x:aw):aF×eQ:=cA k (.n x)
abbrev cP(k n:aF):aF×eQ:=cA k (.bp n 0)
abbrev cH(k e:aF)(x:aQ):aF×eQ:=cA k (.sh e x)
abbrev oB(k:aF)(l:aA AV):aF×eQ:=(k, .o (.box l))
abbrev oR(k e:aF)(x:aQ):aF×eQ:=(k, .o (.row e ai x))
variable {P:c5} {T:Tab} [i:PT P T] {E:fO} {g:aF} {F:Func} {s t:aA Ho} {A:Fn s As} {k:Fn t dB}
theorem fq(hF:∀g,b9 P T g (E.call g))(hf:P.funcs[g]? =ah F){it:aF->It (Pr t)}{l:aA Code}(Cj:∀N,∀c∈l,cg E (it N) c)
  {c:Fn s aW} {v:Fn s (Pr t)} (b:aF->Fn t (az (Pr t))->Fn s (az (Pr t))) (u:Fn s (az (Pr t))) {d:Pr t} (hT:E.toTab=T:=by rfl)
  (hc:∀x,Iq F (ap s A x)=true:=by intro x;kernel_rfl) (hl:jT (F.body.getD .skip)=l:=by kernel_rfl) (hA:okA A:=by intro x;rfl) (hk:okK k:=by intro x;rfl)
  (h:∀N x,BT E (it N) F k (ap s A x)=ap s (b N (cmp t (j_ t) ah)) x:=by intro N x;kernel_rfl) (hw:b Lib.cZ (cmp t (j_ t) ah)=u:=by rfl) (h1:cmp s u nE=c:=by rfl) (h2:cmp s u (λo=>o.getD d)=v:=by rfl):b9 P T g (dX A k c v):=by subst hT;exact fl i.e i.m hF hf hc hl Cj hA hk Lib.cZ h hw h1 h2
theorem fr(hF:∀g,b9 P T g (E.call g))(hf:P.funcs[g]? =ah F)
  {c:Fn s aW} {v:Fn s (Pr t)} (b:Fn t (az (Pr t))->Fn s (az (Pr t))) (u:Fn s (az (Pr t))) {d:Pr t} (hT:E.toTab=T:=by rfl)
  (hc:∀x,Iq F (ap s A x)=true:=by intro x;kernel_rfl) (hl:jT (F.body.getD .skip)=[]:=by kernel_rfl) (hA:okA A:=by intro x;rfl) (hk:okK k:=by intro x;rfl)
  (h:∀x,BT E ln F k (ap s A x)=ap s (b (cmp t (j_ t) ah)) x:=by intro x;kernel_rfl) (hw:b (cmp t (j_ t) ah)=u:=by rfl) (h1:cmp s u nE=c:=by rfl) (h2:cmp s u (λo=>o.getD d)=v:=by rfl):b9 P T g (dX A k c v):=by subst hT;exact fl i.e i.m hF hf hc hl (it:=λ_=>ln) (λ_=>bD) hA hk (w:=λ_=>b (cmp t (j_ t) ah)) 0 (λ_=>h) hw h1 h2
theorem ft(hF:∀g,b9 P T g (E.call g))(hf:P.funcs[g]? =ah F)
  {v:Fn s (Pr t)} (b:Fn t (az (Pr t))->Fn s (az (Pr t))) (hv:∀x,ap s (b (cmp t (j_ t) ah)) x=ah (ap s v x)) (hT:E.toTab=T:=by rfl)
  (hc:∀x,Iq F (ap s A x)=true:=by intro x;kernel_rfl) (hl:jT (F.body.getD .skip)=[]:=by kernel_rfl) (hA:okA A:=by intro x;rfl) (hk:okK k:=by intro x;rfl)
  (h:∀x,BT E ln F k (ap s A x)=ap s (b (cmp t (j_ t) ah)) x:=by intro x;kernel_rfl):b9 P T g (dX A k (ct s) v):=by subst hT;exact flh i.e i.m hF hf hc hl (it:=λ_=>ln) (λ_=>bD) hA hk λx _ _=>⟨0,(h x).trans (hv x)⟩
theorem fh(hF:∀g,b9 P T g (E.call g))(hf:P.funcs[g]? =ah F){it:aF->It (Pr t)}{l:aA Code}(Cj:∀N,∀c∈l,cg E (it N) c)
  {c:Fn s aW} {v:Fn s (Pr t)} (b:aF->Fn t (az (Pr t))->Fn s (az (Pr t))) (hv:∀x,w8 (ap s A x)->ap s c x=ai->∃N,ap s (b N (cmp t (j_ t) ah)) x=ah (ap s v x)) (hT:E.toTab=T:=by rfl)
  (hc:∀x,Iq F (ap s A x)=true:=by intro x;kernel_rfl) (hl:jT (F.body.getD .skip)=l:=by kernel_rfl) (hA:okA A:=by intro x;rfl) (hk:okK k:=by intro x;rfl)
  (h:∀N x,BT E (it N) F k (ap s A x)=ap s (b N (cmp t (j_ t) ah)) x:=by intro N x;kernel_rfl):b9 P T g (dX A k c v):=by subst hT;exact flh i.e i.m hF hf hc hl Cj hA hk λx f q=>(hv x f q).imp λN e=>(h N x).trans e
section
variable {R:Type} {it:It R} {F:Func}
theorem lq(n:aF){s:aA Ho}(T:Fn s Tb)(l:Kt R->aF->Fn s (az R))(r:Kt R->Fn s (az R)->Fn s (az R)){N:aF}(hr:gC (bX F n)=n:=by kernel_rfl)(hT:okT T:=by intro x;rfl)
  (hi:∀L K,it n (tn E it (bX F n)) (canon (E.Ab n)) L K=al T (λK=>l K N) an L K:=by intro L K;rfl) (h0:∀K x,ap s (l K 0) x=none:=by intro K x;rfl) (h1:∀K n,l K (n+1)=r K (l K n):=by intro K n;rfl)
  (h:∀K g x,tn E it (bX F n) (fK (ap s T x)) (EN g (canon (E.Ab n)) K)=ap s (r K (cmp s T λt=>g (fK t))) x:=by intro K g x;kernel_rfl):cg E it (bX F n):=
 lo1 n T hr hT l r hi h0 h1 h
theorem lw{n:aF}{K:Kt R}{s:aA Ho}{T:Fn s Tb}{l:aF->Fn s (az R)}(r:(St->az R)->Fn s (az R))
  (h1:∀m,(∀x,iter (tn E it (bX F n)) (canon (E.Ab n)) m (fK (ap s T x)) K=ap s (l m) x)->r (λσ=>iter (tn E it (bX F n)) (canon (E.Ab n)) m σ K)=l (m+1)) (h0:∀x,ap s (l 0) x=none:=by intro x;rfl)
  (h:∀g x,tn E it (bX F n) (fK (ap s T x)) (EN g (canon (E.Ab n)) K)=ap s (r g) x:=by intro g x;kernel_rfl):Wd E it (bX F n) n K T l:=wl r h0 h1 h
theorem lm(n:aF){a:Tb->Kt R->az R}(h:Good E it (bX F n) n a)(hr:gC (bX F n)=n:=by kernel_rfl)(hi:∀L K,it n (tn E it (bX F n)) (canon (E.Ab n)) L K=a L K:=by intro L K;rfl):cg E it (bX F n):=lom n hr hi h
theorem ga{C:Code}{n:aF}{s:aA Ho}(T:Fn s Tb){N:aF}{l:Kt R->aF->Fn s (az R)}{o:Tb->Kt R->az R}(h:∀K,Wd E it C n K T (l K))(ho:Good E it C n o)(hT:okT T:=by intro x;rfl):Good E it C n (al T (λK=>l K N) o):=M7 hT h ho
end
end Go.FG

