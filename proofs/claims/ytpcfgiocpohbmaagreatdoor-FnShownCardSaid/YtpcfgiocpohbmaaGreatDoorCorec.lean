/- An evaluator for the part of the language that this program uses, proved sound over the model: states told as values and lists; what an evaluation tells, the call does. No condition. -/
import Derived.Calls
import Derived.Orders
import Derived.Below
import Derived.Laws.AppendOwn
import Derived.Laws.Slices
import Derived.Laws.StructEq
import Derived.Laws.Tables
import Derived.Laws.MakeOwn
import Derived.Laws.IdiomStrings
import Derived.Laws.BytesArg
import Derived.Laws.NewFold
import Derived.SizedLaws
import Derived.Carry
import Derived.ProofKit
import Derived.KernelRfl
import Derived.Laws.Strings
import Derived.Sort.Grow
import Derived.Deep.Draws
import Derived.Test.YtpcfgiocpohbmaaGreatDoorCoreb
set_option linter.unusedVariables false
set_option linter.unusedSimpArgs false
set_option maxRecDepth 100000
open Array renaming length_toList->dm,getElem?_eq_some_iff->c8,toList_extract->gk,getElem?_toList->cz,getD_eq_getD_getElem?->dc,toList_append->kC
open Bool renaming true->aj,and_eq_true->aJ,false->ao,false_eq_true->cN,not_eq_true'->dA,and_true->ig,not_true->a9,not_false->bO
open ByteArray renaming size->bh,size_append->dh,data_extract->fu,size_extract->vn,extract->bc,data_append->eH
open Go renaming Program->cC,Value->a7,World->bw
open Go.Addr renaming add->XQ
open Go.ByteArray renaming toList_eq->jq
open Go.DataW renaming weightsAll->wN,trod->AF,weights->s6,TrodAll->BF,weightsEach->lH
open Go.IntKind renaming i64->ar,u8->a6,wrap->bj
open Go.Value renaming okWide->qs
open Go.World renaming cell?->yq,cell?_of_block->GY
open Int renaming toNat->aY,tmod->bZ,tdiv->cO,tdiv_eq_ediv_of_nonneg->dB,mul_le_mul_of_nonneg_left->y_,pow_succ->sw,tmod_eq_emod_of_nonneg->iJ
open List renaming getElem?_append_left->dx,getElem?_append_right->cT,getElem?_eq_none->jK,mem_singleton->aW,mem_append->aX,length_append->bW,length_take->eg,length_drop->il,length_map->bM,map_append->c7,getElem?_take->dU,getElem?_drop->dK,getElem?_eq_getElem->qD,mem_cons->b7,getElem?_eq_some_iff->aP,getElem?_of_mem->bQ,eq_nil_of_length_eq_zero->fj,getElem?_map->bg,length_eq_one_iff->fW,all_cons->mv,mem_append_left->bL,mem_append_right->bE,append_nil->dv,all_eq_true->bf,append_assoc->bY,map_cons->eF,mem_cons_self->cw,mem_cons_of_mem->cg,getD->e6,drop_eq_getElem_cons->cQ,set->aF,length_singleton->bu,beq->cu,range'->ml,ext_getElem?->Q7,extract_eq_take_drop->eS,length->bI,take_add->Vc,drop_drop->s7,drop_zero->eB,take_of_length_le->gb,mem_map->cD,mem_of_getElem?->aM
open List.cons renaming injEq->Va,inj->qt
open Nat renaming beq->bA,blt->o9,add_assoc->rR,lt_or_ge->oM,eq_zero_or_pos->xK,eq_of_beq_eq_true->aN,zero_add->bG,blt_eq->xJ,mul_le_mul_right->cL,le_trans->cm,ble->eG,le_of_ble_eq_true->cf,add_zero->rS,sub_zero->Eh,lt_of_lt_of_le->gC
open Option renaming some->ah,none->ai,isSome->mm,getD->Vd,map_some->fM
open Option.some renaming inj->aD
open Prod.mk renaming inj->bF,injEq->ir
open _root_ renaming ByteArray->aq,Nat->aG,Option->aA,List->ax,cond_true->aw,if_pos->ba,Bool->aU,absurd->b_,Array->cX,Int->ay,decide_eq_true_eq->aZ,of_decide_eq_true->ca,cond_false->az,decide_eq_true->aE,if_neg->a_,congrArg->je,decide_eq_decide->c_,UInt8->eE,decide_eq_false->aK
namespace Go.FG
open Go.RowKit Go.ChangeShapes
inductive pP (T:Tab):CV->Prop
 |i (k n):(Lit.int k n).wf=aj->pP T (.i k n)
 |b (x):pP T (.b x)
 |s (x:aq):x.size<=140737488351232->pP T (.s x)
 |l (e xs ti):T.ty e=ah ti->xs.length*ti.bytes<=140737488351232->(∀y∈xs,y.map CV.kd=ti.ks)->(∀y∈xs,∀x∈y,pP T x)->pP T (.l e xs)
def Lv(P:cC)(g:aG->aA (ax Ck)):ax Field->aG->aA (ax Ck)
 |[],_=>ah []
 |f::r,off=>match g f.type with
  |some ks=>bif bA f.offset off&&bA (P.cellsOf f.type) ks.length then(match Lv P g r (off+ks.length)with|some l=>ah (ks++l)|none=>ai)else ai
  |none=>ai
def Lu(P:cC)(T:Tab):aG->aG->aA (ax Ck)
 |0,_=>ai
 |n+1,t=>match P.underlying t with
  |some (.int k)=>ah [.i k]
  |some .bool=>ah [.b]
  |some .string=>ah [.s]
  |some (.slice e)=>match T.ty e,Lu P T n e with
   |some te,ah ks=>bif oS ks te.ks&&bA te.bytes (P.bytesOf e)&&bA (P.cellsOf e) ks.length&&o9 0 ks.length then ah [.l e]else ai
   |_,_=>ai
  |some (.struct fs)=>match Lv P (Lu P T n) fs.toList 0 with
   |some ks=>bif bA (P.cellsOf t) ks.length then ah ks else ai
   |none=>ai
  |_=>ai
def EH:CV->AA
 | .i k n=> .i k n| .b x=> .b x| .s x=> .s x| .l e xs=> .sh e xs
section
variable {H:Type} {enc:TypeId×a7->H} {P:cC} {T:Tab} {w:bw}
def ub(w:bw):aG->Prop:=λb=>b<w.heap.size
structure uc (T:Tab) (w:bw) (cs:ax a7) (off:aG) (ys:ax CV) (ks:ax Ck):Prop where
 kd:ys.map CV.kd=ks
 at_:∀(j:aG) (y:CV),ys[j]? =ah y->∃v,cs[off+j]? =ah v/\cK T w (ub w) v y
 fine:∀y∈ys,pP T y
theorem Nx(a:Addr)(m k:aG):(a.add m).add k=a.add (m+k):=by
 unfold XQ;by_cases h1:m=0<;>by_cases h2:k=0
 ·simp[h1,h2]
 ·simp[h1,h2]
 ·simp[h1,h2]
 ·simp[h1,h2,rR]
theorem Yi(b o n:aG):(ad b o).add n=ad b (o+n):=by unfold XQ;by_cases h:n=0<;>simp[h]
theorem wQ{α:Type}{p:aG->α->Prop}:∀n:aG,(∀i,i<n->∃y,p i y)->∃xs:ax α,xs.length=n/\∀(i:aG) (y:α),xs[i]? =ah y->p i y
 |0,_=>⟨[],rfl,λi y h=>by simp at h⟩
 |n+1,h=>by
  obtain⟨xs,h1,h2⟩:=wQ n (λi hi=>h i (by omega));obtain⟨y,hy⟩:=h n (by omega);refine⟨xs++[y],by simp[h1],λi z hz=> ?_⟩
  rcases oM i xs.length with hi|hi
  ·rw[dx hi]at hz;exact h2 i z hz
  ·rw[cT hi]at hz;have:i-xs.length=0:=by
    rcases xK (i-xs.length)with h|h
    ·exact h
    ·rw[jK (by simp;omega)]at hz;cases hz
   rw[this]at hz;cases hz;have:i=n:=by omega
   subst this;exact hy
theorem rD{v:a7}{y:CV}{k:Ck}(hk:y.kd=k)(hh:cK T w (ub w) v y)(hf:pP T y):uc T w [v] 0 [y] [k] where
 kd:=by simp[hk]
 at_ j y' hj:=by
  cases j with
  |zero=>cases hj;exact⟨v,rfl,hh⟩
  |succ j=>simp at hj
 fine y' hy:=by rw[aW]at hy;subst hy;exact hf
theorem rM{e:TypeId}:∀{ds:ax (DataW H)} {i:aG} {d:DataW H},ds[i]? =ah d->∀n∈d.weights P e,n∈wN P e ds
 |[],_,_,h,_,_=>by simp at h
 |d0::ds,0,d,h,n,hn=>by cases h;simp only[wN,aX];exact .inl hn
 |d0::ds,i+1,d,h,n,hn=>by simp only[wN,aX];exact .inr (rM (ds:=ds) (i:=i) h n hn)
theorem K4{g:aG->aA (ax Ck)}{cs:ax a7}
  (hg:∀t ks,g t=ah ks->∀(fuel:aG) (cs:ax a7) (x:DataW H×ax MemPlace) sp hd,AF enc P w 0 sp hd fuel t cs=ah x->(∀m∈x.1.weights P t,m<=reachBytes)->cs.length=P.cellsOf t->∃ys,uc T w cs 0 ys ks):
  ∀(fs:ax Field) (off:aG) (ks:ax Ck),Lv P g fs off=ah ks->off+ks.length<=cs.length->∀(xs:ax (DataW H×ax MemPlace)) (fuel:aG) sp hd,xs.length=fs.length->
   (∀(i:aG) (f:Field),fs[i]? =ah f->AF enc P w 0 sp hd fuel f.type ((cs.drop f.offset).take (P.cellsOf f.type))=xs[i]?)->
   (∀(i:aG) (f:Field) x,fs[i]? =ah f->xs[i]? =ah x->∀m∈x.1.weights P f.type,m<=reachBytes)->∃ys,uc T w cs off ys ks:=by
 intro fs;induction fs with
 |nil=>intro off ks h _ xs fuel sp hd _ _ _;cases h;exact⟨[],⟨rfl,λj y hj=>by simp at hj,λy hy=>by cases hy⟩⟩
 |cons f fs ih=>
  intro off ks h hlen xs fuel sp hd Zp Mn Zn;unfold Lv at h;cases hgf:g f.type with
  |none=>rw[hgf]at h;cases h
  |some k1=>
   rw[hgf]at h;dsimp only at h;cases hb:(bA f.offset off&&bA (P.cellsOf f.type) k1.length)with
   |false=>rw[hb]at h;cases h
   |true=>
    rw[hb,aw]at h;simp only[aJ]at hb;have e1:=aN hb.1;have e2:=aN hb.2;cases hr:Lv P g fs (off+k1.length)with
    |none=>rw[hr]at h;cases h
    |some k2=>
     rw[hr]at h;have h:k1++k2=ks:=by injection h
     subst h;rw[bW]at hlen;cases xs with
     |nil=>simp at Zp
     |cons x xs=>
      have h0:=Mn 0 f rfl;rw[show(x::xs)[0]? =ah x from rfl]at h0;obtain⟨y1,c1⟩:=hg _ _ hgf fuel _ x sp hd h0 (Zn 0 f x rfl rfl) (by rw[eg,il];omega);obtain⟨y2,c2⟩:=ih (off+k1.length) k2 hr (by omega) xs fuel sp hd (by simpa using Zp) (λi f' hf=>Mn (i+1) f' hf) (λi f' x' hf hx=>Zn (i+1) f' x' hf hx);have hl1:y1.length=k1.length:=by rw[<-c1.kd,bM]
      refine⟨y1++y2,⟨by rw[c7,c1.kd,c2.kd],λj y hj=> ?_,λy hy=> ?_⟩⟩
      ·rcases oM j y1.length with jB|jB
       ·rw[dx jB]at hj;obtain⟨v,hv,hh⟩:=c1.at_ j y hj;refine⟨v, ?_,hh⟩
        rw[bG,dU,ba (by omega),dK,e1]at hv;exact hv
       ·rw[cT jB]at hj;obtain⟨v,hv,hh⟩:=c2.at_ _ y hj;refine⟨v, ?_,hh⟩
        rw[show off+k1.length+(j-y1.length)=off+j by omega]at hv;exact hv
      ·rcases aX.1 hy with hy|hy
       ·exact c1.fine y hy
       ·exact c2.fine y hy
theorem Aa(hE:dP P T):∀(n t:aG) (ks:ax Ck),Lu P T n t=ah ks->∀(fuel:aG) (cs:ax a7) (x:DataW H×ax MemPlace) sp hd,AF enc P w 0 sp hd fuel t cs=ah x->(∀m∈x.1.weights P t,m<=reachBytes)->cs.length=P.cellsOf t->∃ys,uc T w cs 0 ys ks:=by
 intro n;induction n with
 |zero=>intro t ks h;cases h
 |succ n ih=>
  intro t ks h fuel cs x sp hd Mn Zn nC;unfold Lu at h;split at h
  ·rename_i k hu;cases h;obtain⟨m,rfl,rfl,hwf⟩:=DataW.trod_int hu Mn;exact⟨[.i k m],rD rfl (.i _ _) (.i _ _ hwf)⟩
  ·rename_i hu;cases h;obtain⟨m,rfl,rfl⟩:=DataW.trod_bool hu Mn;exact⟨[.b m],rD rfl (.b _) (.b _)⟩
  ·rename_i hu;cases h;obtain⟨m,rfl,rfl,hmx⟩:=DataW.trod_string hu Mn;have hz:m.size<=140737488351232:=by have:=Zn m.data.toList.length (by simp[s6]);rw[dm]at this;exact this
   exact⟨[.s m],rD rfl (.s _ (show m.size<=4611686018427387904 by omega)) (.s _ hz)⟩
  ·rename_i e hu;split at h
   ·rename_i te ke HG hke;cases hb:(oS ke te.ks&&bA te.bytes (P.bytesOf e)&&bA (P.cellsOf e) ke.length&&o9 0 ke.length)with
    |false=>rw[hb]at h;cases h
    |true=>
     rw[hb]at h;cases h;simp only[aJ]at hb;obtain⟨⟨⟨b1,b2⟩,b3⟩,b4⟩:=hb;have e1:=mA b1;have e2:=aN b2;have e3:=aN b3;have e4:0<ke.length:=by simpa [xJ]using b4
     subst e1;rcases DataW.trod_slice hu Mn with ⟨rfl,rfl⟩|⟨a,len,cap,elems,rest,m,rfl,rfl,rfl,_,hlc,hcm,Rh,fN,_,_⟩
     ·exact⟨[.l e []],rD rfl (.nl _ _ _) (.l e [] te HG (by simp) (λy hy=>by cases hy) (λy hy=>by cases hy))⟩
     ·have hwl:len*te.bytes<=140737488351232:=by have:=Zn ((elems.length+rest.length)*P.bytesOf e) (by simp[s6,hu]);rw[<-e2,Rh]at this;have h2:len*te.bytes<=(len+rest.length)*te.bytes:=cL _ (by omega);exact cm h2 this
      have one:∀i,i<len->∃ys:ax CV,(∀(j:aG) (y:CV),ys[j]? =ah y->∃v,w.cell? (a.add (i*te.ks.length+j))=ah v/\cK T w (ub w) v y)/\ys.map CV.kd=te.ks/\∀y∈ys,pP T y:=by
       intro i hi;have h1:=fN i hi;have j_:i<elems.length:=by omega
       rw[qD j_]at h1;cases hc:w.cells? 0 (a.add (i*P.cellsOf e)) (P.cellsOf e)with
       |none=>rw[hc]at h1;cases h1
       |some cs=>
        rw[hc]at h1;have h1:AF enc P w 0 sp hd m e cs=ah elems[i]:=h1;obtain⟨_,nC,hcell⟩:=World.cells?_some hc;obtain⟨ys,c⟩:=ih e te.ks hke m cs _ sp hd h1 (λz hz=>Zn z (by simp only[s6,hu,b7,aX];exact .inr (.inl (rM (i:=i) (d:=elems[i].1) (by simp[j_]) z hz)))) nC;refine⟨ys,λj y hj=> ?_,c.kd,c.fine⟩
        obtain⟨v,hv,hh⟩:=c.at_ j y hj;rw[bG]at hv;have jB:=(aP.1 hv).1;have:=hcell j (by omega);rw[hv]at this;refine⟨v, ?_,hh⟩
        rw[<-e3];rw[<-Nx];exact this
      obtain⟨xs,Zp,hx⟩:=wQ len one;have acu:pP T (.l e xs):=by
       refine .l e xs te HG (by rw[Zp];exact hwl) (λy hy=> ?_) (λy hy=> ?_)
       ·obtain⟨i,hi⟩:=bQ hy;exact(hx i y hi).2.1
       ·obtain⟨i,hi⟩:=bQ hy;exact(hx i y hi).2.2
      refine⟨[.l e xs],rD rfl ?_ acu⟩
      rcases xK len with h0|h0
      ·have:xs=[]:=fj (by omega);subst this;rw[h0];exact .nl _ _ _
      ·have hx0:xs[0]? =ah xs[0]:=by rw[qD (by omega)]
       obtain⟨c0,k0,_⟩:=hx 0 _ hx0;have hy0:0<(xs[0]).length:=by rw[<-bM (f:=CV.kd),k0];exact e4
       obtain⟨v0,Mo,_⟩:=c0 0 _ (qD hy0);obtain⟨b,o,s⟩:=a;have hs:s=ai/\b<w.heap.size:=by
        unfold yq at Mo;have e0:(Addr.mk b o s).add (0*te.ks.length+0)=⟨b,o,s⟩:=by simp[XQ]
        rw[e0]at Mo;split at Mo
        ·rename_i hh;refine⟨?_,(c8.1 hh).1⟩
         cases s with
         |none=>rfl
         |some s=>simp at Mo
        ·cases Mo
       obtain⟨rfl,hbl⟩:=hs;let U:aG->aG->a7:=λi j=>(w.cell? (ad b (o+i*te.ks.length+j))).getD undef;have au:∀i j y z,xs[i]? =ah y->y[j]? =ah z->w.cell? (ad b (o+i*te.ks.length+j))=ah (U i j)/\cK T w (ub w) (U i j) z:=by
        intro i j y z hi hj;obtain⟨v,hv,hh⟩:=(hx i y hi).1 j z hj;have hv:w.cell? ((ad b o).add (i*te.ks.length+j))=ah v:=hv;rw[Yi,<-rR]at hv;have:U i j=v:=by simp only[U,hv];rfl
        rw[this];exact⟨hv,hh⟩
       rw[<-Zp];exact .l e xs b o cap te U HG (by omega) hcm hbl (λy hy=>by obtain⟨i,hi⟩:=bQ hy;exact(hx i y hi).2.1) (λi j y z hi hj=>(au i j y z hi hj).1) (λi j y z hi hj=>(au i j y z hi hj).2)
   ·cases h
  ·rename_i fs hu;obtain⟨xs,m,rfl,rfl,Y3,Zp,hf⟩:=DataW.trod_struct hu Mn;cases hlf:Lv P (Lu P T n) fs.toList 0 with
   |none=>rw[hlf]at h;cases h
   |some ks'=>
    rw[hlf]at h;obtain⟨hb,rfl⟩:=BN h;refine K4 ih fs.toList 0 _ hlf ?_ xs m sp hd (by simpa using Zp) (λi f hi=>hf i f (by simpa using hi)) (λi f x hi hx z hz=>Zn z ?_)
    ·have:=aN hb;omega
    ·simp only[s6,hu];refine DataW.weights_mem_each (j:=i) (t:=f.type) (d:=x.1) ?_ ?_ z hz
     ·rw[bg,hi];rfl
     ·rw[bg,hx];rfl
  ·cases h
end
end Go.FG

namespace Go.FG
open Go.RowKit Go.ChangeShapes
def mU(T:Tab):ax aG->ax (ax CV)->ax eu
 |t::ts,ys::qo=>eu.v (match T.ty t with|some ti=>ti.agg|none=>ao) (ys.map EH)::mU T ts qo
 |_,_=>[]
def nK(T:Tab):ax aG->ax (ax CV)->Prop
 |[],[]=>True
 |t::ts,ys::qo=>(∃ti,T.ty t=ah ti/\ys.map CV.kd=ti.ks)/\(∀y∈ys,pP T y)/\nK T ts qo
 |_,_=>False
def LN(P:cC)(T:Tab)(n:aG)(t:aG):aU:=
 match T.ty t,Lu P T n t,P.underlying t with
 |some ti,ah ks,ah d=>oS ks ti.ks&&(match d with| .struct _=>ti.agg| .array _ _=>ao|_=> !ti.agg)&&P.readableRec t&&decide (t<P.types.size)
 |_,_,_=>ao
theorem Yg{T:Tab}{w:bw}{c:dZ}(hc:∀b,ub w b->c.K b){v:a7}{y:CV}(h:cK T w (ub w) v y)(nm:aG):dN T w c (jU nm (EH y)) v:=by
 have h:cK T w c.K v y:=h.frame (λ_ _=>rfl) hc;cases y with
 |i k n=>cases h;rfl
 |b x=>cases h;rfl
 |s x=>cases h with|s _ ho=>exact⟨rfl,ho⟩
 |l e xs=>exact h
section
variable {H:Type} {enc:TypeId×a7->H} {P:cC} {T:Tab} {w:bw}
theorem Yp(hE:dP P T){n t:aG}(hp:LN P T n t=aj){v:a7}{d:DataW H}{ps:ax MemPlace}{sp:aG->aU}{hd:aU}{base:aG}(hv:qs P w .any base t v)(h:DataW.Trod enc P w 0 sp hd t v d ps)(hw:∀m∈d.weights P t,m<=reachBytes):
  ∃ys:ax CV,(∃ti,T.ty t=ah ti/\ys.map CV.kd=ti.ks)/\(∀y∈ys,pP T y)/\∀c:dZ,(∀b,ub w b->c.K b)->∀p,ic T w c (qy p (eu.v (match T.ty t with|some ti=>ti.agg|none=>ao) (ys.map EH))) v:=by
 unfold LN at hp;split at hp
 ·rename_i ti ks dd ht hl hu;simp only[aJ]at hp;obtain⟨⟨⟨h1,h2⟩,_⟩,_⟩:=hp;have e1:=mA h1;subst e1;obtain⟨fuel,Mn⟩:=h;obtain⟨inf,hi,hsz,_⟩:=hE.info t ti ht;have hct:P.cellsOf t=ti.ks.length:=by unfold Program.cellsOf;rw[hi];exact hsz
  have cell:∀(ys:ax CV) (cs:ax a7),uc T w cs 0 ys ti.ks->∀c:dZ,(∀b,ub w b->c.K b)->∀(p j:aG) (a:AV),(fB (dC p 0) (ys.map EH))[j]? =ah a->∃u:a7,cs[j]? =ah u/\dN T w c a u:=by
   intro ys cs hc c hK p j a hj;rw[gA,bg]at hj;cases hy:ys[j]? with
   |none=>rw[hy]at hj;cases hj
   |some y=>rw[hy]at hj;cases hj;obtain⟨u,qx,hh⟩:=hc.at_ j y hy;rw[bG]at qx;exact⟨u,qx,Yg hK hh _⟩
  cases rY:ti.agg with
  |true=>
   have Ln:∃fs,dd= .struct fs:=by cases dd<;>simp[rY]at h2;exact⟨_,rfl⟩
   obtain⟨fs,rfl⟩:=Ln;unfold qs at hv;rw[hu]at hv;obtain⟨cs,rfl,AL,_⟩:=hv;obtain⟨ys,hc⟩:=Aa hE n t ti.ks hl fuel cs.toList (d,ps) sp hd Mn hw (by simpa using AL);refine⟨ys,⟨ti,ht,hc.kd⟩,hc.fine,λc hK p=> ?_⟩
   rw[ht];show o_ T w c ti.agg (fB (dC p 0) (ys.map EH)) _;rw[rY];refine⟨cs,rfl, ?_,λj a hj=> ?_⟩
   ·rw[gP,bM,AL,hct,<-hc.kd,bM]
   ·obtain⟨u,qx,ha⟩:=cell ys cs.toList hc c hK p j a hj;exact⟨u,by simpa using qx,ha⟩
  |false=>
   have Ln:∀fs,dd≠ .struct fs:=by intro fs he;subst he;simp[rY]at h2
   have har:∀m e,dd≠ .array m e:=by intro m e he;subst he;cases h2
   have hcell:Cell.okWide P w .any base t v:=by
    unfold qs at hv;rw[hu]at hv;split at hv
    ·rename_i fs he;cases he;exact b_ rfl (Ln fs)
    ·rename_i m e he;cases he;exact b_ rfl (har m e)
    ·exact hv
   have Fx:v.cells= #[v]:=by
    cases v<;>first|rfl|skip
    rename_i cs;exfalso;unfold Cell.okWide at hcell;rw[hu]at hcell;cases dd<;>simp[Cell.ok,hu]at hcell
   obtain⟨dd',hu2,_,hn⟩:=hE.desc t ti ht;have h1:ti.ks.length=1:=by rcases hn rY with ⟨k,h,_⟩|⟨h,_⟩|⟨h,_⟩|⟨e',h,_⟩|⟨h,_⟩<;>simp[h]
   rw[Fx]at Mn;obtain⟨ys,hc⟩:=Aa hE n t ti.ks hl fuel [v] (d,ps) sp hd Mn hw (by rw[hct,h1];rfl);have GD:ys.length=1:=by rw[<-bM (f:=CV.kd),hc.kd,h1]
   obtain⟨y,rfl⟩:=fW.1 GD;refine⟨[y],⟨ti,ht,hc.kd⟩,hc.fine,λc hK p=> ?_⟩
   rw[ht];show o_ T w c ti.agg [jU (dC p 0) (EH y)] _;rw[rY];obtain⟨u,qx,ha⟩:=cell [y] [v] hc c hK p 0 _ rfl;cases qx;exact ha
 ·cases hp
theorem R5(hE:dP P T){n:aG}{sp:aG->aU}{hd:aU}{base:aG}:∀{ts:ax aG} {vs:ax a7} {ds:ax (DataW H)} {ps:ax MemPlace},ts.all (LN P T n)=aj->
  BF enc P w 0 sp hd ts vs ds ps->(∀(j:aG) t v,ts[j]? =ah t->vs[j]? =ah v->qs P w .any base t v)->(∀m∈lH P ts ds,m<=reachBytes)->
  ∃qo,nK T ts qo/\vs.length=(mU T ts qo).length/\ds.length=ts.length/\∀c:dZ,(∀b,ub w b->c.K b)->∀(q p:aG) (x:eu),(mU T ts qo)[p]? =ah x->∃v,vs[p]? =ah v/\ic T w c (qy (q+p) x) v:=by
 intro ts;induction ts with
 |nil=>intro vs ds ps _ h _ _;obtain⟨rfl,rfl,rfl⟩:=trodAll_nil h;exact⟨[],trivial,rfl,rfl,λc _ q p x h=>by simp[mU]at h⟩
 |cons t ts ih=>
  intro vs ds ps hp h hok hw;simp only[mv,aJ]at hp;obtain⟨v,vs,d,ds,p,q,rfl,rfl,rfl,h0,r0⟩:=trodAll_cons h;obtain⟨ys,y1,y2,y3⟩:=Yp hE hp.1 (hok 0 t v rfl rfl) h0 (λm hm=>hw m (by simp only[lH,aX];exact .inl hm));obtain⟨qo,z1,z2,z4,z3⟩:=ih hp.2 r0 (λj t v hj hv=>hok (j+1) t v hj hv) (λm hm=>hw m (by simp only[lH,aX];exact .inr hm));refine⟨ys::qo,⟨y1,y2,z1⟩,by simp[mU,z2],by simp[z4],λc hK q p x hx=> ?_⟩
  cases p with
  |zero=>cases hx;exact⟨v,rfl,y3 c hK q⟩
  |succ p=>obtain⟨v',h1,h2⟩:=z3 c hK (q+1) p x hx;exact⟨v',h1,by rw[show q+(p+1)=q+1+p by omega];exact h2⟩
theorem mz{m:aG}{ob:Obj}:∀{ts:ax aG} {qo:ax (ax CV)},inj (mU T ts qo) (cG m)≠ .o ob:=by
 intro ts qo h;obtain⟨p,a,h0,hh⟩:=yL h;have:∀(ts:ax aG) (qo:ax (ax CV)) (p:aG) (a:eu),(mU T ts qo)[p]? =ah a->∃(g:aU) (ys:ax CV),a= .v g (ys.map EH):=by
  intro ts;induction ts with
  |nil=>intro qo p a h;simp[mU]at h
  |cons t ts ih=>
   intro qo p a h;cases qo with
   |nil=>simp[mU]at h
   |cons ys qo=>
    cases p with
    |zero=>cases h;exact⟨_,ys,rfl⟩
    |succ p=>exact ih qo p a h
 obtain⟨g,ys,rfl⟩:=this _ _ _ _ h0;rcases hh with ⟨xs,h1,_⟩|⟨xs,j,e,ex,zs,h1,h2,_⟩
 ·cases h1
 ·have h1:ys.map EH=xs:=by rcases h1 with ⟨g',h1⟩|h1<;>cases h1;rfl
  subst h1;rw[bg]at h2;cases hy:ys[j]? with
  |none=>rw[hy]at h2;cases h2
  |some y=>rw[hy]at h2;cases y<;>cases h2
theorem D8(hl:laidOutB P=aj){W':bw}(hb:Below w.heap.size w W'){n:aG}:∀{ts:ax aG} {vs:ax a7} {ds:ax (DataW H)} {ps:ax MemPlace},ts.all (LN P T n)=aj->BF enc P w 0 (λ_=>aj) aj ts vs ds ps->(∀x∈ps,x.block<w.heap.size)->
  BF enc P W' 0 (λb=>decide (b<w.heap.size)) aj ts vs ds ps:=by
 intro ts;induction ts with
 |nil=>intro vs ds ps _ h _;obtain⟨rfl,rfl,rfl⟩:=trodAll_nil h;exact h
 |cons t ts ih=>
  intro vs ds ps hp h jj;simp only[mv,aJ]at hp;obtain⟨v,vs,d,ds,p,q,rfl,rfl,rfl,h0,r0⟩:=trodAll_cons h;have Lk:=hp.1;unfold LN at Lk;split at Lk
  ·simp only[aJ]at Lk;exact⟨p,q,Below.trod hl Lk.1.2 (by simpa using Lk.2) h0 hb (λx hx=>jj x (bL _ hx)),ih hp.2 r0 (λx hx=>jj x (bE _ hx)),rfl⟩
  ·cases Lk
end
theorem DF{H:Type}{enc:TypeId×a7->H}{C:Checked}{T:Tab}(hE:dP C.prog T)(hl:laidOutB C.prog=aj){g tb n:aG}{fn:Func}{spec:ax eu->aA (aU×Res)}(hF:FnOk C.prog T g spec){s:ChangeSpec}
  (acM:fn.params.toList.all (LN C.prog T n)=aj) (akl:fn.resultTypes= #[tb]) (htb:C.prog.underlying tb=ah .bool) (Ow:s.vars=[])
  (hfn:∀ds:ax (DataW H),ds.length=fn.params.toList.length->s.fn H ds={results:=[.lit (.bool aj)],args:=ds})
  (claim:∀qo,nK T fn.params.toList qo->spec (mU T fn.params.toList qo)=ah (aj,⟨[.v ao [.b aj]],[]⟩))
  (W:bw) (base:aG) (args:cX a7) (ds gs:ax (DataW H)) (before:ax MemPlace)
  (hval:∀(j:aG) t v,fn.params[j]? =ah t->args[j]? =ah v->qs C.prog W .any base t v)
  (hW:DataW.Whole enc C.prog fn.params.toList s.vars ao W args.toList ds gs before)
  (hsz:(lH C.prog (fn.params.toList++s.plain.varTypes C.prog) (ds++gs)).all (·<=reachBytes)=aj) (hgp:T.gp.f W (ub W)):
  Calls C.prog g args W λe W'=>∃v,e= .returned v/\s.post enc C.prog fn ao aj ao ao W args v W':=by
 have hW':=hW;obtain⟨p,q,hA,hV,rfl,hfz,Fv⟩:=hW;have jj:=hW'.lt;rw[Ow]at hV;have hgs:gs=[]/\q=[]:=by
  cases gs with
  |nil=>exact⟨rfl,hV⟩
  |cons=>exact hV.elim
 obtain⟨rfl,rfl⟩:=hgs;have hw:∀m∈lH C.prog fn.params.toList ds,m<=reachBytes:=by
  intro m hm;rw[dv]at hsz;have e:s.plain.varTypes C.prog=[]:=by unfold DataSpec.varTypes ChangeSpec.plain;simp[Ow]
  rw[e,dv]at hsz;have:=bf.1 hsz m hm;simpa using this
 obtain⟨qo,SW,hlen,hdl,qw⟩:=R5 hE acM hA (λj t v hj hv=>hval j t v (by simpa using hj) (by simpa using hv)) hw;let nl:Pl:=⟨aj,0,0,0,0,0⟩
 let c1:dZ:=⟨λ_=>nl,λ_ _ _=>nl,ub W⟩
 have hok:Ok T (inj (mU T fn.params.toList qo)) W c1:=⟨λnm o h=>b_ h mz,λnm o tY o' b h=>b_ h mz,λnm o b h=>b_ h mz,λb hb=>hb,λnm xs h=>b_ h mz,hgp⟩
 obtain⟨_,hc⟩:=hF _ _ (claim qo SW) W c1 args hok (by rw[<-hlen];simp) (λp x hx=>by obtain⟨v,h1,h2⟩:=qw c1 (λ_ h=>h) 0 p x hx;rw[bG]at h2;exact⟨v,by simpa using h1,h2⟩);refine hc.mono λe W' hR=> ?_;cases e with
 |panicked=>exact hR.elim
 |outgrown=>exact hR.elim
 |returned v=>
  obtain⟨c3,_,vu,_,tW⟩:=hR;have hv:v= .bool true:=tW;subst hv;have hb:Below W.heap.size W W':=⟨vu.os,vu.tape,vu.output,vu.size,λk hk=>vu.same k hk (λ⟨nm,o,h,_⟩=>mz h)⟩
  have Ot:=hfn ds hdl;refine⟨_,rfl,ds,[],_,[],p,[],hW', ?_, ?_, ?_,hb.frame _,λh=>by cases h⟩
  ·rw[dv,Ot,akl];exact trodAll_mk1 (shut_bool htb _)
  ·rw[dv,Ot];exact D8 hl hb acM hA (λx hx=>jj x (bL _ hx))
  ·rw[dv,Ot,Ow];rfl
end Go.FG

namespace Go.FG
def fK(s:aq)(i:aG):aG:=(s.data.getD i 0).toNat
abbrev bN(x:ay):ay:=ar.wrap x
inductive fI where
 |I (n:ay)|B (x:aU)|S (x:aq)|R (xs:Row)|N (n:aG)
def gI:ax fI->ay| .I n::_=>n|_=>0
def gB:ax fI->aU| .B n::_=>n|_=>ao
def gS:ax fI->aq| .S n::_=>n|_=>⟨#[]⟩
def gR:ax fI->Row| .R n::_=>n|_=>[]
def gN:ax fI->aG| .N n::_=>n|_=>0
def hCV:CV->ax fI
 | .i _ n=>[.I n]| .b x=>[.B x]| .s x=>[.S x]| .l _ xs=>[.R xs]
def sCV:CV->CV->aU
 | .i k _, .i k' _=>decide (k=k')| .b _, .b _=>aj| .s _, .s _=>aj| .l e _, .l e' _=>bA e e'|_,_=>ao
def fCV(s:CV)(l:ax fI):CV×ax fI:=
 match s with
 | .i k _=>(.i k (gI l),l.tail)| .b _=>(.b (gB l),l.tail)| .s _=>(.s (gS l),l.tail)| .l e _=>(.l e (gR l),l.tail)
def Fm:ax CV->ax fI|[]=>[]|a::r=>hCV a++Fm r
def DZ:ax CV->ax CV->aU|[],[]=>aj|a::r,b::t=>sCV a b&&DZ r t|_,_=>ao
def wg:ax CV->ax fI->ax CV×ax fI
 |[],l=>([],l)|a::r,l=>((fCV a l).1::(wg r (fCV a l).2).1,(wg r (fCV a l).2).2)
def B2:ax (ax CV)->ax fI|[]=>[]|a::r=>Fm a++B2 r
def Cn:ax (ax CV)->ax (ax CV)->aU|[],[]=>aj|a::r,b::t=>DZ a b&&Cn r t|_,_=>ao
def wT:ax (ax CV)->ax fI->ax (ax CV)×ax fI
 |[],l=>([],l)|a::r,l=>((wg a l).1::(wT r (wg a l).2).1,(wT r (wg a l).2).2)
theorem YN{s a:CV}(h:sCV s a=aj)(l:ax fI):fCV s (hCV a++l)=(a,l):=by
 cases s<;>cases a<;>simp only[sCV,aZ,cN,Nat.beq_eq]at h<;>first|exact h.elim|skip
 all_goals first|(subst h;rfl)|rfl
theorem uD:∀{s a:ax CV},DZ s a=aj->∀l,wg s (Fm a++l)=(a,l)
 |[],[],_,l=>rfl
 |s::ss,a::as,h,l=>by
  simp only[DZ,aJ]at h;simp only[wg,Fm,bY,YN h.1,uD h.2]
 |[],_::_,h,_=>by cases h
 |_::_,[],h,_=>by cases h
theorem zE:∀{s a:ax (ax CV)},Cn s a=aj->∀l,wT s (B2 a++l)=(a,l)
 |[],[],_,l=>rfl
 |s::ss,a::as,h,l=>by
  simp only[Cn,aJ]at h;simp only[wT,B2,bY,uD h.1,zE h.2]
 |[],_::_,h,_=>by cases h
 |_::_,[],h,_=>by cases h
def hAV:AV->ax fI
 | .i _ n=>[.I n]| .b x=>[.B x]| .s x=>[.S x]| .sh _ xs=>[.R xs]| .vw _ lo hi=>[.N lo, .N hi]| .rp _ i _=>[.N i]
 | .sp _ xs i _=>[.R xs, .N i]| .la _ i _=>[.N i]| .ip _ i _ i2 _=>[.N i, .N i2]| .fn _ gQ=>B2 gQ| .fp xs _=>Fm xs|_=>[]
def Ur:AV->AV->aU
 | .i k _, .i k' _=>decide (k=k')| .b _, .b _=>aj| .s _, .s _=>aj| .sh e _, .sh e' _=>bA e e'| .nl, .nl=>aj
 | .own n, .own n'=>bA n n'| .vw n _ _, .vw n' _ _=>bA n n'| .bp n j, .bp n' j'=>bA n n'&&bA j j'| .rp n _ j, .rp n' _ j'=>bA n n'&&bA j j'
 | .sp e _ _ j, .sp e' _ _ j'=>bA e e'&&bA j j'| .la n _ j, .la n' _ j'=>bA n n'&&bA j j'
 | .ip n _ j _ q, .ip n' _ j' _ q'=>bA n n'&&bA j j'&&bA q q'| .fn f c, .fn f' c'=>bA f f'&&Cn c c'| .fp c j, .fp c' j'=>bA j j'&&DZ c c'
 |_,_=>ao
def fAV(s:AV)(l:ax fI):AV×ax fI:=
 match s with
 | .i k _=>(.i k (gI l),l.tail)| .b _=>(.b (gB l),l.tail)| .s _=>(.s (gS l),l.tail)| .sh e _=>(.sh e (gR l),l.tail)
 | .vw n _ _=>(.vw n (gN l) (gN l.tail),l.tail.tail)| .rp n _ j=>(.rp n (gN l) j,l.tail)| .sp e _ _ j=>(.sp e (gR l) (gN l.tail) j,l.tail.tail)
 | .la n _ j=>(.la n (gN l) j,l.tail)| .ip n _ j _ q=>(.ip n (gN l) j (gN l.tail) q,l.tail.tail)| .fn f c=>(.fn f (wT c l).1,(wT c l).2)| .fp c j=>(.fp (wg c l).1 j,(wg c l).2)
 |a=>(a,l)
def La:ax AV->ax fI|[]=>[]|a::r=>hAV a++La r
def Ia:ax AV->ax AV->aU|[],[]=>aj|a::r,b::t=>Ur a b&&Ia r t|_,_=>ao
def zD:ax AV->ax fI->ax AV×ax fI
 |[],l=>([],l)|a::r,l=>((fAV a l).1::(zD r (fAV a l).2).1,(zD r (fAV a l).2).2)
def Sn(a b:aU):aU:=bif a then b else !b
def SE:ax (aU×ax AV)->ax fI|[]=>[]|(_,xs)::r=>La xs++SE r
def Qc:ax (aU×ax AV)->ax (aU×ax AV)->aU
 |[],[]=>aj|(g,xs)::r,(g',ys)::t=>Sn g g'&&Ia xs ys&&Qc r t|_,_=>ao
def K3:ax (aU×ax AV)->ax fI->ax (aU×ax AV)×ax fI
 |[],l=>([],l)|(g,xs)::r,l=>((g,(zD xs l).1)::(K3 r (zD xs l).2).1,(K3 r (zD xs l).2).2)
def Lb:dS->ax fI
 | .v (.v _ xs)=>La xs| .v (.jf l)=>SE l| .o (.box xs)=>La xs| .o (.mV cs)=>Fm cs| .o (.row _ _ xs)=>[.R xs]| .o (.eU _ xs)=>[.R xs]|_=>[]
def Ut:dS->dS->aU
 | .v (.v g xs), .v (.v g' ys)=>Sn g g'&&Ia xs ys| .v (.jf l), .v (.jf r)=>Qc l r| .v .un, .v .un=>aj
 | .o (.box xs), .o (.box ys)=>Ia xs ys| .o (.mV c), .o (.mV c')=>DZ c c'| .o (.row e x _), .o (.row e' x' _)=>bA e e'&&Sn x x'| .o (.eU e _), .o (.eU e' _)=>bA e e'
 | .o .dead, .o .dead=>aj| .iN, .iN=>aj|_,_=>ao
def Hn(c:dS)(l:ax fI):dS×ax fI:=
 match c with
 | .v (.v g xs)=>(.v (.v g (zD xs l).1),(zD xs l).2)| .v (.jf r)=>(.v (.jf (K3 r l).1),(K3 r l).2)
 | .o (.box xs)=>(.o (.box (zD xs l).1),(zD xs l).2)| .o (.mV c)=>(.o (.mV (wg c l).1),(wg c l).2)| .o (.row e x _)=>(.o (.row e x (gR l)),l.tail)| .o (.eU e _)=>(.o (.eU e (gR l)),l.tail)
 |c=>(c,l)
def Fw:ax (aG×dS)->ax fI|[]=>[]|(_,c)::r=>Lb c++Fw r
def wD:ax (aG×dS)->ax (aG×dS)->aU
 |[],[]=>aj|(k,c)::r,(k',c')::t=>bA k k'&&Ut c c'&&wD r t|_,_=>ao
def Jm:ax (aG×dS)->ax fI->ax (aG×dS)
 |[],_=>[]|(k,c)::r,l=>(k,(Hn c l).1)::Jm r (Hn c l).2
theorem zy{a b:aU}(h:Sn a b=aj):a=b:=by cases a<;>cases b<;>first|rfl|cases h
theorem YM{s a:AV}(h:Ur s a=aj)(l:ax fI):fAV s (hAV a++l)=(a,l):=by
 match s,a,h with
 | .fn f c, .fn f' c',h=>simp only[Ur,aJ]at h;have h1:=aN h.1;subst h1;simp only[fAV,hAV,zE h.2]
 | .fp c j, .fp c' j',h=>simp only[Ur,aJ]at h;have h1:=aN h.1;subst h1;simp only[fAV,hAV,uD h.2]
 | .i k _, .i k' _,h=>have h1:=ca (show decide (k=k')=aj from h);subst h1;rfl
 | .b _, .b _,_=>rfl
 | .s _, .s _,_=>rfl
 | .sh e _, .sh e' _,h=>have h1:=aN (show bA e e'=aj from h);subst h1;rfl
 | .nl, .nl,_=>rfl
 | .own n, .own n',h=>have h1:=aN (show bA n n'=aj from h);subst h1;rfl
 | .vw n _ _, .vw n' _ _,h=>have h1:=aN (show bA n n'=aj from h);subst h1;rfl
 | .bp n j, .bp n' j',h=>simp only[Ur,aJ]at h;have h1:=aN h.1;have h2:=aN h.2;subst h1;subst h2;rfl
 | .rp n _ j, .rp n' _ j',h=>simp only[Ur,aJ]at h;have h1:=aN h.1;have h2:=aN h.2;subst h1;subst h2;rfl
 | .sp n _ _ j, .sp n' _ _ j',h=>simp only[Ur,aJ]at h;have h1:=aN h.1;have h2:=aN h.2;subst h1;subst h2;rfl
 | .la n _ j, .la n' _ j',h=>simp only[Ur,aJ]at h;have h1:=aN h.1;have h2:=aN h.2;subst h1;subst h2;rfl
 | .ip n _ j _ q, .ip n' _ j' _ q',h=>simp only[Ur,aJ]at h;have h1:=aN h.1.1;have h2:=aN h.1.2;have h3:=aN h.2;subst h1;subst h2;subst h3;rfl
theorem yG:∀{s a:ax AV},Ia s a=aj->∀l,zD s (La a++l)=(a,l)
 |[],[],_,l=>rfl
 |s::ss,a::as,h,l=>by
  simp only[Ia,aJ]at h;simp only[zD,La,bY,YM h.1,yG h.2]
 |[],_::_,h,_=>by cases h
 |_::_,[],h,_=>by cases h
theorem Jk:∀{s a:ax (aU×ax AV)},Qc s a=aj->∀l,K3 s (SE a++l)=(a,l)
 |[],[],_,l=>rfl
 |(g,xs)::ss,(g',ys)::as,h,l=>by
  simp only[Qc,aJ]at h;obtain⟨⟨h1,h2⟩,h3⟩:=h;have h1:=zy h1;subst h1;simp only[K3,SE,bY,yG h2,Jk h3]
 |[],_::_,h,_=>by cases h
 |_::_,[],h,_=>by cases h
theorem Sv{s c:dS}(h:Ut s c=aj)(l:ax fI):Hn s (Lb c++l)=(c,l):=by
 match s,c,h with
 | .v (.v g xs), .v (.v g' ys),h=>simp only[Ut,aJ]at h;have h1:=zy h.1;subst h1;simp only[Hn,Lb,yG h.2]
 | .v (.jf r), .v (.jf r'),h=>simp only[Hn,Lb,Jk (show Qc r r'=aj from h)]
 | .v .un, .v .un,_=>rfl
 | .o (.box xs), .o (.box ys),h=>simp only[Hn,Lb,yG (show Ia xs ys=aj from h)]
 | .o (.mV c), .o (.mV c'),h=>simp only[Hn,Lb,uD (show DZ c c'=aj from h)]
 | .o (.row e x _), .o (.row e' x' _),h=>simp only[Ut,aJ]at h;have h1:=zy h.2;have h2:=aN h.1;subst h1;subst h2;rfl
 | .o (.eU e _), .o (.eU e' _),h=>have h2:=aN h;subst h2;rfl
 | .o .dead, .o .dead,_=>rfl
 | .iN, .iN,_=>rfl
theorem Fb:∀{S L:ax (aG×dS)},wD S L=aj->Jm S (Fw L)=L
 |[],[],_=>rfl
 |(k,s)::S,(k',c)::L,h=>by
  simp only[wD,aJ]at h;obtain⟨⟨h1,h2⟩,h3⟩:=h;have h1:=aN h1;subst h1;simp only[Jm,Fw,Sv h2,Fb h3]
 |[],_::_,h=>by cases h
 |_::_,[],h=>by cases h
def tell{R:Type}(S:ax (aG×dS))(H:ax fI->aA R)(L:ax (aG×dS))(other:aA R):aA R:=bif wD S L then H (Fw L)else other
def ON:ax (aG×ax aG)->aG->ax aG
 |[],_=>[]|(k,l)::r,n=>bif bA n k then l else ON r n
def ad4:ax (aG×aG×Om)->aG->aG->Om
 |[],_,_=> .nat|(q,j,o)::r,n,m=>bif bA n q&&bA m j then o else ad4 r n m
def O0:ax (aG×aG)->aG->aG->aU
 |[],_,_=>ao|(f,p)::r,n,m=>(bA n f&&bA m p)||O0 r n m
def ad_:ax (aG×aG)->aG->aA aG
 |[],_=>ai|(k,e)::r,n=>bif bA n k then ah e else ad_ r n
theorem ch{p:Code->Prop}:∀c∈([]:ax Code),p c:=λc h=>by cases h
theorem bT{p:Code->Prop}{c:Code}{l:ax Code}(h:p c)(hl:∀d∈l,p d):∀d∈c::l,p d:=λd hd=>by
 rcases b7.1 hd with rfl|hd
 ·exact h
 ·exact hl d hd
def oQ:ax (aG×(ax eu->aA (aU×Res)))->aG->ax eu->aA (aU×Res)
 |[],_,_=>ai
 |(k,s)::r,g,a=>bif bA g k then(match s a with|some x=>ah x|none=>oQ r g a)else oQ r g a
theorem bD{P:cC}{T:Tab}:∀g,FnOk P T g (oQ [] g):=λg=>K5 λ_=>rfl
theorem aQ{P:cC}{T:Tab}{k:aG}{s:ax eu->aA (aU×Res)}{L:ax (aG×(ax eu->aA (aU×Res)))}(h:FnOk P T k s)(hl:∀g,FnOk P T g (oQ L g)):∀g,FnOk P T g (oQ ((k,s)::L) g):=by
 intro g;cases hb:bA g k with
 |true=>
  have:=aN hb;subst this;intro args r hr;unfold oQ at hr;rw[hb,aw]at hr;cases hs:s args with
  |some x=>rw[hs]at hr;exact h args r (hs.trans hr)
  |none=>rw[hs]at hr;exact hl g args r hr
 |false=>
  have e:oQ ((k,s)::L) g=oQ L g:=by funext a;simp only[oQ,hb,az]
  rw[e];exact hl g
def mkE(T:Tab)(md:ax (aG×aG))(cs:ax (aG×(ax eu->aA (aU×Res))))(ks:ax (aG×ax aG))(tk:ax aG)(om:ax (aG×aG×Om)):eL:={toTab:=T,call:=oQ cs,mode:=O0 md,keep:=ON ks,tk:=λn=>ld n tk,om:=ad4 om}
end Go.FG

namespace Go.FG
theorem Ik{T:Tab}{t:aG}{ts:ax aG}{qo:ax (ax CV)}(h:nK T (t::ts) qo):∃ys afR,qo=ys::afR/\(∃ti,T.ty t=ah ti/\ys.map CV.kd=ti.ks)/\(∀y∈ys,pP T y)/\nK T ts afR:=by
 cases qo with
 |nil=>exact h.elim
 |cons ys qo=>exact⟨ys,qo,rfl,h.1,h.2.1,h.2.2⟩
theorem L8{T:Tab}{qo:ax (ax CV)}(h:nK T [] qo):qo=[]:=by
 cases qo with
 |nil=>rfl
 |cons=>exact h.elim
theorem Te{T:Tab}{k:Ck}{ks:ax Ck}{ys:ax CV}(h:ys.map CV.kd=k::ks)(hf:∀y∈ys,pP T y):∃y AX,ys=y::AX/\y.kd=k/\pP T y/\AX.map CV.kd=ks/\∀y∈AX,pP T y:=by
 cases ys with
 |nil=>cases h
 |cons y ys=>rw[eF,Va]at h;exact⟨y,ys,rfl,h.1,hf y (cw ..),h.2,λz hz=>hf z (cg _ hz)⟩
theorem Zw{ys:ax CV}(h:ys.map CV.kd=[]):ys=[]:=by simpa using h
theorem ame{T:Tab}{e:aG}{y:CV}(h:y.kd= .l e)(hf:pP T y):∃xs,y= .l e xs/\pP T (.l e xs):=by cases y<;>simp[CV.kd]at h;subst h;exact⟨_,rfl,hf⟩
theorem jH{x:ay}(h1: -9223372036854775808<=x)(h2:x<=9223372036854775807):bN x=x:=by
 have e:bN x=if(decide (x%18446744073709551616≥9223372036854775808))=aj then x%18446744073709551616-18446744073709551616 else x%18446744073709551616:=rfl
 rw[e];by_cases h:x%18446744073709551616≥9223372036854775808
 ·rw[ba (aE h)];omega
 ·rw[a_ (by simpa using h)];omega
end Go.FG

namespace Go.FG
inductive Ho where|I|B|S|R|N
abbrev den:Ho->Type
 | .I=>ay| .B=>aU| .S=>aq| .R=>Row| .N=>aG
abbrev Fn:ax Ho->Type->Type
 |[],A=>A|h::s,A=>den h->Fn s A
abbrev Tu:ax Ho->Type
 |[]=>Unit|h::s=>den h×Tu s
abbrev Pr:ax Ho->Type
 |[]=>Unit|[h]=>den h|h::s=>den h×Pr s
def df:(h:Ho)->den h
 | .I=>(0:ay)| .B=>ao| .S=>(⟨#[]⟩:aq)| .R=>([]:Row)| .N=>(0:aG)
def lf:(h:Ho)->den h->fI
 | .I,x=> .I x| .B,x=> .B x| .S,x=> .S x| .R,x=> .R x| .N,x=> .N x
def ap{A:Type}:(s:ax Ho)->Fn s A->Tu s->A
 |[],f,_=>f|_::s,f,x=>ap s (f x.1) x.2
def cmp{A B:Type}:(s:ax Ho)->Fn s A->(A->B)->Fn s B
 |[],f,g=>g f|_::s,f,g=>λy=>cmp s (f y) g
def Jg{A:Type}:(s:ax Ho)->Fn s A->A
 |[],f=>f|h::s,f=>Jg s (f (df h))
def lv:(s:ax Ho)->Tu s->ax fI
 |[],_=>[]|h::s,x=>lf h x.1::lv s x.2
def R0{A:Type}:(s:ax Ho)->Fn s (aA A)->ax fI->aA A
 |[],f,[]=>f
 | .I::s,f, .I x::l=>R0 s (f x) l| .B::s,f, .B x::l=>R0 s (f x) l| .S::s,f, .S x::l=>R0 s (f x) l
 | .R::s,f, .R x::l=>R0 s (f x) l| .N::s,f, .N x::l=>R0 s (f x) l
 |_,_,_=>ai
def jf:(s:ax Ho)->Fn s (Pr s)
 |[]=>()|[_]=>λx=>x|_::h::s=>λx=>cmp (h::s) (jf (h::s)) λp=>(x,p)
def Vf{A:Type}:(s:ax Ho)->Fn s A->Pr s->A
 |[],f,_=>f|[_],f,p=>f p|_::h::s,f,p=>Vf (h::s) (f p.1) p.2
theorem zk{A:Type}{s:ax Ho}{f:Fn s (aA A)}{l:ax fI}{a:A}(h:R0 s f l=ah a):∃x,l=lv s x/\ap s f x=ah a:=by
 induction s generalizing l with
 |nil=>cases l with
  |nil=>exact⟨(),rfl,h⟩
  |cons=>cases h
 |cons k s ih=>
  cases l with
  |nil=>cases k<;>cases h
  |cons y l=>cases k<;>cases y<;>first|(obtain⟨x,rfl,hx⟩:=ih h;exact⟨(_,x),rfl,hx⟩)|cases h
theorem zl{A B:Type}{s:ax Ho}(f:Fn s A)(g:A->B)(x:Tu s):ap s (cmp s f g) x=g (ap s f x):=by
 induction s with
 |nil=>rfl
 |cons k s ih=>exact ih _ _
theorem Ym{A:Type}{s:ax Ho}{f g:Fn s A}(h:∀x,ap s f x=ap s g x):f=g:=by
 induction s with
 |nil=>exact h ()
 |cons k s ih=>exact funext λy=>ih λx=>h (y,x)
theorem R2{A:Type}{s:ax Ho}(f:Fn s A)(x:Tu s):Vf s f (ap s (jf s) x)=ap s f x:=by
 induction s with
 |nil=>rfl
 |cons k s ih=>
  cases s with
  |nil=>rfl
  |cons h s=>exact(je (Vf (k::h::s) f) (zl ..)).trans (ih ..)
def hAA:AA->ax fI
 | .i _ n=>[.I n]| .b x=>[.B x]| .s x=>[.S x]| .sh _ xs=>[.R xs]| .ow _ _ xs=>[.R xs]| .kp xs=>[.R xs]| .fn _ c=>B2 c| .nl=>[]
def sAA:AA->AA->aU
 | .i k _, .i k' _=>decide (k=k')| .b _, .b _=>aj| .s _, .s _=>aj| .sh e _, .sh e' _=>bA e e'| .ow e x _, .ow e' x' _=>bA e e'&&Sn x x'
 | .kp _, .kp _=>aj| .fn f c, .fn f' c'=>bA f f'&&Cn c c'| .nl, .nl=>aj|_,_=>ao
def fAA(s:AA)(l:ax fI):AA×ax fI:=
 match s with
 | .i k _=>(.i k (gI l),l.tail)| .b _=>(.b (gB l),l.tail)| .s _=>(.s (gS l),l.tail)| .sh e _=>(.sh e (gR l),l.tail)| .ow e x _=>(.ow e x (gR l),l.tail)
 | .kp _=>(.kp (gR l),l.tail)| .fn f c=>(.fn f (wT c l).1,(wT c l).2)| .nl=>(.nl,l)
def Hz:ax AA->ax fI|[]=>[]|a::r=>hAA a++Hz r
def H_:ax AA->ax AA->aU|[],[]=>aj|a::r,b::t=>sAA a b&&H_ r t|_,_=>ao
def Fa:ax AA->ax fI->ax AA×ax fI
 |[],l=>([],l)|a::r,l=>((fAA a l).1::(Fa r (fAA a l).2).1,(Fa r (fAA a l).2).2)
def HA:eu->ax fI
 | .v _ xs=>Hz xs| .pt xs=>Hz xs| .fb xs=>Fm xs
def L4:eu->eu->aU
 | .v g xs, .v g' ys=>Sn g g'&&H_ xs ys| .pt xs, .pt ys=>H_ xs ys| .fb xs, .fb ys=>DZ xs ys|_,_=>ao
def Hm(s:eu)(l:ax fI):eu×ax fI:=
 match s with
 | .v g xs=>(.v g (Fa xs l).1,(Fa xs l).2)| .pt xs=>(.pt (Fa xs l).1,(Fa xs l).2)| .fb xs=>(.fb (wg xs l).1,(wg xs l).2)
def hAr:ax eu->ax fI|[]=>[]|a::r=>HA a++hAr r
def Us:ax eu->ax eu->aU|[],[]=>aj|a::r,b::t=>L4 a b&&Us r t|_,_=>ao
def Ss:ax eu->ax fI->ax eu×ax fI
 |[],l=>([],l)|a::r,l=>((Hm a l).1::(Ss r (Hm a l).2).1,(Ss r (Hm a l).2).2)
def FX(l:ax (ax AA)):ax eu:=l.map (.v aj)
theorem YL{s a:AA}(h:sAA s a=aj)(l:ax fI):fAA s (hAA a++l)=(a,l):=by
 cases s<;>cases a<;>simp only[sAA,aZ,cN,Nat.beq_eq,aJ]at h<;>first|exact h.elim|skip
 all_goals first|rfl|(subst h;rfl)|(obtain⟨rfl,h⟩:=h;first|(obtain rfl:=zy h;rfl)|(simp only[fAA,hAA,zE h]))
theorem Dl:∀{s a:ax AA},H_ s a=aj->∀l,Fa s (Hz a++l)=(a,l)
 |[],[],_,l=>rfl
 |s::ss,a::as,h,l=>by
  simp only[H_,aJ]at h;simp only[Fa,Hz,bY,YL h.1,Dl h.2]
theorem Su{s a:eu}(h:L4 s a=aj)(l:ax fI):Hm s (HA a++l)=(a,l):=by
 cases s<;>cases a<;>simp only[L4,cN,aJ]at h
 ·obtain⟨h1,h⟩:=h;obtain rfl:=zy h1;simp only[Hm,HA,Dl h]
 ·simp only[Hm,HA,Dl h]
 ·simp only[Hm,HA,uD h]
theorem Hl:∀{s a:ax eu},Us s a=aj->∀l,Ss s (hAr a++l)=(a,l)
 |[],[],_,l=>rfl
 |s::ss,a::as,h,l=>by
  simp only[Us,aJ]at h;simp only[Ss,hAr,bY,Su h.1,Hl h.2]
theorem N2{s a:ax eu}(h:Us s a=aj):(Ss s (hAr a)).1=a:=by have:=Hl h [];rw[dv]at this;rw[this]
def xAA{B:Type}(s a:AA)(k:ax fI->aA B):aA B:=
 match s,a with
 | .i k1 _, .i k2 n=>bif decide (k1=k2)then k [.I n]else ai
 | .b _, .b n=>k [.B n]
 | .s _, .s n=>k [.S n]
 | .sh e _, .sh e' n=>bif bA e e' then k [.R n]else ai
 | .ow e x _, .ow e' x' n=>bif bA e e'&&Sn x x' then k [.R n]else ai
 | .kp _, .kp n=>k [.R n]
 | .fn f c, .fn f' c'=>bif bA f f'&&Cn c c' then k (B2 c')else ai
 | .nl, .nl=>k []
 |_,_=>ai
def QU{B:Type}:ax AA->ax AA->(ax fI->aA B)->aA B
 |[],[],k=>k []|s::ss,a::as,k=>xAA s a λl=>QU ss as λr=>k (l++r)|_,_,_=>ai
def aap{B:Type}(s a:eu)(k:ax fI->aA B):aA B:=
 match s,a with
 | .v g xs, .v g' ys=>bif Sn g g' then QU xs ys k else ai
 | .pt xs, .pt ys=>QU xs ys k
 | .fb xs, .fb ys=>bif DZ xs ys then k (Fm ys)else ai
 |_,_=>ai
def xAr{B:Type}:ax eu->ax eu->(ax fI->aA B)->aA B
 |[],[],k=>k []|s::ss,a::as,k=>aap s a λl=>xAr ss as λr=>k (l++r)|_,_,_=>ai
theorem aao{B:Type}(s a:AA)(k:ax fI->aA B):xAA s a k=bif sAA s a then k (hAA a)else none:=by cases s<;>cases a<;>rfl
theorem Ky{B:Type}:∀(s a:ax AA) (k:ax fI->aA B),QU s a k=bif H_ s a then k (Hz a)else ai
 |[],[],_=>rfl
 |s::ss,a::as,k=>by
  simp only[QU,aao,Ky ss as,H_,Hz];cases sAA s a<;>rfl
 |[],_::_,_=>rfl
 |_::_,[],_=>rfl
theorem UI{B:Type}(s a:eu)(k:ax fI->aA B):aap s a k=bif L4 s a then k (HA a)else none:=by
 cases s<;>cases a<;>simp only[aap,L4,HA,Ky]<;>try rfl
 rename_i g xs g' ys;cases Sn g g'<;>rfl
theorem Ec{B:Type}:∀(s a:ax eu) (k:ax fI->aA B),xAr s a k=bif Us s a then k (hAr a)else ai
 |[],[],_=>rfl
 |s::ss,a::as,k=>by
  simp only[xAr,UI,Ec ss as,Us,hAr];cases L4 s a<;>rfl
 |[],_::_,_=>rfl
 |_::_,[],_=>rfl
def Xh{A:Type}(s:ax Ho)(T:Fn s (ax eu))(f:Fn s (aA A))(a:ax eu):aA A:=xAr (Jg s T) a (R0 s f)
def aaA(s t:ax Ho)(k:Fn t Res)(c:Fn s aU)(v:Fn s (Pr t)):Fn s (aA (aU×Res)):=
 match s with
 |[]=>ah (c,Vf t k v)
 |_::s=>λx=>aaA s t k (c x) (v x)
theorem UQ{s t:ax Ho}{k:Fn t Res}{c:Fn s aU}{v:Fn s (Pr t)}(x:Tu s):ap s (aaA s t k c v) x=ah (ap s c x,Vf t k (ap s v x)):=by
 induction s with
 |nil=>rfl
 |cons h s ih=>exact ih _
def spf{s t:ax Ho}(A:Fn s (ax eu))(k:Fn t Res)(c:Fn s aU)(v:Fn s (Pr t)):ax eu->aA (aU×Res):=Xh s A (aaA s t k c v)
def Sa{t:ax Ho}(k:Fn t Res)(r:Res):aA (Pr t):=
 xAr (Jg t k).rs r.rs λl=>xAr (FX (Jg t k).outs) (FX r.outs) λm=>R0 t (cmp t (jf t) ah) (l++m)
def Wr{s:ax Ho}(A:Fn s (ax eu)):Prop:=∀x,(Ss (Jg s A) (lv s x)).1=ap s A x
def ZP{t:ax Ho}(k:Fn t Res):Prop:=∀x,(⟨(Ss (Jg t k).rs (lv t x)).1,(Ss (FX (Jg t k).outs) (Ss (Jg t k).rs (lv t x)).2).1⟩:ax eu×ax eu)=⟨(ap t k x).rs,FX (ap t k x).outs⟩
def okT{s:ax Ho}(T:Fn s (ax (aG×dS))):Prop:=∀x,Jm (Jg s T) (lv s x)=ap s T x
theorem FY:∀{a b:ax (ax AA)},FX a=FX b->a=b
 |[],[],_=>rfl
 |_::_,_::_,h=>by
  obtain⟨h1,h2⟩:=qt h;obtain⟨_,rfl⟩:=eu.v.inj h1;rw[FY h2]
 |[],_::_,h=>by cases h
 |_::_,[],h=>by cases h
theorem KT{t:ax Ho}{k:Fn t Res}(hk:ZP k){r:Res}{p:Pr t}(h:Sa k r=ah p):r=Vf t k p:=by
 unfold Sa at h;rw[Ec]at h;cases hb:Us (Jg t k).rs r.rs with
 |false=>rw[hb]at h;cases h
 |true=>
  rw[hb,aw,Ec]at h;cases hc:Us (FX (Jg t k).outs) (FX r.outs)with
  |false=>rw[hc]at h;cases h
  |true=>rw[hc,aw]at h;obtain⟨x,h1,h2⟩:=zk h;rw[zl]at h2;obtain rfl:=aD h2;rw[R2];have hx:=hk x;rw[<-h1,Hl hb,N2 hc]at hx;obtain⟨e1,e2⟩:=bF hx;have e3:=FY e2;cases r;cases hr:ap t k x;rw[hr]at e1 e3;cases e1;cases e3;rfl
theorem Ax{s t:ax Ho}{A:Fn s (ax eu)}(hA:Wr A){k:Fn t Res}{c:Fn s aU}{v:Fn s (Pr t)}{args:ax eu}{r:aU×Res}(h:spf A k c v args=ah r):∃x,args=ap s A x/\r=(ap s c x,Vf t k (ap s v x)):=by
 unfold spf Xh at h;rw[Ec]at h;cases hb:Us (Jg s A) args with
 |false=>rw[hb]at h;cases h
 |true=>rw[hb,aw]at h;obtain⟨x,h1,h2⟩:=zk h;rw[UQ]at h2;exact⟨x,by rw[<-hA x,<-h1,N2 hb],(aD h2).symm⟩
def zq{t:ax Ho}(E:eL)(it:It (Pr t))(F:Func)(k:Fn t Res)(args:ax eu):aA (Pr t):=
 match F.body with
 |some c=>q_ E it c (inj args) λe σ=>(fin E F args e σ).bind (Sa k)
 |none=>ai
def ET(F:Func)(A:ax eu):aU:=
 (match F.body with|some c=> !(F.name== "runtime.NumGoroutine")&&qY F.ntmps c|none=>ao)&&wE A&&eG A.length F.ntmps
theorem flh{P:cC}{E:eL}(hE:dP P E)(hm:P.follows .mixedOrders=aj)(hF:∀g,FnOk P E g (E.call g)){g:aG}{F:Func}(hf:P.funcs[g]? =ah F){s t:ax Ho}{A:Fn s (ax eu)}{k:Fn t Res}{it:aG->It (Pr t)}
  (hc:∀x,ET F (ap s A x)=aj) {l:ax Code} (hl:iV (F.body.getD .skip)=l) (zN:∀N,∀c∈l,c5 E (it N) c) (hA:Wr A) (hk:ZP k)
  {c:Fn s aU} {v:Fn s (Pr t)} (h:∀x,uG (ap s A x)->ap s c x=aj->∃N,zq E (it N) F k (ap s A x)=ah (ap s v x)):FnOk P E g (spf A k c v):=by
 intro args r hr;obtain⟨x,rfl,_⟩:=Ax hA hr;have hx:=hc x;unfold ET at hx;cases hb:F.body with
 |none=>rw[hb]at hx;cases hx
 |some code=>
  rw[hb]at hl hx;have hl:iV code=l:=hl;simp only[aJ,dA]at hx;refine YP hE hF hm hf hb (by rw[hx.1.1.1,hx.1.1.2];rfl) (λargs r hr=> ?_) _ r hr;obtain⟨x,rfl,hq⟩:=Ax hA hr;obtain⟨h1,rfl⟩:=bF hq;have hx:=hc x;unfold ET at hx;simp only[aJ]at hx;refine⟨hx.1.2,λhf=> ?_⟩
  obtain⟨N,h⟩:=h x hf h1.symm;refine⟨cf hx.2,Pr t,it N,λe σ=>(fin E F (ap s A x) e σ).bind (Sa k),ap s v x,by rw[hl];exact zN N, ?_,λe σ he=> ?_⟩
  ·unfold zq at h;rw[hb]at h;exact h
  ·obtain⟨r,hr,hd⟩:=Option.bind_eq_some_iff.1 he;rw[hr,KT hk hd]
theorem Yn{s t:ax Ho}{c:Fn s aU}{v:Fn s (Pr t)}{w:Fn s (aA (Pr t))}{d:Pr t}(hc:cmp s w mm=c)(hv:cmp s w (λo=>o.getD d)=v)(x:Tu s)(h:ap s c x=aj):ap s w x=ah (ap s v x):=by
 subst hc hv;rw[zl]at h;rw[zl];cases hw:ap s w x with
 |none=>rw[hw]at h;cases h
 |some y=>rfl
theorem fl{P:cC}{E:eL}(hE:dP P E)(hm:P.follows .mixedOrders=aj)(hF:∀g,FnOk P E g (E.call g)){g:aG}{F:Func}(hf:P.funcs[g]? =ah F){s t:ax Ho}{A:Fn s (ax eu)}{k:Fn t Res}{it:aG->It (Pr t)}
  (hc:∀x,ET F (ap s A x)=aj) {l:ax Code} (hl:iV (F.body.getD .skip)=l) (zN:∀N,∀c∈l,c5 E (it N) c) (hA:Wr A) (hk:ZP k)
  {c:Fn s aU} {v:Fn s (Pr t)} {w:aG->Fn s (aA (Pr t))} {u:Fn s (aA (Pr t))} {d:Pr t} (N:aG) (h:∀N x,zq E (it N) F k (ap s A x)=ap s (w N) x) (hw:w N=u) (h1:cmp s u mm=c) (h2:cmp s u (λo=>o.getD d)=v):FnOk P E g (spf A k c v):=
 flh hE hm hF hf hc hl zN hA hk λx _ hx=>⟨N,(h N x).trans (by rw[hw];exact Yn h1 h2 x hx)⟩
def ct:(s:ax Ho)->Fn s aU
 |[]=>aj|_::s=>λ_=>ct s
abbrev Kt(R:Type):=Ex->St->aA R
abbrev Tb:=ax (aG×dS)
def J{R:Type}{s:ax Ho}(T:Fn s Tb)(e:Ex)(K:Kt R):Fn s (aA R):=cmp s T λt=>K e (eJ t)
def al{R:Type}{s:ax Ho}(T:Fn s Tb)(f:Kt R->Fn s (aA R))(o:Tb->Kt R->aA R):Tb->Kt R->aA R:=λL K=>bif wD (Jg s T) L then R0 s (f K) (Fw L)else o L K
def an{R:Type}:Tb->Kt R->aA R:=λ_ _=>ai
def lp{R:Type}(n:aG)(a:Tb->Kt R->aA R)(o:It R):It R:=λmX f cn L K=>bif bA mX n then a L K else o mX f cn L K
def ln{R:Type}:It R:=λ_ _ _ _ _=>ai
theorem RY{R:Type}{s:ax Ho}{T:Fn s Tb}(hT:okT T){f:Kt R->Fn s (aA R)}{o:Tb->Kt R->aA R}{L:Tb}{K:Kt R}{r:R}(h:al T f o L K=ah r):(∃x,L=ap s T x/\ap s (f K) x=ah r)\/o L K=ah r:=by
 unfold al at h;cases hb:wD (Jg s T) L with
 |false=>rw[hb]at h;exact .inr h
 |true=>rw[hb]at h;obtain⟨x,h1,h2⟩:=zk h;exact .inl ⟨x,by rw[<-hT x,<-h1,Fb hb],h2⟩
section
variable {R:Type} {E:eL} {it:It R} {C:Code} {n:aG}
def Good(E:eL)(it:It R)(C:Code)(n:aG)(a:Tb->Kt R->aA R):Prop:=∀L K r,a L K=ah r->∃m,iter (q_ E it C) (canon (E.wY n)) m (eJ L) K=ah r
def Wd(E:eL)(it:It R)(C:Code)(n:aG)(K:Kt R){s:ax Ho}(T:Fn s Tb)(l:aG->Fn s (aA R)):Prop:=∀m x,iter (q_ E it C) (canon (E.wY n)) m (eJ (ap s T x)) K=ap s (l m) x
theorem ni:Good E it C n an:=λ_ _ _ h=>by cases h
theorem Jv{s:ax Ho}{T:Fn s Tb}(hT:okT T){l:Kt R->aG->Fn s (aA R)}{N:aG}{o:Tb->Kt R->aA R}(h:∀K,Wd E it C n K T (l K))(ho:Good E it C n o):Good E it C n (al T (λK=>l K N) o):=by
 intro L K r hq;rcases RY hT hq with ⟨x,rfl,hx⟩|hq
 ·exact⟨N,(h K N x).trans hx⟩
 ·exact ho L K r hq
theorem lom(n:aG)(hr:fG C=n){a:Tb->Kt R->aA R}(hi:∀L K,it n (q_ E it C) (canon (E.wY n)) L K=a L K)(h:Good E it C n a):c5 E it C:=by intro L K q;rw[hr,hi];exact h L K q
theorem wf{K:Kt R}{s:ax Ho}{T:Fn s Tb}{l:aG->Fn s (aA R)}{m:aG}(h:∀x,iter (q_ E it C) (canon (E.wY n)) m (eJ (ap s T x)) K=ap s (l m) x):cmp s T (λt=>iter (q_ E it C) (canon (E.wY n)) m (eJ t) K)=l m:=
 Ym λy=>by rw[zl,h]
theorem wl{K:Kt R}{s:ax Ho}{T:Fn s Tb}{l:aG->Fn s (aA R)}(r:(St->aA R)->Fn s (aA R))(h0:∀x,ap s (l 0) x=ai)
  (h1:∀m,(∀x,iter (q_ E it C) (canon (E.wY n)) m (eJ (ap s T x)) K=ap s (l m) x)->r (λσ=>iter (q_ E it C) (canon (E.wY n)) m σ K)=l (m+1))
  (h:∀g x,q_ E it C (eJ (ap s T x)) (B5 g (canon (E.wY n)) K)=ap s (r g) x):Wd E it C n K T l:=by
 intro m;induction m with
 |zero=>intro x;rw[h0];rfl
 |succ m ih=>intro x;rw[Ls,h,h1 m ih]
theorem lo1(n:aG){s:ax Ho}(T:Fn s Tb)(hr:fG C=n)(hT:okT T)(l:Kt R->aG->Fn s (aA R))(r:Kt R->Fn s (aA R)->Fn s (aA R)){N:aG}
  (hi:∀L K,it n (q_ E it C) (canon (E.wY n)) L K=al T (λK=>l K N) an L K) (h0:∀K x,ap s (l K 0) x=ai) (h1:∀K n,l K (n+1)=r K (l K n))
  (h:∀K g x,q_ E it C (eJ (ap s T x)) (B5 g (canon (E.wY n)) K)=ap s (r K (cmp s T λt=>g (eJ t))) x):c5 E it C:=
 lom n hr hi (Jv hT (λK=>wl (λg=>r K (cmp s T λt=>g (eJ t))) (h0 K) (λm i=>by rw[h1];exact je (r K) (wf i)) (h K)) ni)
end
end Go.FG

namespace Go.FG.Lib
def cR:aG:=18446744073709551616
def lt{α β:Type}(a:α)(f:α->β):β:=f a
theorem dL{α:Type}{o:aA α}{x d:α}(h:o=ah x):mm o=aj/\Vd o d=x:=by rw[h];exact⟨rfl,rfl⟩
theorem some_{α:Type}{o:aA α}{d:α}(h:mm o=aj):o=ah (Vd o d):=by
 cases o with
 |none=>cases h
 |some x=>rfl
theorem iL{σ β:Type}(F:aG->σ->β)(mu:σ->aG)(inv:σ->Prop)(res:σ->β)
  (step:∀n s,inv s->F (n+1) s=res s\/∃s',inv s'/\mu s'<mu s/\res s'=res s/\F (n+1) s=F n s'):∀n s,inv s->mu s<n->F n s=res s:=by
 intro n;induction n with
 |zero=>intro s _ h;omega
 |succ n ih=>
  intro s hi hm;rcases step n s hi with h|⟨s',h1,h2,h3,h4⟩
  ·exact h
  ·rw[h4,<-h3];exact ih s' h1 (by omega)
theorem dJ(i n:aG):decide ((i:ay)<(n:ay))=decide (i<n):=by rw[c_];omega
theorem c9(i:aG):decide (0<=(i:ay))=true:=by simp
theorem NZ{i n:aG}(h:i<n):decide ((i:ay)<(n:ay))=true:=by simp;omega
theorem Vl{i n:aG}(h:¬i<n):decide ((i:ay)<(n:ay))=false:=by simp;omega
theorem eK(i:aG):aY (i:ay)=i:=rfl
theorem dn{i n:aG}(h:i<n)(hn:n<=9223372036854775807):bN ((i:ay)+1)=((i+1:aG):ay):=by rw[jH (by omega) (by omega)];omega
theorem rX{xs:Row}{i:aG}(h:i<xs.length):xs.getD i []=xs[i]:=by simp[e6,h]
theorem de{xs:Row}{i j:aG}(h:i<xs.length):au xs i j=xs[i].getD j (.b ao):=by unfold au;rw[rX h]
theorem iQ(xs:Row)(i j:aG)(ys:ax CV):(eN xs i j ys).length=xs.length:=by unfold eN;simp
theorem lB(ks:ax Ck)(n:aG):(aR ks n).length=n:=by unfold aR;simp
theorem cE{n b:aG}(h:n*b<=140737488355328)(h2:n<=9223372036854775807):cF n b=true:=by unfold cF;simp;omega
theorem J7{xs:Row}{i j:aG}{ys:ax CV}(h:i<xs.length):eN xs i j ys=xs.set i (iB xs[i] j ys):=by unfold eN;rw[rX h]
theorem gK{x:Row}{i:aG}(h:i<x.length):x.drop i=x[i]::x.drop (i+1):=cQ h
def up:ay->aG->ay|k,0=>k|k,n+1=>up (bN (k+1)) n
theorem Ip{x:ay}(h:0<=x):bN x<=x:=by
 have e:bN x=if(decide (x%18446744073709551616≥9223372036854775808))=aj then x%18446744073709551616-18446744073709551616 else x%18446744073709551616:=rfl
 rw[e];split<;>omega
def vb(x:ay):Row:=
 if x>127 then [CV.i a6 (bj a6 (bN (bZ x 128+128)))]::vb (bN (cO x 128))else [[CV.i a6 (bj a6 x)]]
termination_by x.toNat
decreasing_by
 rename_i h
 have h1:cO x 128=x/128:=dB (by omega)
 have h2:=Ip (x:=cO x 128) (by omega)
 omega
theorem tP{x:ay}(h:x>127):vb x=[CV.i a6 (bj a6 (bN (bZ x 128+128)))]::vb (bN (cO x 128)):=by rw[vb,ba h]
theorem lG{x:ay}(h:¬x>127):vb x=[[CV.i a6 (bj a6 x)]]:=by rw[vb,a_ h]
theorem P6{n:aG}(h:n<=140737488355328):cF n 1=true:=cE (by omega) (by omega)
theorem jE(y:ax CV)(ks:ax Ck):(aF (aR ks 1) 0 y)=[y]:=rfl
theorem UC{R:Type}(F:aG->ay->Row->aA R)(k:aq->aA R)
  (h1:∀n x acc,x>127->acc.length<=100->F (n+1) x acc=F n (bN (cO x 128)) (acc++[[CV.i a6 (bj a6 (bN (bZ x 128+128)))]]))
  (h2:∀n x acc,¬x>127->acc.length<=100->F (n+1) x acc=k (bytesOf (acc++[[CV.i a6 (bj a6 x)]]))) (x:ay) (hx:x<=9223372036854775807):F (x.toNat+1) x []=k (bytesOf (vb x)):=by
 have:=iL (λn (s:ay×Row)=>F n s.1 s.2) (λs=>s.1.toNat) (λs=>s.2.length<=100/\(1<=s.1->2^s.2.length*s.1<=9223372036854775808)) (λs=>k (bytesOf (s.2++vb s.1))) (λn s hs=>by
  obtain⟨x,acc⟩:=s;obtain⟨hl,hb⟩:=hs;dsimp only at hl hb⊢;by_cases h:x>127
  ·right;have e1:cO x 128=x/128:=dB (by omega);have hp:(1:ay)<=2^acc.length:=by
    have:(0:ay)<2^acc.length:=by exact Int.pow_pos (by omega)
    omega
   have Zo:x<=9223372036854775808:=by have h3:=hb (by omega);have:1*x<=2^acc.length*x:=Int.mul_le_mul_of_nonneg_right hp (by omega);omega
   have e2:bN (cO x 128)=x/128:=by rw[e1,jH (by omega) (by omega)]
   have h64:acc.length<64:=by
    rcases oM acc.length 64 with h5|h5
    ·exact h5
    ·exfalso;have h6:(2:ay)^64<=2^acc.length:=by have:=Nat.pow_le_pow_right (n:=2) (by omega) h5;exact_mod_cast this
     have h7:=hb (by omega);have h8:(2:ay)^acc.length*1<=2^acc.length*x:=y_ (by omega) (by omega);have:(2:ay)^64=18446744073709551616:=by decide
     omega
   refine⟨(bN (cO x 128),acc++[[CV.i a6 (bj a6 (bN (bZ x 128+128)))]]),⟨by simp;omega,λ_=> ?_⟩,by dsimp only;omega, ?_,h1 n x acc h hl⟩
   ·dsimp only;rw[e2,bW,bu,sw];have h7:=hb (by omega);have h9:2*(x/128)<=x:=by omega
    have h8:(2:ay)^acc.length*(2*(x/128))<=2^acc.length*x:=y_ h9 (by omega);rw[Int.mul_assoc];omega
   ·dsimp only;rw[tP h,bY];rfl
  ·left;rw[lG h];exact h2 n x acc h hl) (x.toNat+1) (x,[]) ⟨by simp,λh=>by simp;omega⟩ (by dsimp only;omega)
 simpa using this
theorem ab7{a b c:aG}{inst:Decidable (a+b<=c)}(h:a+b<=c): @decide (a+b<=c) inst=true:=aE h
theorem aaa:∀(n:aG) (x:ay),x<2^n->(vb x).length<=n+1:=by
 intro n;induction n with
 |zero=>intro x hx;rw[lG (by omega)];simp
 |succ n ih=>
  intro x hx;by_cases h:x>127
  ·have e1:cO x 128=x/128:=dB (by omega);have h2:=Ip (x:=cO x 128) (by omega);rw[tP h];have h3:bN (cO x 128)<2^n:=by rw[sw]at hx;omega
   have:=ih _ h3;simp;omega
  ·rw[lG h];simp
theorem gM(xs:Row):(bytesOf xs).size=xs.length:=by unfold bytesOf;simp[bh]
theorem mI{x:ay}(h:x<=9223372036854775807):(bytesOf (vb x)).size<=64:=by
 rw[gM];exact aaa 63 x (by have:(2:ay)^63=9223372036854775808:=by decide
                           omega)
theorem dX(a b:aq):(a++b).size=a.size+b.size:=dh
theorem nN(l:ax eE):cu l l=true:=by
 induction l with
 |nil=>rfl
 |cons a l ih=>simp only[cu,ih,ig];exact beq_self_eq_true a
theorem Ha(s:aq)(i:aG):fK s i<256:=(s.data.getD i 0).toNat_lt
def rv(t:aq)(a:aG):aG->aG->ay->ay×ay×aU
 |0,_,_=>(0,0,ao)
 |f+1,j,n=>
  if a+j<t.size then
   (if(fK t (a+j):ay)>127 then rv t a f (j+1) (n+(fK t (a+j):ay)%128*128^j)
   else if(j>0/\fK t (a+j)=0)\/n+(fK t (a+j):ay)%128*128^j>1000000000 then(0,0,ao)
   else(n+(fK t (a+j):ay)%128*128^j,((a+j+1:aG):ay),aj))
  else(0,0,ao)
theorem zp{α:Type}{c:aU}{x y:α}(h:c=aj):(bif c then x else y)=x:=by rw[h];rfl
theorem NI{α:Type}{c:aU}{x y:α}(h:c=ao):(bif c then x else y)=y:=by rw[h];rfl
theorem EY{p:Prop}{inst:Decidable p}(h:p): @decide p inst=true:=aE h
theorem Je{p:Prop}{inst:Decidable p}(h:¬p): @decide p inst=false:=aK h
def num(t:aq):aG->aG->ay
 |_,0=>0
 |a,k+1=>(fK t a:ay)%128+128*num t (a+1) k
theorem yN(t:aq):∀(k a:aG),0<=num t a k/\num t a k<128^k
 |0,a=>by simp[num]
 |k+1,a=>by
  have:=yN t k (a+1);simp only[num,sw];omega
theorem uR(t:aq):∀(k a:aG),num t a (k+1)=num t a k+(fK t (a+k):ay)%128*128^k
 |0,a=>by simp[num]
 |k+1,a=>by
  rw[num,uR t k (a+1),num,show a+1+k=a+(k+1)by omega,sw];rw[Int.mul_add,<-Int.add_assoc];congr 1;rw[Int.mul_comm 128,Int.mul_assoc]
theorem JQ(t:aq):∀(k a:aG),(fK t (a+k):ay)%128≠0->1<=num t a (k+1)
 |0,a,h=>by simp[num]at h⊢;omega
 |k+1,a,h=>by
  rw[num];have:=JQ t k (a+1) (by rw[show a+1+k=a+(k+1)by omega];exact h);omega
theorem QQ(t:aq):∀(k a:aG),(∀i,i<k->128<=fK t (a+i))->fK t (a+k)<128->(k=0\/fK t (a+k)≠0)->num t a (k+1)<=9223372036854775807->vb (num t a (k+1))=(ml a (k+1)).map λi=>[CV.i a6 (fK t i:ay)]
 |0,a,_,h2,_,_=>by
  have e:num t a 1=(fK t a:ay):=by simp[num]at h2⊢;omega
  simp only[rS]at h2;rw[e,lG (by omega)];have hw:bj a6 (fK t a:ay)=(fK t a:ay):=by show(fK t a:ay)%256=_;omega
  rw[hw];rfl
 |k+1,a,h1,h2,h3,h4=>by
  have hb:=Ha t a;have h0:=h1 0 (by omega);rw[rS]at h0;have g_:fK t (a+(k+1))≠0:=by rcases h3 with h3|h3;(·omega);exact h3
  have me:=JQ t k (a+1) (by rw[show a+1+k=a+(k+1)by omega];omega);have e:num t a (k+1+1)=(fK t a:ay)%128+128*num t (a+1) (k+1):=rfl;rw[e]at h4⊢;have e1:bZ ((fK t a:ay)%128+128*num t (a+1) (k+1)) 128=(fK t a:ay)%128:=by rw[iJ (by omega)];omega
  have e2:cO ((fK t a:ay)%128+128*num t (a+1) (k+1)) 128=num t (a+1) (k+1):=by rw[dB (by omega)];omega
  have e3:bN ((fK t a:ay)%128+128)=(fK t a:ay):=by rw[jH (by omega) (by omega)];omega
  have hw:bj a6 (fK t a:ay)=(fK t a:ay):=by show(fK t a:ay)%256=_;omega
  rw[tP (by omega),e1,e2,e3,hw,jH (by omega) (by omega),QQ t k (a+1) (λi hi=>by rw[show a+1+i=a+(i+1)by omega];exact h1 (i+1) (by omega)) (by rw[show a+1+k=a+(k+1)by omega];exact h2) (by rw[show a+1+k=a+(k+1)by omega];exact .inr g_) (by omega)];rfl
theorem yV:∀(k:aG) (x:ay),x<128^(k+1)->(vb x).length<=k+1
 |0,x,h=>by rw[lG (by simp at h;omega)];simp
 |k+1,x,h=>by
  by_cases hx:x>127
  ·have e1:cO x 128=x/128:=dB (by omega);have h2:=Ip (x:=cO x 128) (by omega);rw[tP hx];have h3:bN (cO x 128)<128^(k+1):=by rw[sw]at h;omega
   have:=yV k _ h3;simp;omega
  ·rw[lG hx];simp
theorem EN{t:aq}{a m:aG}(h:a+m<=t.size):(bytesOf ((ml a m).map λi=>[CV.i a6 (fK t i:ay)])).data.toList=(t.extract a (a+m)).data.toList:=by
 have h1:(bytesOf ((ml a m).map λi=>[CV.i a6 (fK t i:ay)])).data.toList=(ml a m).map λi=>t.data.getD i 0:=by unfold bytesOf;simp[bS,fK]
 rw[h1];apply Q7;intro i;have hs:t.size=t.data.size:=rfl;have Ll:a+m<=t.data.size:=by rw[<-hs];exact h
 simp only[fu,gk,eS];by_cases hi:i<m
 ·have h3:a+i<t.data.size:=by omega
  rw[bg,List.getElem?_range' hi,dU,ba (by omega),dK];simp only[fM,Nat.one_mul,cz,dc];rw[Array.getElem?_eq_getElem h3];rfl
 ·rw[jK (by simp;omega),jK (by simp;omega)]
theorem beq_iff{l r:ax eE}:cu l r=aj↔l=r:=by
 constructor
 ·intro h;induction l generalizing r with
  |nil=>cases r with|nil=>rfl|cons=>cases h
  |cons a l ih=>
   cases r with
   |nil=>cases h
   |cons b r=>simp only[cu,aJ]at h;rw[eq_of_beq h.1,ih h.2]
 ·rintro rfl;exact nN l
theorem canon(t:aq)(k a:aG)(h:a+(k+1)<=t.size)(h1:∀i,i<k->128<=fK t (a+i))(h2:fK t (a+k)<128)(h4:num t a (k+1)<=9223372036854775807):
  cu (bytesOf (vb (num t a (k+1)))).toList (t.extract a (a+(k+1))).toList= !decide (k>0/\fK t (a+k)=0):=by
 rw[jq,jq];by_cases hc:k>0/\fK t (a+k)=0
 ·rw[aE hc,a9];obtain⟨k',rfl⟩:∃k',k=k'+1:=⟨k-1,by omega⟩
  cases hb:cu (bytesOf (vb (num t a (k'+1+1)))).data.toList (t.extract a (a+(k'+1+1))).data.toList with
  |false=>rfl
  |true=>
   exfalso;have he:=je bI (beq_iff.1 hb);have e:num t a (k'+1+1)=num t a (k'+1):=by rw[uR,hc.2];simp
   have hl:=yV k' (num t a (k'+1)) (yN t (k'+1) a).2;rw[e]at he;have h5:(bytesOf (vb (num t a (k'+1)))).data.toList.length=(vb (num t a (k'+1))).length:=gM _;have h6:(t.extract a (a+(k'+1+1))).data.toList.length=k'+1+1:=by show(t.extract a (a+(k'+1+1))).size=_;rw[vn];omega
   omega
 ·rw[aK hc,bO];have:=QQ t k a h1 h2 (by omega) h4;rw[this];exact beq_iff.2 (EN h)
theorem qW{a b:aq}(h:a.data.toList=b.data.toList):a=b:=by obtain⟨⟨a⟩⟩:=a;obtain⟨⟨b⟩⟩:=b;simp at h;rw[h]
theorem fP{a b:aq}:cu a.toList b.toList=decide (a=b):=by
 rw[jq,jq];by_cases h:a=b
 ·subst h;rw[aE rfl];exact nN _
 ·rw[aK h];cases hb:cu a.data.toList b.data.toList with
  |false=>rfl
  |true=>exact b_ (qW (beq_iff.1 hb)) h
theorem Wy(t:aq)(a:aG):∀(f j:aG) (n:ay) (m x:ay),rv t a f j n=(m,x,aj)->n=num t a j->(∀i,i<j->128<=fK t (a+i))->
  ∃k,x=((a+(k+1):aG):ay)/\a+(k+1)<=t.size/\0<=m/\m<=1000000000/\bytesOf (vb m)=t.extract a (a+(k+1))
 |0,j,n,m,x,h,_,_=>by simp[rv]at h
 |f+1,j,n,m,x,h,hn,Vu=>by
  have hb:=Ha t (a+j);have SR:n+(fK t (a+j):ay)%128*128^j=num t a (j+1):=by rw[uR,<-hn]
  simp only[rv]at h;by_cases g6:a+j<t.size
  ·rw[ba g6]at h;by_cases hc:(fK t (a+j):ay)>127
   ·rw[ba hc]at h;refine Wy t a f (j+1) _ m x h SR (λi hi=> ?_);by_cases Le:i<j
    ·exact Vu i Le
    ·have:i=j:=by omega
     subst this;omega
   ·rw[a_ hc]at h;by_cases hz:(j>0/\fK t (a+j)=0)\/n+(fK t (a+j):ay)%128*128^j>1000000000
    ·rw[ba hz]at h;simp at h
    ·rw[a_ hz]at h;simp only[ir,and_true]at h;obtain⟨rfl,rfl⟩:=h;have hr:=yN t (j+1) a;rw[<-SR]at hr;refine⟨j,by omega,by omega,hr.1,by omega, ?_⟩
     have:=canon t j a (by omega) Vu (by omega) (by rw[<-SR];omega);rw[fP,show decide (j>0/\fK t (a+j)=0)=ao from aK (λh=>hz (.inl h)),bO,<-SR]at this;exact ca this
  ·rw[a_ g6]at h;simp at h
def dV(t:aq)(gz:ay):ay×ay×aU:=if 0<=gz/\gz<=t.size then rv t gz.toNat 5 0 0 else(0,0,ao)
theorem jG{t:aq}{gz m x:ay}(h:dV t gz=(m,x,aj)):0<=gz/\gz<x/\x<=t.size/\0<=m/\m<=1000000000/\bytesOf (vb m)=t.extract gz.toNat x.toNat:=by
 unfold dV at h;by_cases hn:0<=gz/\gz<=t.size
 ·rw[ba hn]at h;obtain⟨k,h1,h2,h3,h4,h5⟩:=Wy t gz.toNat 5 0 0 m x h rfl (λi hi=>by omega);exact⟨hn.1,by omega,by omega,h3,h4,by rw[h1];exact h5⟩
 ·rw[a_ hn]at h;simp at h
def gT(t:aq)(gz:ay):aq×ay×aU:=
 match dV t gz with
 |(n,x,aj)=>if n<=20000/\n<=t.size-x then(t.extract x.toNat (x+n).toNat,x+n,aj)else(⟨#[]⟩,0,ao)
 |_=>(⟨#[]⟩,0,ao)
theorem Bq{R:Type}{t:aq}(ht:t.size<=4611686018427387904)(gz:ay)(kr:aq->ay->aU->aA R):
  (bif(!(dV t gz).2.2)then(kr ({data:= #[]}) 0 ao)else(bif(decide ((dV t gz).1>20000))then(kr ({data:= #[]}) 0 ao)else(bif(decide ((dV t gz).1>bN ((↑(bh t):ay)-(dV t gz).2.1)))then(kr ({data:= #[]}) 0 ao)else(bif(gU (dV t gz).2.1 (bN ((dV t gz).2.1+(dV t gz).1)) (↑(bh t):ay))then(kr (bc t (aY (dV t gz).2.1) (aY (bN ((dV t gz).2.1+(dV t gz).1)))) (bN ((dV t gz).2.1+(dV t gz).1)) aj)else(ai)))))=kr (gT t gz).1 (gT t gz).2.1 (gT t gz).2.2:=by
 unfold gT;cases hr:dV t gz with
 |mk n r=>
  obtain⟨x,ok⟩:=r;cases ok with
  |false=>rfl
  |true=>
   obtain⟨h1,h2,h3,h4,h5,h6⟩:=jG hr;have e1:bN ((t.size:ay)-x)=t.size-x:=jH (by omega) (by omega);have e2:bN (x+n)=x+n:=jH (by omega) (by omega);simp only[a9,az,e1,e2];by_cases hc:n<=20000/\n<=t.size-x
   ·rw[ba hc,NI (Je (by omega)),NI (Je (by omega)),zp (by simp[gU];omega)]
   ·rw[a_ hc];by_cases hb:n>20000
    ·rw[zp (EY hb)]
    ·rw[NI (Je hb),zp (EY (by omega))]
theorem DV{t:aq}{gz x:ay}{s:aq}(h:gT t gz=(s,x,aj)):0<=gz/\gz<x/\x<=t.size/\s.size<=20000/\bytesOf (vb s.size)++s=t.extract gz.toNat x.toNat:=by
 unfold gT at h;cases hr:dV t gz with
 |mk n r=>
  obtain⟨y,ok⟩:=r;rw[hr]at h;cases ok with
  |false=>simp at h
  |true=>
   dsimp only at h;obtain⟨h1,h2,h3,h4,h5,h6⟩:=jG hr;split at h
   ·rename_i hc;simp only[ir,and_true]at h;obtain⟨rfl,rfl⟩:=h;have hsz:(t.extract y.toNat (y+n).toNat).size=n.toNat:=by rw[vn];omega
    refine⟨h1,by omega,by omega,by rw[hsz];omega, ?_⟩
    rw[hsz,show((n.toNat:aG):ay)=n by omega,h6];apply qW;simp only[eH,fu,kC,gk,eS];rw[show(y+n).toNat-gz.toNat=(y.toNat-gz.toNat)+n.toNat by omega,Vc,s7,show gz.toNat+(y.toNat-gz.toNat)=y.toNat by omega,show(y+n).toNat-y.toNat=n.toNat by omega]
   ·simp at h
theorem uC(t:aq){i j k:aG}(h1:i<=j)(h2:j<=k):t.extract i j++t.extract j k=t.extract i k:=by apply qW;simp only[eH,fu,kC,gk,eS];rw[show k-i=(j-i)+(k-j)by omega,Vc,s7,show i+(j-i)=j by omega]
theorem Jj(t:aq):t.extract 0 t.size=t:=by apply qW;simp only[fu,gk,eS,eB,Eh];exact gb (by simp)
def fi(p:aG->aU):aG->aG->ay
 |0,_=> -1
 |d+1,i=>bif p i then(i:ay)else fi p d (i+1)
theorem wi(p:aG->aU):∀d i,fi p d i= -1/\(∀k,i<=k->k<i+d->p k=ao)\/∃k,i<=k/\k<i+d/\fi p d i=(k:ay)/\p k=aj/\∀q,i<=q->q<k->p q=ao
 |0,i=> .inl ⟨rfl,λk _ _=>by omega⟩
 |d+1,i=>by
  unfold fi;cases hp:p i with
  |true=>exact .inr ⟨i,by omega,by omega,rfl,hp,λq _ _=>by omega⟩
  |false=>
   rcases wi p d (i+1)with ⟨h1,h2⟩|⟨k,h1,h2,h3,h4,h5⟩
   ·refine .inl ⟨h1,λk hk1 wW=> ?_⟩;by_cases h:k=i
    ·subst h;exact hp
    ·exact h2 k (by omega) (by omega)
   ·refine .inr ⟨k,by omega,by omega,h3,h4,λq hq1 hq2=> ?_⟩;by_cases h:q=i
    ·subst h;exact hp
    ·exact h5 q (by omega) hq2
end Go.FG.Lib
namespace Go.FG.Pu
def DC(xs:Row)(i:aG)(ys:Row):Row:=xs.take i++ys++xs.drop i
end Go.FG.Pu

namespace Go.FG
class PT (P:outParam cC) (T:outParam Tab):Prop where
 e:dP P T
 m:P.follows .mixedOrders=aj
abbrev As:=ax eu
abbrev AA.n(x:ay):AA:= .i .i64 x
abbrev AV.n(x:ay):AV:= .i .i64 x
abbrev CV.n(x:ay):CV:= .i .i64 x
abbrev aI(x:ay):eu:= .v ao [.n x]
abbrev aB(x:aU):eu:= .v ao [.b x]
abbrev aS(x:aq):eu:= .v ao [.s x]
abbrev aH(e:aG)(x:Row):eu:= .v ao [.sh e x]
abbrev aO(e:aG)(x:Row):eu:= .v ao [.ow e aj x]
abbrev aV(l:ax AA):eu:= .v aj l
abbrev cA(k:aG)(a:AV):aG×dS:=(k, .v (.v ao [a]))
abbrev cV(k:aG)(l:ax AV):aG×dS:=(k, .v (.v aj l))
abbrev cI(k:aG)(x:ay):aG×dS:=cA k (.n x)
abbrev cP(k n:aG):aG×dS:=cA k (.bp n 0)
abbrev cH(k e:aG)(x:Row):aG×dS:=cA k (.sh e x)
abbrev oB(k:aG)(l:ax AV):aG×dS:=(k, .o (.box l))
abbrev oR(k e:aG)(x:Row):aG×dS:=(k, .o (.row e aj x))
variable {P:cC} {T:Tab} [i:PT P T] {E:eL} {g:aG} {F:Func} {s t:ax Ho} {A:Fn s As} {k:Fn t Res}
theorem fq(hF:∀g,FnOk P T g (E.call g))(hf:P.funcs[g]? =ah F){it:aG->It (Pr t)}{l:ax Code}(zN:∀N,∀c∈l,c5 E (it N) c)
  {c:Fn s aU} {v:Fn s (Pr t)} (b:aG->Fn t (aA (Pr t))->Fn s (aA (Pr t))) (u:Fn s (aA (Pr t))) {d:Pr t} (hT:E.toTab=T:=by rfl)
  (hc:∀x,ET F (ap s A x)=true:=by intro x;kernel_rfl) (hl:iV (F.body.getD .skip)=l:=by kernel_rfl) (hA:Wr A:=by intro x;rfl) (hk:ZP k:=by intro x;rfl)
  (h:∀N x,zq E (it N) F k (ap s A x)=ap s (b N (cmp t (jf t) ah)) x:=by intro N x;kernel_rfl) (hw:b Lib.cR (cmp t (jf t) ah)=u:=by rfl) (h1:cmp s u mm=c:=by rfl) (h2:cmp s u (λo=>o.getD d)=v:=by rfl):FnOk P T g (spf A k c v):=by subst hT;exact fl i.e i.m hF hf hc hl zN hA hk Lib.cR h hw h1 h2
theorem fr(hF:∀g,FnOk P T g (E.call g))(hf:P.funcs[g]? =ah F)
  {c:Fn s aU} {v:Fn s (Pr t)} (b:Fn t (aA (Pr t))->Fn s (aA (Pr t))) (u:Fn s (aA (Pr t))) {d:Pr t} (hT:E.toTab=T:=by rfl)
  (hc:∀x,ET F (ap s A x)=true:=by intro x;kernel_rfl) (hl:iV (F.body.getD .skip)=[]:=by kernel_rfl) (hA:Wr A:=by intro x;rfl) (hk:ZP k:=by intro x;rfl)
  (h:∀x,zq E ln F k (ap s A x)=ap s (b (cmp t (jf t) ah)) x:=by intro x;kernel_rfl) (hw:b (cmp t (jf t) ah)=u:=by rfl) (h1:cmp s u mm=c:=by rfl) (h2:cmp s u (λo=>o.getD d)=v:=by rfl):FnOk P T g (spf A k c v):=by subst hT;exact fl i.e i.m hF hf hc hl (it:=λ_=>ln) (λ_=>ch) hA hk (w:=λ_=>b (cmp t (jf t) ah)) 0 (λ_=>h) hw h1 h2
theorem ft(hF:∀g,FnOk P T g (E.call g))(hf:P.funcs[g]? =ah F)
  {v:Fn s (Pr t)} (b:Fn t (aA (Pr t))->Fn s (aA (Pr t))) (hv:∀x,ap s (b (cmp t (jf t) ah)) x=ah (ap s v x)) (hT:E.toTab=T:=by rfl)
  (hc:∀x,ET F (ap s A x)=true:=by intro x;kernel_rfl) (hl:iV (F.body.getD .skip)=[]:=by kernel_rfl) (hA:Wr A:=by intro x;rfl) (hk:ZP k:=by intro x;rfl)
  (h:∀x,zq E ln F k (ap s A x)=ap s (b (cmp t (jf t) ah)) x:=by intro x;kernel_rfl):FnOk P T g (spf A k (ct s) v):=by subst hT;exact flh i.e i.m hF hf hc hl (it:=λ_=>ln) (λ_=>ch) hA hk λx _ _=>⟨0,(h x).trans (hv x)⟩
theorem fh(hF:∀g,FnOk P T g (E.call g))(hf:P.funcs[g]? =ah F){it:aG->It (Pr t)}{l:ax Code}(zN:∀N,∀c∈l,c5 E (it N) c)
  {c:Fn s aU} {v:Fn s (Pr t)} (b:aG->Fn t (aA (Pr t))->Fn s (aA (Pr t))) (hv:∀x,uG (ap s A x)->ap s c x=aj->∃N,ap s (b N (cmp t (jf t) ah)) x=ah (ap s v x)) (hT:E.toTab=T:=by rfl)
  (hc:∀x,ET F (ap s A x)=true:=by intro x;kernel_rfl) (hl:iV (F.body.getD .skip)=l:=by kernel_rfl) (hA:Wr A:=by intro x;rfl) (hk:ZP k:=by intro x;rfl)
  (h:∀N x,zq E (it N) F k (ap s A x)=ap s (b N (cmp t (jf t) ah)) x:=by intro N x;kernel_rfl):FnOk P T g (spf A k c v):=by subst hT;exact flh i.e i.m hF hf hc hl zN hA hk λx f q=>(hv x f q).imp λN e=>(h N x).trans e
section
variable {R:Type} {it:It R} {F:Func}
theorem lq(n:aG){s:ax Ho}(T:Fn s Tb)(l:Kt R->aG->Fn s (aA R))(r:Kt R->Fn s (aA R)->Fn s (aA R)){N:aG}(hr:fG (cB F n)=n:=by kernel_rfl)(hT:okT T:=by intro x;rfl)
  (hi:∀L K,it n (q_ E it (cB F n)) (canon (E.wY n)) L K=al T (λK=>l K N) an L K:=by intro L K;rfl) (h0:∀K x,ap s (l K 0) x=none:=by intro K x;rfl) (h1:∀K n,l K (n+1)=r K (l K n):=by intro K n;rfl)
  (h:∀K g x,q_ E it (cB F n) (eJ (ap s T x)) (B5 g (canon (E.wY n)) K)=ap s (r K (cmp s T λt=>g (eJ t))) x:=by intro K g x;kernel_rfl):c5 E it (cB F n):=
 lo1 n T hr hT l r hi h0 h1 h
theorem lw{n:aG}{K:Kt R}{s:ax Ho}{T:Fn s Tb}{l:aG->Fn s (aA R)}(r:(St->aA R)->Fn s (aA R))
  (h1:∀m,(∀x,iter (q_ E it (cB F n)) (canon (E.wY n)) m (eJ (ap s T x)) K=ap s (l m) x)->r (λσ=>iter (q_ E it (cB F n)) (canon (E.wY n)) m σ K)=l (m+1)) (h0:∀x,ap s (l 0) x=none:=by intro x;rfl)
  (h:∀g x,q_ E it (cB F n) (eJ (ap s T x)) (B5 g (canon (E.wY n)) K)=ap s (r g) x:=by intro g x;kernel_rfl):Wd E it (cB F n) n K T l:=wl r h0 h1 h
theorem lm(n:aG){a:Tb->Kt R->aA R}(h:Good E it (cB F n) n a)(hr:fG (cB F n)=n:=by kernel_rfl)(hi:∀L K,it n (q_ E it (cB F n)) (canon (E.wY n)) L K=a L K:=by intro L K;rfl):c5 E it (cB F n):=lom n hr hi h
theorem ga{C:Code}{n:aG}{s:ax Ho}(T:Fn s Tb){N:aG}{l:Kt R->aG->Fn s (aA R)}{o:Tb->Kt R->aA R}(h:∀K,Wd E it C n K T (l K))(ho:Good E it C n o)(hT:okT T:=by intro x;rfl):Good E it C n (al T (λK=>l K N) o):=Jv hT h ho
end
end Go.FG

namespace Go.FG
open Go.RowKit
def varInv(P:cC)(n:String)(g:aG)(hg:P.globalNamed n=ah g)(Q:cX a7->Prop):MemI:=
 ⟨λw K=>K g/\∃cs,w.var? P n=ah cs/\Q cs,λ{w w' K K'} ⟨h1,cs,h2,h3⟩ hw hK=>⟨hK g h1,cs,by unfold World.var? at h2⊢;rw[hg]at h2⊢;simpa [hw g h1]using h2,h3⟩⟩
def MemI.and(a b:MemI):MemI:=⟨λw K=>a.f w K/\b.f w K,λ⟨h1,h2⟩ hw hK=>⟨a.fr h1 hw hK,b.fr h2 hw hK⟩⟩
def intInv(g:aG):MemI:=
 ⟨λw K=>K g/\∃m:ay,w.cell? (ad g 0)=ah (.int .i64 m),λ{w w' K K'} ⟨h1,m,h2⟩ hw hK=>⟨hK g h1,m,(GY (a:=ad g 0) (hw g h1)).trans h2⟩⟩
theorem HJ{g:aG}{W:bw}{m:ay}(h:W.cell? (ad g 0)=ah (.int .i64 m)):(intInv g).f W (ub W):=by
 refine⟨?_,m,h⟩
 unfold yq at h;show g<W.heap.size;cases hh:W.heap[g]? with
 |none=>simp[hh]at h
 |some o=>exact(c8.1 hh).1
theorem tO{P:cC}{n:String}{g:aG}{hg:P.globalNamed n=ah g}{Q:cX a7->Prop}{W:bw}{cs:cX a7}(h:W.var? P n=ah cs)(hQ:Q cs):(varInv P n g hg Q).f W (ub W):=by
 refine⟨?_,cs,h,hQ⟩
 unfold World.var? at h;rw[hg]at h;simp only[Option.bind_some]at h;show g<W.heap.size;cases hh:W.heap[g]? with
 |none=>rw[hh]at h;cases h
 |some o=>exact(c8.1 hh).1
theorem fn_leaf{P:cC}{T:Tab}{g:aG}{F:Func}(hf:P.funcs[g]? =ah F)(hb:F.body.isSome=aj)(hn:(F.name== "runtime.NumGoroutine")=ao){s t:ax Ho}{A:Fn s (ax eu)}{k:Fn t Res}{c:Fn s aU}{v:Fn s (Pr t)}(hA:Wr A)
  (h:∀x,ap s c x=aj->∀(w:bw) (c1:dZ) (vs:cX a7),Ok T (inj (ap s A x)) w c1->vs.size=(ap s A x).length->(∀(p:aG) (y:eu),(ap s A x)[p]? =ah y->∃v,vs[p]? =ah v/\ic T w c1 (qy p y) v)->
   Calls P g vs w (λe w'=>∃u,e= .returned u/\IU T (ap s A x) (Vf t k (ap s v x)) c1 w u w')):FnOk P T g (spf A k c v):=by
 intro args r hr w c1 vs hok hsz hvs;obtain⟨x,rfl,hq⟩:=Ax hA hr;obtain⟨h1,rfl⟩:=bF hq;refine⟨⟨F,hf,hb,hn⟩,(h x h1.symm w c1 vs hok hsz hvs).mono λe w' he=> ?_⟩
 obtain⟨u,rfl,h⟩:=he;exact h
theorem ret_none{T:Tab}{args:ax eu}{r:Res}{c1:dZ}{w w':bw}{v:a7}(K':aG->Prop)(h1:Ok T (inj args) w c1)(he:∀m o,nS args r (cG m)≠ .o o)(hb:Below w.heap.size w w')
  (hK:∀b,c1.K b->K' b) (Lc:∀b,K' b->c1.K b\/(w.heap.size<=b/\b<w'.heap.size)) (tW:ic T w' ⟨c1.P,c1.G,K'⟩ (P4 r.rs) v):IU T args r c1 w v w':=
 ⟨⟨c1.P,c1.G,K'⟩,⟨λnm o h=>b_ h (he nm o),λnm o tY o' b h=>b_ h (he nm o),λnm o b h=>b_ h (he nm o),λb Fo=>(Lc b Fo).elim (λh=>gC (h1.lt b h) hb.size) (λh=>h.2),λnm xs h=>b_ h (he nm _),T.gp.fr h1.gp (λb Fo=>hb.block b (h1.lt b Fo)) hK⟩,
  ⟨hb.os,hb.tape,hb.output,hb.size,hK,λb Fo _=>hb.block b Fo,λb ⟨nm,o,ho,_⟩=>b_ ho (he nm o),λb Fo=>(Lc b Fo).elim .inl (λh=> .inr (.inr h.1))⟩,λ_ _=>⟨rfl,rfl⟩,tW⟩
theorem below_drewG(w:bw)(k:aG)(os:cX Go.Obj):Below w.heap.size w (Go.Sort.grow (w.drewN k) os):=
 ⟨rfl,rfl,rfl,by show w.heap.size<=(w.heap++os).size;simp,λb hb=>by show(w.heap++os)[b]? =_;rw[Array.getElem?_append,ba hb]⟩
theorem holds_new{T:Tab}{w':bw}{K:aG->Prop}{e b:aG}{by_:aG}(ht:T.ty e=ah ⟨ao,[.s],by_⟩){l:ax aq}{t:aG}{fr:aG×aG}{n:aG}(hn:n=l.length)(hb:w'.heap[b]? =ah (.cells (l.map Value.string).toArray t fr))(hK:K b)(hs:∀x∈l,GF x)(hm:l.length<=maxLen):
  cK T w' K (.slice (ah (ad b 0)) n n) (.l e (l.map λx=>[CV.s x])):=by
 subst hn;have h:=cK.l (E:=T) (w:=w') (K:=K) e (l.map λx=>[CV.s x]) b 0 l.length ⟨ao,[.s],by_⟩ (λi _=> .string (l.getD i ⟨#[]⟩)) ht (by simp) hm hK (λy hy=>by obtain⟨x,_,rfl⟩:=cD.1 hy;rfl) (λi j y x hi hj=> ?_) (λi j y x hi hj=> ?_)
 ·rw[bM]at h;exact h
 ·rw[bg]at hi;cases hl:l[i]? with
  |none=>rw[hl]at hi;cases hi
  |some z=>
   rw[hl]at hi;cases hi;cases j with
   |zero=>simp[yq,hb,hl,e6]
   |succ j=>simp at hj
 ·rw[bg]at hi;cases hl:l[i]? with
  |none=>rw[hl]at hi;cases hi
  |some z=>
   rw[hl]at hi;cases hi;cases j with
   |zero=>
    cases hj;have:l.getD i ⟨#[]⟩=z:=by simp[e6,hl]
    show cK T w' K (.string (l.getD i ⟨#[]⟩)) (.s z);rw[this];exact .s z (hs z (aM hl))
   |succ j=>simp at hj
end Go.FG

