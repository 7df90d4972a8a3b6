/- An evaluator for the part of the language that this program uses, proved sound over the model: states told as values and lists; what an evaluation tells, the call does. No condition. -/
import Derived.Calls
import Derived.Orders
import Derived.Below
import Derived.Laws.AppendOwn
import Derived.Laws.Slices
import Derived.Laws.StructEq
import Derived.Laws.Tables
import Derived.Laws.MakeOwn
import Derived.Laws.IdiomStrings
import Derived.Laws.BytesArg
import Derived.Laws.NewFold
import Derived.SizedLaws
import Derived.Carry
import Derived.ProofKit
import Derived.KernelRfl
import Derived.Laws.Strings
import Derived.Test.YtjejmgffiilmlaaGreatCoreb
set_option linter.unusedVariables false
set_option linter.unusedSimpArgs false
set_option maxRecDepth 100000
open Array renaming length_toList->dN,getElem?_eq_some_iff->dQ,toList_extract->g_,getElem?_toList->cQ,getD_eq_getD_getElem?->er,toList_append->ui
open Bool renaming true->ak,and_eq_true->aK,false->aq,false_eq_true->dp,not_eq_true'->dG,and_true->pc,not_true->ba,not_false->bX
open ByteArray renaming size->c5,size_append->dC,data_extract->fY,size_extract->wz,extract->bR,data_append->lO
open Go renaming Program->cR,Value->bg,World->bF
open Go.ByteArray renaming toList_eq->jV
open Go.DataW renaming weightsAll->yD,trod->BS,weights->uv,TrodAll->CR,weightsEach->mv
open Go.IntKind renaming i64->ar,u8->bk,wrap->bK
open Go.Value renaming okWide->rk
open Int renaming toNat->bc,tmod->cG,tdiv->cT,tdiv_eq_ediv_of_nonneg->gE,mul_le_mul_of_nonneg_left->Ai,pow_succ->tF,tmod_eq_emod_of_nonneg->rV
open List renaming getElem?_append_left->dj,getElem?_append_right->c6,getElem?_eq_none->kC,mem_singleton->aZ,mem_append->a_,length_append->bP,length_take->eu,length_drop->ia,length_map->bQ,map_append->dm,getElem?_take->dV,getElem?_drop->dM,getElem?_eq_getElem->eI,mem_cons->cz,getElem?_eq_some_iff->aU,getElem?_of_mem->bZ,eq_nil_of_length_eq_zero->fV,getElem?_map->bE,length_eq_one_iff->gF,all_cons->rW,mem_append_left->bO,mem_append_right->bI,append_nil->dn,all_eq_true->bn,append_assoc->cj,map_cons->e9,mem_cons_self->dy,mem_cons_of_mem->cW,getD->jt,drop_eq_getElem_cons->dJ,set->aE,length_singleton->bw,beq->dg,range'->lI,ext_getElem?->TC,extract_eq_take_drop->gP,length->bW,take_add->XN,drop_drop->uw,drop_zero->fB,take_of_length_le->iK
open List.cons renaming injEq->XM,inj->l_
open Nat renaming beq->bA,blt->pX,add_assoc->lB,lt_or_ge->qt,eq_zero_or_pos->BU,eq_of_beq_eq_true->aX,zero_add->bT,blt_eq->zc,mul_le_mul_right->b7,le_trans->db,ble->fj,le_of_ble_eq_true->cC,add_zero->wP,sub_zero->uD
open Option renaming some->aj,none->ao,isSome->mT,bind->lP,getD->XO,map_some->iS
open Option.some renaming inj->aF
open Prod.mk renaming inj->bU,injEq->iT
open _root_ renaming ByteArray->au,Nat->aG,Option->aC,List->aA,cond_true->ay,if_pos->bC,Bool->aY,absurd->cq,Array->di,Int->az,decide_eq_true_eq->bf,of_decide_eq_true->b9,cond_false->aD,decide_eq_true->aJ,if_neg->bM,congrArg->mi,decide_eq_decide->ch,UInt8->FR,decide_eq_false->aM
namespace Go.FG
open Go.RowKit Go.ChangeShapes
inductive qC (T:Tab):CV->Prop
 |i (k n):(Lit.int k n).wf=ak->qC T (.i k n)
 |b (x):qC T (.b x)
 |s (x:au):x.size<=140737488351232->qC T (.s x)
 |l (e xs ti):T.ty e=aj ti->xs.length*ti.bytes<=140737488351232->(∀y∈xs,y.map CV.kd=ti.ks)->(∀y∈xs,∀x∈y,qC T x)->qC T (.l e xs)
def Nd(P:cR)(g:aG->aC (aA Ck)):aA Field->aG->aC (aA Ck)
 |[],_=>aj []
 |f::r,off=>match g f.type with
  |some ks=>bif bA f.offset off&&bA (P.cellsOf f.type) ks.length then(match Nd P g r (off+ks.length)with|some l=>aj (ks++l)|none=>ao)else ao
  |none=>ao
def Nc(P:cR)(T:Tab):aG->aG->aC (aA Ck)
 |0,_=>ao
 |n+1,t=>match P.underlying t with
  |some (.int k)=>aj [.i k]
  |some .bool=>aj [.b]
  |some .string=>aj [.s]
  |some (.slice e)=>match T.ty e,Nc P T n e with
   |some te,aj ks=>bif pO ks te.ks&&bA te.bytes (P.bytesOf e)&&bA (P.cellsOf e) ks.length&&pX 0 ks.length then aj [.l e]else ao
   |_,_=>ao
  |some (.struct fs)=>match Nd P (Nc P T n) fs.toList 0 with
   |some ks=>bif bA (P.cellsOf t) ks.length then aj ks else ao
   |none=>ao
  |_=>ao
def Gv:CV->AA
 | .i k n=> .i k n| .b x=> .b x| .s x=> .s x| .l e xs=> .sh e xs
section
variable {H:Type} {enc:TypeId×bg->H} {P:cR} {T:Tab} {w:bF}
def B8(w:bF):aG->Prop:=λb=>b<w.heap.size
structure ve (T:Tab) (w:bF) (cs:aA bg) (off:aG) (ys:aA CV) (ks:aA Ck):Prop where
 kd:ys.map CV.kd=ks
 at_:∀(j:aG) (y:CV),ys[j]? =aj y->∃v,cs[off+j]? =aj v/\cZ T w (B8 w) v y
 fine:∀y∈ys,qC T y
theorem PS(a:Addr)(m k:aG):(a.add m).add k=a.add (m+k):=by
 unfold Addr.add;by_cases h1:m=0<;>by_cases h2:k=0
 ·simp[h1,h2]
 ·simp[h1,h2]
 ·simp[h1,h2]
 ·simp[h1,h2,lB]
theorem aaL(b o n:aG):(ad b o).add n=ad b (o+n):=by unfold Addr.add;by_cases h:n=0<;>simp[h]
theorem yJ{α:Type}{p:aG->α->Prop}:∀n:aG,(∀i,i<n->∃y,p i y)->∃xs:aA α,xs.length=n/\∀(i:aG) (y:α),xs[i]? =aj y->p i y
 |0,_=>⟨[],rfl,λi y h=>by simp at h⟩
 |n+1,h=>by
  obtain⟨xs,h1,h2⟩:=yJ n (λi hi=>h i (by omega));obtain⟨y,hy⟩:=h n (by omega);refine⟨xs++[y],by simp[h1],λi z hz=> ?_⟩
  rcases qt i xs.length with hi|hi
  ·rw[dj hi]at hz;exact h2 i z hz
  ·rw[c6 hi]at hz;have:i-xs.length=0:=by
    rcases BU (i-xs.length)with h|h
    ·exact h
    ·rw[kC (by simp;omega)]at hz;cases hz
   rw[this]at hz;cases hz;have:i=n:=by omega
   subst this;exact hy
theorem sD{v:bg}{y:CV}{k:Ck}(hk:y.kd=k)(hh:cZ T w (B8 w) v y)(hf:qC T y):ve T w [v] 0 [y] [k] where
 kd:=by simp[hk]
 at_ j y' hj:=by
  cases j with
  |zero=>cases hj;exact⟨v,rfl,hh⟩
  |succ j=>simp at hj
 fine y' hy:=by rw[aZ]at hy;subst hy;exact hf
theorem sP{e:TypeId}:∀{ds:aA (DataW H)} {i:aG} {d:DataW H},ds[i]? =aj d->∀n∈d.weights P e,n∈yD P e ds
 |[],_,_,h,_,_=>by simp at h
 |d0::ds,0,d,h,n,hn=>by cases h;simp only[yD,a_];exact .inl hn
 |d0::ds,i+1,d,h,n,hn=>by simp only[yD,a_];exact .inr (sP (ds:=ds) (i:=i) h n hn)
theorem MQ{g:aG->aC (aA Ck)}{cs:aA bg}
  (hg:∀t ks,g t=aj ks->∀(fuel:aG) (cs:aA bg) (x:DataW H×aA MemPlace) sp hd,BS enc P w 0 sp hd fuel t cs=aj x->(∀m∈x.1.weights P t,m<=reachBytes)->cs.length=P.cellsOf t->∃ys,ve T w cs 0 ys ks):
  ∀(fs:aA Field) (off:aG) (ks:aA Ck),Nd P g fs off=aj ks->off+ks.length<=cs.length->∀(xs:aA (DataW H×aA MemPlace)) (fuel:aG) sp hd,xs.length=fs.length->
   (∀(i:aG) (f:Field),fs[i]? =aj f->BS enc P w 0 sp hd fuel f.type ((cs.drop f.offset).take (P.cellsOf f.type))=xs[i]?)->
   (∀(i:aG) (f:Field) x,fs[i]? =aj f->xs[i]? =aj x->∀m∈x.1.weights P f.type,m<=reachBytes)->∃ys,ve T w cs off ys ks:=by
 intro fs;induction fs with
 |nil=>intro off ks h _ xs fuel sp hd _ _ _;cases h;exact⟨[],⟨rfl,λj y hj=>by simp at hj,λy hy=>by cases hy⟩⟩
 |cons f fs ih=>
  intro off ks h hlen xs fuel sp hd U7 N7 hwt;unfold Nd at h;cases hgf:g f.type with
  |none=>rw[hgf]at h;cases h
  |some k1=>
   rw[hgf]at h;dsimp only at h;cases hb:(bA f.offset off&&bA (P.cellsOf f.type) k1.length)with
   |false=>rw[hb]at h;cases h
   |true=>
    rw[hb,ay]at h;simp only[aK]at hb;have e1:=aX hb.1;have e2:=aX hb.2;cases hr:Nd P g fs (off+k1.length)with
    |none=>rw[hr]at h;cases h
    |some k2=>
     rw[hr]at h;have h:k1++k2=ks:=by injection h
     subst h;rw[bP]at hlen;cases xs with
     |nil=>simp at U7
     |cons x xs=>
      have h0:=N7 0 f rfl;rw[show(x::xs)[0]? =aj x from rfl]at h0;obtain⟨y1,c1⟩:=hg _ _ hgf fuel _ x sp hd h0 (hwt 0 f x rfl rfl) (by rw[eu,ia];omega);obtain⟨y2,c2⟩:=ih (off+k1.length) k2 hr (by omega) xs fuel sp hd (by simpa using U7) (λi f' hf=>N7 (i+1) f' hf) (λi f' x' hf hx=>hwt (i+1) f' x' hf hx);have Lu:y1.length=k1.length:=by rw[<-c1.kd,bQ]
      refine⟨y1++y2,⟨by rw[dm,c1.kd,c2.kd],λj y hj=> ?_,λy hy=> ?_⟩⟩
      ·rcases qt j y1.length with jF|jF
       ·rw[dj jF]at hj;obtain⟨v,hv,hh⟩:=c1.at_ j y hj;refine⟨v, ?_,hh⟩
        rw[bT,dV,bC (by omega),dM,e1]at hv;exact hv
       ·rw[c6 jF]at hj;obtain⟨v,hv,hh⟩:=c2.at_ _ y hj;refine⟨v, ?_,hh⟩
        rw[show off+k1.length+(j-y1.length)=off+j by omega]at hv;exact hv
      ·rcases a_.1 hy with hy|hy
       ·exact c1.fine y hy
       ·exact c2.fine y hy
theorem Bl(hE:eg P T):∀(n t:aG) (ks:aA Ck),Nc P T n t=aj ks->∀(fuel:aG) (cs:aA bg) (x:DataW H×aA MemPlace) sp hd,BS enc P w 0 sp hd fuel t cs=aj x->(∀m∈x.1.weights P t,m<=reachBytes)->cs.length=P.cellsOf t->∃ys,ve T w cs 0 ys ks:=by
 intro n;induction n with
 |zero=>intro t ks h;cases h
 |succ n ih=>
  intro t ks h fuel cs x sp hd N7 hwt ng;unfold Nc at h;split at h
  ·rename_i k hu;cases h;obtain⟨m,rfl,rfl,hwf⟩:=DataW.trod_int hu N7;exact⟨[.i k m],sD rfl (.i _ _) (.i _ _ hwf)⟩
  ·rename_i hu;cases h;obtain⟨m,rfl,rfl⟩:=DataW.trod_bool hu N7;exact⟨[.b m],sD rfl (.b _) (.b _)⟩
  ·rename_i hu;cases h;obtain⟨m,rfl,rfl,hmx⟩:=DataW.trod_string hu N7;have hz:m.size<=140737488351232:=by have:=hwt m.data.toList.length (by simp[uv]);rw[dN]at this;exact this
   exact⟨[.s m],sD rfl (.s _ (show m.size<=4611686018427387904 by omega)) (.s _ hz)⟩
  ·rename_i e hu;split at h
   ·rename_i te ke Jw hke;cases hb:(pO ke te.ks&&bA te.bytes (P.bytesOf e)&&bA (P.cellsOf e) ke.length&&pX 0 ke.length)with
    |false=>rw[hb]at h;cases h
    |true=>
     rw[hb]at h;cases h;simp only[aK]at hb;obtain⟨⟨⟨b1,b2⟩,b3⟩,b4⟩:=hb;have e1:=na b1;have e2:=aX b2;have e3:=aX b3;have e4:0<ke.length:=by simpa [zc]using b4
     subst e1;rcases DataW.trod_slice hu N7 with ⟨rfl,rfl⟩|⟨a,len,cap,elems,rest,m,rfl,rfl,rfl,_,hlc,Qv,TP,fW,_,_⟩
     ·exact⟨[.l e []],sD rfl (.nl _ _ _) (.l e [] te Jw (by simp) (λy hy=>by cases hy) (λy hy=>by cases hy))⟩
     ·have hwl:len*te.bytes<=140737488351232:=by have:=hwt ((elems.length+rest.length)*P.bytesOf e) (by simp[uv,hu]);rw[<-e2,TP]at this;have h2:len*te.bytes<=(len+rest.length)*te.bytes:=b7 _ (by omega);exact db h2 this
      have one:∀i,i<len->∃ys:aA CV,(∀(j:aG) (y:CV),ys[j]? =aj y->∃v,w.cell? (a.add (i*te.ks.length+j))=aj v/\cZ T w (B8 w) v y)/\ys.map CV.kd=te.ks/\∀y∈ys,qC T y:=by
       intro i hi;have h1:=fW i hi;have lD:i<elems.length:=by omega
       rw[eI lD]at h1;cases hc:w.cells? 0 (a.add (i*P.cellsOf e)) (P.cellsOf e)with
       |none=>rw[hc]at h1;cases h1
       |some cs=>
        rw[hc]at h1;have h1:BS enc P w 0 sp hd m e cs=aj elems[i]:=h1;obtain⟨_,ng,hcell⟩:=World.cells?_some hc;obtain⟨ys,c⟩:=ih e te.ks hke m cs _ sp hd h1 (λz hz=>hwt z (by simp only[uv,hu,cz,a_];exact .inr (.inl (sP (i:=i) (d:=elems[i].1) (by simp[lD]) z hz)))) ng;refine⟨ys,λj y hj=> ?_,c.kd,c.fine⟩
        obtain⟨v,hv,hh⟩:=c.at_ j y hj;rw[bT]at hv;have jF:=(aU.1 hv).1;have:=hcell j (by omega);rw[hv]at this;refine⟨v, ?_,hh⟩
        rw[<-e3];rw[<-PS];exact this
      obtain⟨xs,U7,hx⟩:=yJ len one;have aeZ:qC T (.l e xs):=by
       refine .l e xs te Jw (by rw[U7];exact hwl) (λy hy=> ?_) (λy hy=> ?_)
       ·obtain⟨i,hi⟩:=bZ hy;exact(hx i y hi).2.1
       ·obtain⟨i,hi⟩:=bZ hy;exact(hx i y hi).2.2
      refine⟨[.l e xs],sD rfl ?_ aeZ⟩
      rcases BU len with h0|h0
      ·have:xs=[]:=fV (by omega);subst this;rw[h0];exact .nl _ _ _
      ·have hx0:xs[0]? =aj xs[0]:=by rw[eI (by omega)]
       obtain⟨c0,k0,_⟩:=hx 0 _ hx0;have hy0:0<(xs[0]).length:=by rw[<-bQ (f:=CV.kd),k0];exact e4
       obtain⟨v0,N8,_⟩:=c0 0 _ (eI hy0);obtain⟨b,o,s⟩:=a;have hs:s=ao/\b<w.heap.size:=by
        unfold World.cell? at N8;have e0:(Addr.mk b o s).add (0*te.ks.length+0)=⟨b,o,s⟩:=by simp[Addr.add]
        rw[e0]at N8;split at N8
        ·rename_i hh;refine⟨?_,(dQ.1 hh).1⟩
         cases s with
         |none=>rfl
         |some s=>simp at N8
        ·cases N8
       obtain⟨rfl,hbl⟩:=hs;let U:aG->aG->bg:=λi j=>(w.cell? (ad b (o+i*te.ks.length+j))).getD undef;have aw:∀i j y z,xs[i]? =aj y->y[j]? =aj z->w.cell? (ad b (o+i*te.ks.length+j))=aj (U i j)/\cZ T w (B8 w) (U i j) z:=by
        intro i j y z hi hj;obtain⟨v,hv,hh⟩:=(hx i y hi).1 j z hj;have hv:w.cell? ((ad b o).add (i*te.ks.length+j))=aj v:=hv;rw[aaL,<-lB]at hv;have:U i j=v:=by simp only[U,hv];rfl
        rw[this];exact⟨hv,hh⟩
       rw[<-U7];exact .l e xs b o cap te U Jw (by omega) Qv hbl (λy hy=>by obtain⟨i,hi⟩:=bZ hy;exact(hx i y hi).2.1) (λi j y z hi hj=>(aw i j y z hi hj).1) (λi j y z hi hj=>(aw i j y z hi hj).2)
   ·cases h
  ·rename_i fs hu;obtain⟨xs,m,rfl,rfl,abp,U7,hf⟩:=DataW.trod_struct hu N7;cases hlf:Nd P (Nc P T n) fs.toList 0 with
   |none=>rw[hlf]at h;cases h
   |some ks'=>
    rw[hlf]at h;obtain⟨hb,rfl⟩:=C9 h;refine MQ ih fs.toList 0 _ hlf ?_ xs m sp hd (by simpa using U7) (λi f hi=>hf i f (by simpa using hi)) (λi f x hi hx z hz=>hwt z ?_)
    ·have:=aX hb;omega
    ·simp only[uv,hu];refine DataW.weights_mem_each (j:=i) (t:=f.type) (d:=x.1) ?_ ?_ z hz
     ·rw[bE,hi];rfl
     ·rw[bE,hx];rfl
  ·cases h
end
end Go.FG

namespace Go.FG
open Go.RowKit Go.ChangeShapes
def nB(T:Tab):aA aG->aA (aA CV)->aA eV
 |t::ts,ys::rh=>eV.v (match T.ty t with|some ti=>ti.agg|none=>aq) (ys.map Gv)::nB T ts rh
 |_,_=>[]
def oz(T:Tab):aA aG->aA (aA CV)->Prop
 |[],[]=>True
 |t::ts,ys::rh=>(∃ti,T.ty t=aj ti/\ys.map CV.kd=ti.ks)/\(∀y∈ys,qC T y)/\oz T ts rh
 |_,_=>False
def Nu(P:cR)(T:Tab)(n:aG)(t:aG):aY:=
 match T.ty t,Nc P T n t,P.underlying t with
 |some ti,aj ks,aj d=>pO ks ti.ks&&(match d with| .struct _=>ti.agg| .array _ _=>aq|_=> !ti.agg)&&P.readableRec t&&decide (t<P.types.size)
 |_,_,_=>aq
theorem aaJ{T:Tab}{w:bF}{c:eO}(hc:∀b,B8 w b->c.K b){v:bg}{y:CV}(h:cZ T w (B8 w) v y)(nm:aG):ej T w c (kQ nm (Gv y)) v:=by
 have h:cZ T w c.K v y:=h.frame (λ_ _=>rfl) hc;cases y with
 |i k n=>cases h;rfl
 |b x=>cases h;rfl
 |s x=>cases h with|s _ ho=>exact⟨rfl,ho⟩
 |l e xs=>exact h
section
variable {H:Type} {enc:TypeId×bg->H} {P:cR} {T:Tab} {w:bF}
theorem aaT(hE:eg P T){n t:aG}(hp:Nu P T n t=ak){v:bg}{d:DataW H}{ps:aA MemPlace}{sp:aG->aY}{hd:aY}{base:aG}(hv:rk P w .any base t v)(h:DataW.Trod enc P w 0 sp hd t v d ps)(hw:∀m∈d.weights P t,m<=reachBytes):
  ∃ys:aA CV,(∃ti,T.ty t=aj ti/\ys.map CV.kd=ti.ks)/\(∀y∈ys,qC T y)/\∀c:eO,(∀b,B8 w b->c.K b)->∀p,iW T w c (sr p (eV.v (match T.ty t with|some ti=>ti.agg|none=>aq) (ys.map Gv))) v:=by
 unfold Nu at hp;split at hp
 ·rename_i ti ks dd ht hl hu;simp only[aK]at hp;obtain⟨⟨⟨h1,h2⟩,_⟩,_⟩:=hp;have e1:=na h1;subst e1;obtain⟨fuel,N7⟩:=h;obtain⟨inf,hi,fX,_⟩:=hE.info t ti ht;have hct:P.cellsOf t=ti.ks.length:=by unfold Program.cellsOf;rw[hi];exact fX
  have cell:∀(ys:aA CV) (cs:aA bg),ve T w cs 0 ys ti.ks->∀c:eO,(∀b,B8 w b->c.K b)->∀(p j:aG) (a:AV),(gi (dO p 0) (ys.map Gv))[j]? =aj a->∃u:bg,cs[j]? =aj u/\ej T w c a u:=by
   intro ys cs hc c hK p j a hj;rw[ie,bE]at hj;cases hy:ys[j]? with
   |none=>rw[hy]at hj;cases hj
   |some y=>rw[hy]at hj;cases hj;obtain⟨u,rA,hh⟩:=hc.at_ j y hy;rw[bT]at rA;exact⟨u,rA,aaJ hK hh _⟩
  cases s7:ti.agg with
  |true=>
   have Ju:∃fs,dd= .struct fs:=by cases dd<;>simp[s7]at h2;exact⟨_,rfl⟩
   obtain⟨fs,rfl⟩:=Ju;unfold rk at hv;rw[hu]at hv;obtain⟨cs,rfl,FW,_⟩:=hv;obtain⟨ys,hc⟩:=Bl hE n t ti.ks hl fuel cs.toList (d,ps) sp hd N7 hw (by simpa using FW);refine⟨ys,⟨ti,ht,hc.kd⟩,hc.fine,λc hK p=> ?_⟩
   rw[ht];show pM T w c ti.agg (gi (dO p 0) (ys.map Gv)) _;rw[s7];refine⟨cs,rfl, ?_,λj a hj=> ?_⟩
   ·rw[iA,bQ,FW,hct,<-hc.kd,bQ]
   ·obtain⟨u,rA,ha⟩:=cell ys cs.toList hc c hK p j a hj;exact⟨u,by simpa using rA,ha⟩
  |false=>
   have Ju:∀fs,dd≠ .struct fs:=by intro fs he;subst he;simp[s7]at h2
   have har:∀m e,dd≠ .array m e:=by intro m e he;subst he;cases h2
   have hcell:Cell.okWide P w .any base t v:=by
    unfold rk at hv;rw[hu]at hv;split at hv
    ·rename_i fs he;cases he;exact cq rfl (Ju fs)
    ·rename_i m e he;cases he;exact cq rfl (har m e)
    ·exact hv
   have vO:v.cells= #[v]:=by
    cases v<;>first|rfl|skip
    rename_i cs;exfalso;unfold Cell.okWide at hcell;rw[hu]at hcell;cases dd<;>simp[Cell.ok,hu]at hcell
   obtain⟨dd',hu2,_,hn⟩:=hE.desc t ti ht;have h1:ti.ks.length=1:=by rcases hn s7 with ⟨k,h,_⟩|⟨h,_⟩|⟨h,_⟩|⟨e',h,_⟩|⟨h,_⟩<;>simp[h]
   rw[vO]at N7;obtain⟨ys,hc⟩:=Bl hE n t ti.ks hl fuel [v] (d,ps) sp hd N7 hw (by rw[hct,h1];rfl);have Hj:ys.length=1:=by rw[<-bQ (f:=CV.kd),hc.kd,h1]
   obtain⟨y,rfl⟩:=gF.1 Hj;refine⟨[y],⟨ti,ht,hc.kd⟩,hc.fine,λc hK p=> ?_⟩
   rw[ht];show pM T w c ti.agg [kQ (dO p 0) (Gv y)] _;rw[s7];obtain⟨u,rA,ha⟩:=cell [y] [v] hc c hK p 0 _ rfl;cases rA;exact ha
 ·cases hp
theorem Ur(hE:eg P T){n:aG}{sp:aG->aY}{hd:aY}{base:aG}:∀{ts:aA aG} {vs:aA bg} {ds:aA (DataW H)} {ps:aA MemPlace},ts.all (Nu P T n)=ak->
  CR enc P w 0 sp hd ts vs ds ps->(∀(j:aG) t v,ts[j]? =aj t->vs[j]? =aj v->rk P w .any base t v)->(∀m∈mv P ts ds,m<=reachBytes)->
  ∃rh,oz T ts rh/\vs.length=(nB T ts rh).length/\ds.length=ts.length/\∀c:eO,(∀b,B8 w b->c.K b)->∀(q p:aG) (x:eV),(nB T ts rh)[p]? =aj x->∃v,vs[p]? =aj v/\iW T w c (sr (q+p) x) v:=by
 intro ts;induction ts with
 |nil=>intro vs ds ps _ h _ _;obtain⟨rfl,rfl,rfl⟩:=trodAll_nil h;exact⟨[],trivial,rfl,rfl,λc _ q p x h=>by simp[nB]at h⟩
 |cons t ts ih=>
  intro vs ds ps hp h b8 hw;simp only[rW,aK]at hp;obtain⟨v,vs,d,ds,p,q,rfl,rfl,rfl,h0,r0⟩:=trodAll_cons h;obtain⟨ys,y1,y2,y3⟩:=aaT hE hp.1 (b8 0 t v rfl rfl) h0 (λm hm=>hw m (by simp only[mv,a_];exact .inl hm));obtain⟨rh,z1,z2,z4,z3⟩:=ih hp.2 r0 (λj t v hj hv=>b8 (j+1) t v hj hv) (λm hm=>hw m (by simp only[mv,a_];exact .inr hm));refine⟨ys::rh,⟨y1,y2,z1⟩,by simp[nB,z2],by simp[z4],λc hK q p x hx=> ?_⟩
  cases p with
  |zero=>cases hx;exact⟨v,rfl,y3 c hK q⟩
  |succ p=>obtain⟨v',h1,h2⟩:=z3 c hK (q+1) p x hx;exact⟨v',h1,by rw[show q+(p+1)=q+1+p by omega];exact h2⟩
theorem m_{m:aG}{ob:Obj}:∀{ts:aA aG} {rh:aA (aA CV)},inj (nB T ts rh) (cX m)≠ .o ob:=by
 intro ts rh h;obtain⟨p,a,h0,hh⟩:=zO h;have:∀(ts:aA aG) (rh:aA (aA CV)) (p:aG) (a:eV),(nB T ts rh)[p]? =aj a->∃(g:aY) (ys:aA CV),a= .v g (ys.map Gv):=by
  intro ts;induction ts with
  |nil=>intro rh p a h;simp[nB]at h
  |cons t ts ih=>
   intro rh p a h;cases rh with
   |nil=>simp[nB]at h
   |cons ys rh=>
    cases p with
    |zero=>cases h;exact⟨_,ys,rfl⟩
    |succ p=>exact ih rh p a h
 obtain⟨g,ys,rfl⟩:=this _ _ _ _ h0;rcases hh with ⟨xs,h1,_⟩|⟨xs,j,e,ex,zs,h1,h2,_⟩
 ·cases h1
 ·have h1:ys.map Gv=xs:=by rcases h1 with ⟨g',h1⟩|h1<;>cases h1;rfl
  subst h1;rw[bE]at h2;cases hy:ys[j]? with
  |none=>rw[hy]at h2;cases h2
  |some y=>rw[hy]at h2;cases y<;>cases h2
theorem FA(hl:laidOutB P=ak){W':bF}(hb:Below w.heap.size w W'){n:aG}:∀{ts:aA aG} {vs:aA bg} {ds:aA (DataW H)} {ps:aA MemPlace},ts.all (Nu P T n)=ak->CR enc P w 0 (λ_=>ak) ak ts vs ds ps->(∀x∈ps,x.block<w.heap.size)->
  CR enc P W' 0 (λb=>decide (b<w.heap.size)) ak ts vs ds ps:=by
 intro ts;induction ts with
 |nil=>intro vs ds ps _ h _;obtain⟨rfl,rfl,rfl⟩:=trodAll_nil h;exact h
 |cons t ts ih=>
  intro vs ds ps hp h jG;simp only[rW,aK]at hp;obtain⟨v,vs,d,ds,p,q,rfl,rfl,rfl,h0,r0⟩:=trodAll_cons h;have M9:=hp.1;unfold Nu at M9;split at M9
  ·simp only[aK]at M9;exact⟨p,q,Below.trod hl M9.1.2 (by simpa using M9.2) h0 hb (λx hx=>jG x (bO _ hx)),ih hp.2 r0 (λx hx=>jG x (bI _ hx)),rfl⟩
  ·cases M9
end
theorem E7{H:Type}{enc:TypeId×bg->H}{C:Checked}{T:Tab}(hE:eg C.prog T)(hl:laidOutB C.prog=ak){g tb n:aG}{fn:Func}{spec:aA eV->aC (aY×dP)}(hF:cF C.prog T g spec){s:ChangeSpec}
  (afk:fn.params.toList.all (Nu C.prog T n)=ak) (am1:fn.resultTypes= #[tb]) (htb:C.prog.underlying tb=aj .bool) (QJ:s.vars=[])
  (hfn:∀ds:aA (DataW H),ds.length=fn.params.toList.length->s.fn H ds={results:=[.lit (.bool ak)],args:=ds})
  (claim:∀rh,oz T fn.params.toList rh->spec (nB T fn.params.toList rh)=aj (ak,⟨[.v aq [.b ak]],[]⟩))
  (W:bF) (base:aG) (args:di bg) (ds gs:aA (DataW H)) (before:aA MemPlace)
  (hval:∀(j:aG) t v,fn.params[j]? =aj t->args[j]? =aj v->rk C.prog W .any base t v)
  (hW:DataW.Whole enc C.prog fn.params.toList s.vars aq W args.toList ds gs before)
  (fX:(mv C.prog (fn.params.toList++s.plain.varTypes C.prog) (ds++gs)).all (·<=reachBytes)=ak):
  Calls C.prog g args W λe W'=>∃v,e= .returned v/\s.post enc C.prog fn aq ak aq aq W args v W':=by
 have hW':=hW;obtain⟨p,q,hA,hV,rfl,hfz,He⟩:=hW;have jG:=hW'.lt;rw[QJ]at hV;have hgs:gs=[]/\q=[]:=by
  cases gs with
  |nil=>exact⟨rfl,hV⟩
  |cons=>exact hV.elim
 obtain⟨rfl,rfl⟩:=hgs;have hw:∀m∈mv C.prog fn.params.toList ds,m<=reachBytes:=by
  intro m hm;rw[dn]at fX;have e:s.plain.varTypes C.prog=[]:=by unfold DataSpec.varTypes ChangeSpec.plain;simp[QJ]
  rw[e,dn]at fX;have:=bn.1 fX m hm;simpa using this
 obtain⟨rh,U2,hlen,hdl,rq⟩:=Ur hE afk hA (λj t v hj hv=>hval j t v (by simpa using hj) (by simpa using hv)) hw;let nl:Pl:=⟨ak,0,0,0,0,0⟩
 let c1:eO:=⟨λ_=>nl,λ_ _ _=>nl,B8 W⟩
 have b8:Ok T (inj (nB T fn.params.toList rh)) W c1:=⟨λnm o h=>cq h m_,λnm o vU o' b h=>cq h m_,λnm o b h=>cq h m_,λb hb=>hb,λnm xs h=>cq h m_⟩
 obtain⟨_,hc⟩:=hF _ _ (claim rh U2) W c1 args b8 (by rw[<-hlen];simp) (λp x hx=>by obtain⟨v,h1,h2⟩:=rq c1 (λ_ h=>h) 0 p x hx;rw[bT]at h2;exact⟨v,by simpa using h1,h2⟩);refine hc.mono λe W' hR=> ?_;cases e with
 |panicked=>exact hR.elim
 |outgrown=>exact hR.elim
 |returned v=>
  obtain⟨c3,_,wE,_,wF⟩:=hR;have hv:v= .bool true:=wF;subst hv;have hb:Below W.heap.size W W':=⟨wE.os,wE.tape,wE.output,wE.size,λk hk=>wE.same k hk (λ⟨nm,o,h,_⟩=>m_ h)⟩
  have QH:=hfn ds hdl;refine⟨_,rfl,ds,[],_,[],p,[],hW', ?_, ?_, ?_,hb.frame _,λh=>by cases h⟩
  ·rw[dn,QH,am1];exact trodAll_mk1 (shut_bool htb _)
  ·rw[dn,QH];exact FA hl hb afk hA (λx hx=>jG x (bO _ hx))
  ·rw[dn,QH,QJ];rfl
end Go.FG

namespace Go.FG
def iI(s:au)(i:aG):aG:=(s.data.getD i 0).toNat
abbrev bN(x:az):az:=ar.wrap x
inductive gu where
 |I (n:az)|B (x:aY)|S (x:au)|R (xs:aW)|N (n:aG)
def gI:aA gu->az| .I n::_=>n|_=>0
def gB:aA gu->aY| .B n::_=>n|_=>aq
def gS:aA gu->au| .S n::_=>n|_=>⟨#[]⟩
def gR:aA gu->aW| .R n::_=>n|_=>[]
def gN:aA gu->aG| .N n::_=>n|_=>0
def hCV:CV->aA gu
 | .i _ n=>[.I n]| .b x=>[.B x]| .s x=>[.S x]| .l _ xs=>[.R xs]
def sCV:CV->CV->aY
 | .i k _, .i k' _=>decide (k=k')| .b _, .b _=>ak| .s _, .s _=>ak| .l e _, .l e' _=>bA e e'|_,_=>aq
def fCV(s:CV)(l:aA gu):CV×aA gu:=
 match s with
 | .i k _=>(.i k (gI l),l.tail)| .b _=>(.b (gB l),l.tail)| .s _=>(.s (gS l),l.tail)| .l e _=>(.l e (gR l),l.tail)
def G6:aA CV->aA gu|[]=>[]|a::r=>hCV a++G6 r
def Fs:aA CV->aA CV->aY|[],[]=>ak|a::r,b::t=>sCV a b&&Fs r t|_,_=>aq
def xP:aA CV->aA gu->aA CV×aA gu
 |[],l=>([],l)|a::r,l=>((fCV a l).1::(xP r (fCV a l).2).1,(xP r (fCV a l).2).2)
def Dm:aA (aA CV)->aA gu|[]=>[]|a::r=>G6 a++Dm r
def DG:aA (aA CV)->aA (aA CV)->aY|[],[]=>ak|a::r,b::t=>Fs a b&&DG r t|_,_=>aq
def yN:aA (aA CV)->aA gu->aA (aA CV)×aA gu
 |[],l=>([],l)|a::r,l=>((xP a l).1::(yN r (xP a l).2).1,(yN r (xP a l).2).2)
theorem aa_{s a:CV}(h:sCV s a=ak)(l:aA gu):fCV s (hCV a++l)=(a,l):=by
 cases s<;>cases a<;>simp only[sCV,bf,dp,Nat.beq_eq]at h<;>first|exact h.elim|skip
 all_goals first|(subst h;rfl)|rfl
theorem vJ:∀{s a:aA CV},Fs s a=ak->∀l,xP s (G6 a++l)=(a,l)
 |[],[],_,l=>rfl
 |s::ss,a::as,h,l=>by
  simp only[Fs,aK]at h;simp only[xP,G6,cj,aa_ h.1,vJ h.2]
 |[],_::_,h,_=>by cases h
 |_::_,[],h,_=>by cases h
theorem AU:∀{s a:aA (aA CV)},DG s a=ak->∀l,yN s (Dm a++l)=(a,l)
 |[],[],_,l=>rfl
 |s::ss,a::as,h,l=>by
  simp only[DG,aK]at h;simp only[yN,Dm,cj,vJ h.1,AU h.2]
 |[],_::_,h,_=>by cases h
 |_::_,[],h,_=>by cases h
def hAV:AV->aA gu
 | .i _ n=>[.I n]| .b x=>[.B x]| .s x=>[.S x]| .sh _ xs=>[.R xs]| .vw _ lo hi=>[.N lo, .N hi]| .rp _ i _=>[.N i]
 | .sp _ xs i _=>[.R xs, .N i]| .inn _ i _=>[.N i]| .ip _ i _ i2 _=>[.N i, .N i2]| .fn _ iC=>Dm iC| .fp xs _=>G6 xs|_=>[]
def WO:AV->AV->aY
 | .i k _, .i k' _=>decide (k=k')| .b _, .b _=>ak| .s _, .s _=>ak| .sh e _, .sh e' _=>bA e e'| .nl, .nl=>ak
 | .own n, .own n'=>bA n n'| .vw n _ _, .vw n' _ _=>bA n n'| .bp n j, .bp n' j'=>bA n n'&&bA j j'| .rp n _ j, .rp n' _ j'=>bA n n'&&bA j j'
 | .sp e _ _ j, .sp e' _ _ j'=>bA e e'&&bA j j'| .inn n _ j, .inn n' _ j'=>bA n n'&&bA j j'
 | .ip n _ j _ q, .ip n' _ j' _ q'=>bA n n'&&bA j j'&&bA q q'| .fn f c, .fn f' c'=>bA f f'&&DG c c'| .fp c j, .fp c' j'=>bA j j'&&Fs c c'
 |_,_=>aq
def fAV(s:AV)(l:aA gu):AV×aA gu:=
 match s with
 | .i k _=>(.i k (gI l),l.tail)| .b _=>(.b (gB l),l.tail)| .s _=>(.s (gS l),l.tail)| .sh e _=>(.sh e (gR l),l.tail)
 | .vw n _ _=>(.vw n (gN l) (gN l.tail),l.tail.tail)| .rp n _ j=>(.rp n (gN l) j,l.tail)| .sp e _ _ j=>(.sp e (gR l) (gN l.tail) j,l.tail.tail)
 | .inn n _ j=>(.inn n (gN l) j,l.tail)| .ip n _ j _ q=>(.ip n (gN l) j (gN l.tail) q,l.tail.tail)| .fn f c=>(.fn f (yN c l).1,(yN c l).2)| .fp c j=>(.fp (xP c l).1 j,(xP c l).2)
 |a=>(a,l)
def MX:aA AV->aA gu|[]=>[]|a::r=>hAV a++MX r
def JZ:aA AV->aA AV->aY|[],[]=>ak|a::r,b::t=>WO a b&&JZ r t|_,_=>aq
def AR:aA AV->aA gu->aA AV×aA gu
 |[],l=>([],l)|a::r,l=>((fAV a l).1::(AR r (fAV a l).2).1,(AR r (fAV a l).2).2)
def UE(a b:aY):aY:=bif a then b else !b
def UP:aA (aY×aA AV)->aA gu|[]=>[]|(_,xs)::r=>MX xs++UP r
def Si:aA (aY×aA AV)->aA (aY×aA AV)->aY
 |[],[]=>ak|(g,xs)::r,(g',ys)::t=>UE g g'&&JZ xs ys&&Si r t|_,_=>aq
def MP:aA (aY×aA AV)->aA gu->aA (aY×aA AV)×aA gu
 |[],l=>([],l)|(g,xs)::r,l=>((g,(AR xs l).1)::(MP r (AR xs l).2).1,(MP r (AR xs l).2).2)
def MY:eE->aA gu
 | .v (.v _ xs)=>MX xs| .v (.je l)=>UP l| .o (.box xs)=>MX xs| .o (.nC cs)=>G6 cs| .o (.row _ _ xs)=>[.R xs]| .o (.fI _ xs)=>[.R xs]|_=>[]
def WR:eE->eE->aY
 | .v (.v g xs), .v (.v g' ys)=>UE g g'&&JZ xs ys| .v (.je l), .v (.je r)=>Si l r| .v .un, .v .un=>ak
 | .o (.box xs), .o (.box ys)=>JZ xs ys| .o (.nC c), .o (.nC c')=>Fs c c'| .o (.row e x _), .o (.row e' x' _)=>bA e e'&&UE x x'| .o (.fI e _), .o (.fI e' _)=>bA e e'
 | .o .dead, .o .dead=>ak| .jH, .jH=>ak|_,_=>aq
def Jd(c:eE)(l:aA gu):eE×aA gu:=
 match c with
 | .v (.v g xs)=>(.v (.v g (AR xs l).1),(AR xs l).2)| .v (.je r)=>(.v (.je (MP r l).1),(MP r l).2)
 | .o (.box xs)=>(.o (.box (AR xs l).1),(AR xs l).2)| .o (.nC c)=>(.o (.nC (xP c l).1),(xP c l).2)| .o (.row e x _)=>(.o (.row e x (gR l)),l.tail)| .o (.fI e _)=>(.o (.fI e (gR l)),l.tail)
 |c=>(c,l)
def Hg:aA (aG×eE)->aA gu|[]=>[]|(_,c)::r=>MY c++Hg r
def yq:aA (aG×eE)->aA (aG×eE)->aY
 |[],[]=>ak|(k,c)::r,(k',c')::t=>bA k k'&&WR c c'&&yq r t|_,_=>aq
def Lc:aA (aG×eE)->aA gu->aA (aG×eE)
 |[],_=>[]|(k,c)::r,l=>(k,(Jd c l).1)::Lc r (Jd c l).2
theorem AP{a b:aY}(h:UE a b=ak):a=b:=by cases a<;>cases b<;>first|rfl|cases h
theorem aa9{s a:AV}(h:WO s a=ak)(l:aA gu):fAV s (hAV a++l)=(a,l):=by
 match s,a,h with
 | .fn f c, .fn f' c',h=>simp only[WO,aK]at h;have h1:=aX h.1;subst h1;simp only[fAV,hAV,AU h.2]
 | .fp c j, .fp c' j',h=>simp only[WO,aK]at h;have h1:=aX h.1;subst h1;simp only[fAV,hAV,vJ h.2]
 | .i k _, .i k' _,h=>have h1:=b9 (show decide (k=k')=ak from h);subst h1;rfl
 | .b _, .b _,_=>rfl
 | .s _, .s _,_=>rfl
 | .sh e _, .sh e' _,h=>have h1:=aX (show bA e e'=ak from h);subst h1;rfl
 | .nl, .nl,_=>rfl
 | .own n, .own n',h=>have h1:=aX (show bA n n'=ak from h);subst h1;rfl
 | .vw n _ _, .vw n' _ _,h=>have h1:=aX (show bA n n'=ak from h);subst h1;rfl
 | .bp n j, .bp n' j',h=>simp only[WO,aK]at h;have h1:=aX h.1;have h2:=aX h.2;subst h1;subst h2;rfl
 | .rp n _ j, .rp n' _ j',h=>simp only[WO,aK]at h;have h1:=aX h.1;have h2:=aX h.2;subst h1;subst h2;rfl
 | .sp n _ _ j, .sp n' _ _ j',h=>simp only[WO,aK]at h;have h1:=aX h.1;have h2:=aX h.2;subst h1;subst h2;rfl
 | .inn n _ j, .inn n' _ j',h=>simp only[WO,aK]at h;have h1:=aX h.1;have h2:=aX h.2;subst h1;subst h2;rfl
 | .ip n _ j _ q, .ip n' _ j' _ q',h=>simp only[WO,aK]at h;have h1:=aX h.1.1;have h2:=aX h.1.2;have h3:=aX h.2;subst h1;subst h2;subst h3;rfl
theorem zI:∀{s a:aA AV},JZ s a=ak->∀l,AR s (MX a++l)=(a,l)
 |[],[],_,l=>rfl
 |s::ss,a::as,h,l=>by
  simp only[JZ,aK]at h;simp only[AR,MX,cj,aa9 h.1,zI h.2]
 |[],_::_,h,_=>by cases h
 |_::_,[],h,_=>by cases h
theorem La:∀{s a:aA (aY×aA AV)},Si s a=ak->∀l,MP s (UP a++l)=(a,l)
 |[],[],_,l=>rfl
 |(g,xs)::ss,(g',ys)::as,h,l=>by
  simp only[Si,aK]at h;obtain⟨⟨h1,h2⟩,h3⟩:=h;have h1:=AP h1;subst h1;simp only[MP,UP,cj,zI h2,La h3]
 |[],_::_,h,_=>by cases h
 |_::_,[],h,_=>by cases h
theorem UJ{s c:eE}(h:WR s c=ak)(l:aA gu):Jd s (MY c++l)=(c,l):=by
 match s,c,h with
 | .v (.v g xs), .v (.v g' ys),h=>simp only[WR,aK]at h;have h1:=AP h.1;subst h1;simp only[Jd,MY,zI h.2]
 | .v (.je r), .v (.je r'),h=>simp only[Jd,MY,La (show Si r r'=ak from h)]
 | .v .un, .v .un,_=>rfl
 | .o (.box xs), .o (.box ys),h=>simp only[Jd,MY,zI (show JZ xs ys=ak from h)]
 | .o (.nC c), .o (.nC c'),h=>simp only[Jd,MY,vJ (show Fs c c'=ak from h)]
 | .o (.row e x _), .o (.row e' x' _),h=>simp only[WR,aK]at h;have h1:=AP h.2;have h2:=aX h.1;subst h1;subst h2;rfl
 | .o (.fI e _), .o (.fI e' _),h=>have h2:=aX h;subst h2;rfl
 | .o .dead, .o .dead,_=>rfl
 | .jH, .jH,_=>rfl
theorem GZ:∀{S L:aA (aG×eE)},yq S L=ak->Lc S (Hg L)=L
 |[],[],_=>rfl
 |(k,s)::S,(k',c)::L,h=>by
  simp only[yq,aK]at h;obtain⟨⟨h1,h2⟩,h3⟩:=h;have h1:=aX h1;subst h1;simp only[Lc,Hg,UJ h2,GZ h3]
 |[],_::_,h=>by cases h
 |_::_,[],h=>by cases h
def tell{R:Type}(S:aA (aG×eE))(H:aA gu->aC R)(L:aA (aG×eE))(other:aC R):aC R:=bif yq S L then H (Hg L)else other
def Q1:aA (aG×aA aG)->aG->aA aG
 |[],_=>[]|(k,l)::r,n=>bif bA n k then l else Q1 r n
def ag4:aA (aG×aG×Om)->aG->aG->Om
 |[],_,_=> .nat|(q,j,o)::r,n,m=>bif bA n q&&bA m j then o else ag4 r n m
def Rc:aA (aG×aG)->aG->aG->aY
 |[],_,_=>aq|(f,p)::r,n,m=>(bA n f&&bA m p)||Rc r n m
def ag9:aA (aG×aG)->aG->aC aG
 |[],_=>ao|(k,e)::r,n=>bif bA n k then aj e else ag9 r n
theorem bV{p:Code->Prop}:∀c∈([]:aA Code),p c:=λc h=>by cases h
theorem bz{p:Code->Prop}{c:Code}{l:aA Code}(h:p c)(hl:∀d∈l,p d):∀d∈c::l,p d:=λd hd=>by
 rcases cz.1 hd with rfl|hd
 ·exact h
 ·exact hl d hd
def pN:aA (aG×(aA eV->aC (aY×dP)))->aG->aA eV->aC (aY×dP)
 |[],_,_=>ao
 |(k,s)::r,g,a=>bif bA g k then(match s a with|some x=>aj x|none=>pN r g a)else pN r g a
theorem bh{P:cR}{T:Tab}:∀g,cF P T g (pN [] g):=λg=>MR λ_=>rfl
theorem aN{P:cR}{T:Tab}{k:aG}{s:aA eV->aC (aY×dP)}{L:aA (aG×(aA eV->aC (aY×dP)))}(h:cF P T k s)(hl:∀g,cF P T g (pN L g)):∀g,cF P T g (pN ((k,s)::L) g):=by
 intro g;cases hb:bA g k with
 |true=>
  have:=aX hb;subst this;intro args r hr;unfold pN at hr;rw[hb,ay]at hr;cases hs:s args with
  |some x=>rw[hs]at hr;exact h args r (hs.trans hr)
  |none=>rw[hs]at hr;exact hl g args r hr
 |false=>
  have e:pN ((k,s)::L) g=pN L g:=by funext a;simp only[pN,hb,aD]
  rw[e];exact hl g
def mkE(T:Tab)(md:aA (aG×aG))(cs:aA (aG×(aA eV->aC (aY×dP))))(ks:aA (aG×aA aG))(tk:aA aG)(om:aA (aG×aG×Om)):fF:={toTab:=T,call:=pN cs,mode:=Rc md,keep:=Q1 ks,tk:=λn=>lZ n tk,om:=ag4 om}
end Go.FG

namespace Go.FG
theorem Kc{T:Tab}{t:aG}{ts:aA aG}{rh:aA (aA CV)}(h:oz T (t::ts) rh):∃ys aik,rh=ys::aik/\(∃ti,T.ty t=aj ti/\ys.map CV.kd=ti.ks)/\(∀y∈ys,qC T y)/\oz T ts aik:=by
 cases rh with
 |nil=>exact h.elim
 |cons ys rh=>exact⟨ys,rh,rfl,h.1,h.2.1,h.2.2⟩
theorem NN{T:Tab}{rh:aA (aA CV)}(h:oz T [] rh):rh=[]:=by
 cases rh with
 |nil=>rfl
 |cons=>exact h.elim
theorem Vk{T:Tab}{k:Ck}{ks:aA Ck}{ys:aA CV}(h:ys.map CV.kd=k::ks)(hf:∀y∈ys,qC T y):∃y B7,ys=y::B7/\y.kd=k/\qC T y/\B7.map CV.kd=ks/\∀y∈B7,qC T y:=by
 cases ys with
 |nil=>cases h
 |cons y ys=>rw[e9,XM]at h;exact⟨y,ys,rfl,h.1,hf y (dy ..),h.2,λz hz=>hf z (cW _ hz)⟩
theorem abS{ys:aA CV}(h:ys.map CV.kd=[]):ys=[]:=by simpa using h
theorem ao4{T:Tab}{e:aG}{y:CV}(h:y.kd= .l e)(hf:qC T y):∃xs,y= .l e xs/\qC T (.l e xs):=by cases y<;>simp[CV.kd]at h;subst h;exact⟨_,rfl,hf⟩
theorem jS{x:az}(h1: -9223372036854775808<=x)(h2:x<=9223372036854775807):bN x=x:=by
 have e:bN x=if(decide (x%18446744073709551616≥9223372036854775808))=ak then x%18446744073709551616-18446744073709551616 else x%18446744073709551616:=rfl
 rw[e];by_cases h:x%18446744073709551616≥9223372036854775808
 ·rw[bC (aJ h)];omega
 ·rw[bM (by simpa using h)];omega
end Go.FG

namespace Go.FG
inductive Ho where|I|B|S|R|N
abbrev den:Ho->Type
 | .I=>az| .B=>aY| .S=>au| .R=>aW| .N=>aG
abbrev Fn:aA Ho->Type->Type
 |[],A=>A|h::s,A=>den h->Fn s A
abbrev Tu:aA Ho->Type
 |[]=>Unit|h::s=>den h×Tu s
abbrev Pr:aA Ho->Type
 |[]=>Unit|[h]=>den h|h::s=>den h×Pr s
def df:(h:Ho)->den h
 | .I=>(0:az)| .B=>aq| .S=>(⟨#[]⟩:au)| .R=>([]:aW)| .N=>(0:aG)
def lf:(h:Ho)->den h->gu
 | .I,x=> .I x| .B,x=> .B x| .S,x=> .S x| .R,x=> .R x| .N,x=> .N x
def ap{A:Type}:(s:aA Ho)->Fn s A->Tu s->A
 |[],f,_=>f|_::s,f,x=>ap s (f x.1) x.2
def cmp{A B:Type}:(s:aA Ho)->Fn s A->(A->B)->Fn s B
 |[],f,g=>g f|_::s,f,g=>λy=>cmp s (f y) g
def K6{A:Type}:(s:aA Ho)->Fn s A->A
 |[],f=>f|h::s,f=>K6 s (f (df h))
def lv:(s:aA Ho)->Tu s->aA gu
 |[],_=>[]|h::s,x=>lf h x.1::lv s x.2
def Uo{A:Type}:(s:aA Ho)->Fn s (aC A)->aA gu->aC A
 |[],f,[]=>f
 | .I::s,f, .I x::l=>Uo s (f x) l| .B::s,f, .B x::l=>Uo s (f x) l| .S::s,f, .S x::l=>Uo s (f x) l
 | .R::s,f, .R x::l=>Uo s (f x) l| .N::s,f, .N x::l=>Uo s (f x) l
 |_,_,_=>ao
def je:(s:aA Ho)->Fn s (Pr s)
 |[]=>()|[_]=>λx=>x|_::h::s=>λx=>cmp (h::s) (je (h::s)) λp=>(x,p)
def apP{A:Type}:(s:aA Ho)->Fn s A->Pr s->A
 |[],f,_=>f|[_],f,p=>f p|_::h::s,f,p=>apP (h::s) (f p.1) p.2
theorem Az{A:Type}{s:aA Ho}{f:Fn s (aC A)}{l:aA gu}{a:A}(h:Uo s f l=aj a):∃x,l=lv s x/\ap s f x=aj a:=by
 induction s generalizing l with
 |nil=>cases l with
  |nil=>exact⟨(),rfl,h⟩
  |cons=>cases h
 |cons k s ih=>
  cases l with
  |nil=>cases k<;>cases h
  |cons y l=>cases k<;>cases y<;>first|(obtain⟨x,rfl,hx⟩:=ih h;exact⟨(_,x),rfl,hx⟩)|cases h
theorem AB{A B:Type}{s:aA Ho}(f:Fn s A)(g:A->B)(x:Tu s):ap s (cmp s f g) x=g (ap s f x):=by
 induction s with
 |nil=>rfl
 |cons k s ih=>exact ih _ _
theorem aaQ{A:Type}{s:aA Ho}{f g:Fn s A}(h:∀x,ap s f x=ap s g x):f=g:=by
 induction s with
 |nil=>exact h ()
 |cons k s ih=>exact funext λy=>ih λx=>h (y,x)
theorem Up{A:Type}{s:aA Ho}(f:Fn s A)(x:Tu s):apP s f (ap s (je s) x)=ap s f x:=by
 induction s with
 |nil=>rfl
 |cons k s ih=>
  cases s with
  |nil=>rfl
  |cons h s=>exact(mi (apP (k::h::s) f) (AB ..)).trans (ih ..)
def hAA:AA->aA gu
 | .i _ n=>[.I n]| .b x=>[.B x]| .s x=>[.S x]| .sh _ xs=>[.R xs]| .ow _ _ xs=>[.R xs]| .kp xs=>[.R xs]| .fn _ c=>Dm c| .nl=>[]
def sAA:AA->AA->aY
 | .i k _, .i k' _=>decide (k=k')| .b _, .b _=>ak| .s _, .s _=>ak| .sh e _, .sh e' _=>bA e e'| .ow e x _, .ow e' x' _=>bA e e'&&UE x x'
 | .kp _, .kp _=>ak| .fn f c, .fn f' c'=>bA f f'&&DG c c'| .nl, .nl=>ak|_,_=>aq
def fAA(s:AA)(l:aA gu):AA×aA gu:=
 match s with
 | .i k _=>(.i k (gI l),l.tail)| .b _=>(.b (gB l),l.tail)| .s _=>(.s (gS l),l.tail)| .sh e _=>(.sh e (gR l),l.tail)| .ow e x _=>(.ow e x (gR l),l.tail)
 | .kp _=>(.kp (gR l),l.tail)| .fn f c=>(.fn f (yN c l).1,(yN c l).2)| .nl=>(.nl,l)
def Jn:aA AA->aA gu|[]=>[]|a::r=>hAA a++Jn r
def JY:aA AA->aA AA->aY|[],[]=>ak|a::r,b::t=>sAA a b&&JY r t|_,_=>aq
def GY:aA AA->aA gu->aA AA×aA gu
 |[],l=>([],l)|a::r,l=>((fAA a l).1::(GY r (fAA a l).2).1,(GY r (fAA a l).2).2)
def Jo:eV->aA gu
 | .v _ xs=>Jn xs| .pt xs=>Jn xs| .fb xs=>G6 xs
def NI:eV->eV->aY
 | .v g xs, .v g' ys=>UE g g'&&JY xs ys| .pt xs, .pt ys=>JY xs ys| .fb xs, .fb ys=>Fs xs ys|_,_=>aq
def Jc(s:eV)(l:aA gu):eV×aA gu:=
 match s with
 | .v g xs=>(.v g (GY xs l).1,(GY xs l).2)| .pt xs=>(.pt (GY xs l).1,(GY xs l).2)| .fb xs=>(.fb (xP xs l).1,(xP xs l).2)
def hAr:aA eV->aA gu|[]=>[]|a::r=>Jo a++hAr r
def WQ:aA eV->aA eV->aY|[],[]=>ak|a::r,b::t=>NI a b&&WQ r t|_,_=>aq
def UH:aA eV->aA gu->aA eV×aA gu
 |[],l=>([],l)|a::r,l=>((Jc a l).1::(UH r (Jc a l).2).1,(UH r (Jc a l).2).2)
def HG(l:aA (aA AA)):aA eV:=l.map (.v ak)
theorem aa8{s a:AA}(h:sAA s a=ak)(l:aA gu):fAA s (hAA a++l)=(a,l):=by
 cases s<;>cases a<;>simp only[sAA,bf,dp,Nat.beq_eq,aK]at h<;>first|exact h.elim|skip
 all_goals first|rfl|(subst h;rfl)|(obtain⟨rfl,h⟩:=h;first|(obtain rfl:=AP h;rfl)|(simp only[fAA,hAA,AU h]))
theorem EK:∀{s a:aA AA},JY s a=ak->∀l,GY s (Jn a++l)=(a,l)
 |[],[],_,l=>rfl
 |s::ss,a::as,h,l=>by
  simp only[JY,aK]at h;simp only[GY,Jn,cj,aa8 h.1,EK h.2]
theorem UI{s a:eV}(h:NI s a=ak)(l:aA gu):Jc s (Jo a++l)=(a,l):=by
 cases s<;>cases a<;>simp only[NI,dp,aK]at h
 ·obtain⟨h1,h⟩:=h;obtain rfl:=AP h1;simp only[Jc,Jo,EK h]
 ·simp only[Jc,Jo,EK h]
 ·simp only[Jc,Jo,vJ h]
theorem Jb:∀{s a:aA eV},WQ s a=ak->∀l,UH s (hAr a++l)=(a,l)
 |[],[],_,l=>rfl
 |s::ss,a::as,h,l=>by
  simp only[WQ,aK]at h;simp only[UH,hAr,cj,UI h.1,Jb h.2]
theorem Qf{s a:aA eV}(h:WQ s a=ak):(UH s (hAr a)).1=a:=by have:=Jb h [];rw[dn]at this;rw[this]
def xAA{B:Type}(s a:AA)(k:aA gu->aC B):aC B:=
 match s,a with
 | .i k1 _, .i k2 n=>bif decide (k1=k2)then k [.I n]else ao
 | .b _, .b n=>k [.B n]
 | .s _, .s n=>k [.S n]
 | .sh e _, .sh e' n=>bif bA e e' then k [.R n]else ao
 | .ow e x _, .ow e' x' n=>bif bA e e'&&UE x x' then k [.R n]else ao
 | .kp _, .kp n=>k [.R n]
 | .fn f c, .fn f' c'=>bif bA f f'&&DG c c' then k (Dm c')else ao
 | .nl, .nl=>k []
 |_,_=>ao
def Tm{B:Type}:aA AA->aA AA->(aA gu->aC B)->aC B
 |[],[],k=>k []|s::ss,a::as,k=>xAA s a λl=>Tm ss as λr=>k (l++r)|_,_,_=>ao
def ac0{B:Type}(s a:eV)(k:aA gu->aC B):aC B:=
 match s,a with
 | .v g xs, .v g' ys=>bif UE g g' then Tm xs ys k else ao
 | .pt xs, .pt ys=>Tm xs ys k
 | .fb xs, .fb ys=>bif Fs xs ys then k (G6 ys)else ao
 |_,_=>ao
def xAr{B:Type}:aA eV->aA eV->(aA gu->aC B)->aC B
 |[],[],k=>k []|s::ss,a::as,k=>ac0 s a λl=>xAr ss as λr=>k (l++r)|_,_,_=>ao
theorem acZ{B:Type}(s a:AA)(k:aA gu->aC B):xAA s a k=bif sAA s a then k (hAA a)else none:=by cases s<;>cases a<;>rfl
theorem Ml{B:Type}:∀(s a:aA AA) (k:aA gu->aC B),Tm s a k=bif JY s a then k (Jn a)else ao
 |[],[],_=>rfl
 |s::ss,a::as,k=>by
  simp only[Tm,acZ,Ml ss as,JY,Jn];cases sAA s a<;>rfl
 |[],_::_,_=>rfl
 |_::_,[],_=>rfl
theorem W5{B:Type}(s a:eV)(k:aA gu->aC B):ac0 s a k=bif NI s a then k (Jo a)else none:=by
 cases s<;>cases a<;>simp only[ac0,NI,Jo,Ml]<;>try rfl
 rename_i g xs g' ys;cases UE g g'<;>rfl
theorem FF{B:Type}:∀(s a:aA eV) (k:aA gu->aC B),xAr s a k=bif WQ s a then k (hAr a)else ao
 |[],[],_=>rfl
 |s::ss,a::as,k=>by
  simp only[xAr,W5,FF ss as,WQ,hAr];cases NI s a<;>rfl
 |[],_::_,_=>rfl
 |_::_,[],_=>rfl
def aac{A:Type}(s:aA Ho)(T:Fn s (aA eV))(f:Fn s (aC A))(a:aA eV):aC A:=xAr (K6 s T) a (Uo s f)
def ac4(s t:aA Ho)(k:Fn t dP)(c:Fn s aY)(v:Fn s (Pr t)):Fn s (aC (aY×dP)):=
 match s with
 |[]=>aj (c,apP t k v)
 |_::s=>λx=>ac4 s t k (c x) (v x)
theorem Xh{s t:aA Ho}{k:Fn t dP}{c:Fn s aY}{v:Fn s (Pr t)}(x:Tu s):ap s (ac4 s t k c v) x=aj (ap s c x,apP t k (ap s v x)):=by
 induction s with
 |nil=>rfl
 |cons h s ih=>exact ih _
def eL{s t:aA Ho}(A:Fn s (aA eV))(k:Fn t dP)(c:Fn s aY)(v:Fn s (Pr t)):aA eV->aC (aY×dP):=aac s A (ac4 s t k c v)
def Uw{t:aA Ho}(k:Fn t dP)(r:dP):aC (Pr t):=
 xAr (K6 t k).rs r.rs λl=>xAr (HG (K6 t k).outs) (HG r.outs) λm=>Uo t (cmp t (je t) aj) (l++m)
def okA{s:aA Ho}(A:Fn s (aA eV)):Prop:=∀x,(UH (K6 s A) (lv s x)).1=ap s A x
def okK{t:aA Ho}(k:Fn t dP):Prop:=∀x,(⟨(UH (K6 t k).rs (lv t x)).1,(UH (HG (K6 t k).outs) (UH (K6 t k).rs (lv t x)).2).1⟩:aA eV×aA eV)=⟨(ap t k x).rs,HG (ap t k x).outs⟩
def okT{s:aA Ho}(T:Fn s (aA (aG×eE))):Prop:=∀x,Lc (K6 s T) (lv s x)=ap s T x
theorem HH:∀{a b:aA (aA AA)},HG a=HG b->a=b
 |[],[],_=>rfl
 |_::_,_::_,h=>by
  obtain⟨h1,h2⟩:=l_ h;obtain⟨_,rfl⟩:=eV.v.inj h1;rw[HH h2]
 |[],_::_,h=>by cases h
 |_::_,[],h=>by cases h
theorem MK{t:aA Ho}{k:Fn t dP}(hk:okK k){r:dP}{p:Pr t}(h:Uw k r=aj p):r=apP t k p:=by
 unfold Uw at h;rw[FF]at h;cases hb:WQ (K6 t k).rs r.rs with
 |false=>rw[hb]at h;cases h
 |true=>
  rw[hb,ay,FF]at h;cases hc:WQ (HG (K6 t k).outs) (HG r.outs)with
  |false=>rw[hc]at h;cases h
  |true=>rw[hc,ay]at h;obtain⟨x,h1,h2⟩:=Az h;rw[AB]at h2;obtain rfl:=aF h2;rw[Up];have hx:=hk x;rw[<-h1,Jb hb,Qf hc]at hx;obtain⟨e1,e2⟩:=bU hx;have e3:=HH e2;cases r;cases hr:ap t k x;rw[hr]at e1 e3;cases e1;cases e3;rfl
theorem H0{s t:aA Ho}{A:Fn s (aA eV)}(hA:okA A){k:Fn t dP}{c:Fn s aY}{v:Fn s (Pr t)}{args:aA eV}{r:aY×dP}(h:eL A k c v args=aj r):∃x,args=ap s A x/\r=(ap s c x,apP t k (ap s v x)):=by
 unfold eL aac at h;rw[FF]at h;cases hb:WQ (K6 s A) args with
 |false=>rw[hb]at h;cases h
 |true=>rw[hb,ay]at h;obtain⟨x,h1,h2⟩:=Az h;rw[Xh]at h2;exact⟨x,by rw[<-hA x,<-h1,Qf hb],(aF h2).symm⟩
def AG{t:aA Ho}(E:fF)(it:It (Pr t))(F:Func)(k:Fn t dP)(args:aA eV):aC (Pr t):=
 match F.body with
 |some c=>se E it c (inj args) λe σ=>(fin E F args e σ).bind (Uw k)
 |none=>ao
def GL(F:Func)(A:aA eV):aY:=
 (match F.body with|some c=> !(F.name== "runtime.NumGoroutine")&&sd F.ntmps c|none=>aq)&&yr A&&fj A.length F.ntmps
theorem flh{P:cR}{E:fF}(hE:eg P E)(hm:P.follows .mixedOrders=ak)(hF:∀g,cF P E g (E.call g)){g:aG}{F:Func}(hf:P.funcs[g]? =aj F){s t:aA Ho}{A:Fn s (aA eV)}{k:Fn t dP}{it:aG->It (Pr t)}
  (hc:∀x,GL F (ap s A x)=ak) {l:aA Code} (hl:jD (F.body.getD .skip)=l) (A3:∀N,∀c∈l,cB E (it N) c) (hA:okA A) (hk:okK k)
  {c:Fn s aY} {v:Fn s (Pr t)} (h:∀x,vM (ap s A x)->ap s c x=ak->∃N,AG E (it N) F k (ap s A x)=aj (ap s v x)):cF P E g (eL A k c v):=by
 intro args r hr;obtain⟨x,rfl,_⟩:=H0 hA hr;have hx:=hc x;unfold GL at hx;cases hb:F.body with
 |none=>rw[hb]at hx;cases hx
 |some code=>
  rw[hb]at hl hx;have hl:jD code=l:=hl;simp only[aK,dG]at hx;refine abc hE hF hm hf hb (by rw[hx.1.1.1,hx.1.1.2];rfl) (λargs r hr=> ?_) _ r hr;obtain⟨x,rfl,hq⟩:=H0 hA hr;obtain⟨h1,rfl⟩:=bU hq;have hx:=hc x;unfold GL at hx;simp only[aK]at hx;refine⟨hx.1.2,λhf=> ?_⟩
  obtain⟨N,h⟩:=h x hf h1.symm;refine⟨cC hx.2,Pr t,it N,λe σ=>(fin E F (ap s A x) e σ).bind (Uw k),ap s v x,by rw[hl];exact A3 N, ?_,λe σ he=> ?_⟩
  ·unfold AG at h;rw[hb]at h;exact h
  ·obtain⟨r,hr,hd⟩:=Option.bind_eq_some_iff.1 he;rw[hr,MK hk hd]
theorem aaR{s t:aA Ho}{c:Fn s aY}{v:Fn s (Pr t)}{w:Fn s (aC (Pr t))}{d:Pr t}(hc:cmp s w mT=c)(hv:cmp s w (λo=>o.getD d)=v)(x:Tu s)(h:ap s c x=ak):ap s w x=aj (ap s v x):=by
 subst hc hv;rw[AB]at h;rw[AB];cases hw:ap s w x with
 |none=>rw[hw]at h;cases h
 |some y=>rfl
theorem fl{P:cR}{E:fF}(hE:eg P E)(hm:P.follows .mixedOrders=ak)(hF:∀g,cF P E g (E.call g)){g:aG}{F:Func}(hf:P.funcs[g]? =aj F){s t:aA Ho}{A:Fn s (aA eV)}{k:Fn t dP}{it:aG->It (Pr t)}
  (hc:∀x,GL F (ap s A x)=ak) {l:aA Code} (hl:jD (F.body.getD .skip)=l) (A3:∀N,∀c∈l,cB E (it N) c) (hA:okA A) (hk:okK k)
  {c:Fn s aY} {v:Fn s (Pr t)} {w:aG->Fn s (aC (Pr t))} {u:Fn s (aC (Pr t))} {d:Pr t} (N:aG) (h:∀N x,AG E (it N) F k (ap s A x)=ap s (w N) x) (hw:w N=u) (h1:cmp s u mT=c) (h2:cmp s u (λo=>o.getD d)=v):cF P E g (eL A k c v):=
 flh hE hm hF hf hc hl A3 hA hk λx _ hx=>⟨N,(h N x).trans (by rw[hw];exact aaR h1 h2 x hx)⟩
def ct:(s:aA Ho)->Fn s aY
 |[]=>ak|_::s=>λ_=>ct s
abbrev Kt(R:Type):=Ex->St->aC R
abbrev Tb:=aA (aG×eE)
def J{R:Type}{s:aA Ho}(T:Fn s Tb)(e:Ex)(K:Kt R):Fn s (aC R):=cmp s T λt=>K e (fO t)
def al{R:Type}{s:aA Ho}(T:Fn s Tb)(f:Kt R->Fn s (aC R))(o:Tb->Kt R->aC R):Tb->Kt R->aC R:=λL K=>bif yq (K6 s T) L then Uo s (f K) (Hg L)else o L K
def an{R:Type}:Tb->Kt R->aC R:=λ_ _=>ao
def lp{R:Type}(n:aG)(a:Tb->Kt R->aC R)(o:It R):It R:=λnG f cn L K=>bif bA nG n then a L K else o nG f cn L K
def ln{R:Type}:It R:=λ_ _ _ _ _=>ao
theorem Um{R:Type}{s:aA Ho}{T:Fn s Tb}(hT:okT T){f:Kt R->Fn s (aC R)}{o:Tb->Kt R->aC R}{L:Tb}{K:Kt R}{r:R}(h:al T f o L K=aj r):(∃x,L=ap s T x/\ap s (f K) x=aj r)\/o L K=aj r:=by
 unfold al at h;cases hb:yq (K6 s T) L with
 |false=>rw[hb]at h;exact .inr h
 |true=>rw[hb]at h;obtain⟨x,h1,h2⟩:=Az h;exact .inl ⟨x,by rw[<-hT x,<-h1,GZ hb],h2⟩
section
variable {R:Type} {E:fF} {it:It R} {C:Code} {n:aG}
def Good(E:fF)(it:It R)(C:Code)(n:aG)(a:Tb->Kt R->aC R):Prop:=∀L K r,a L K=aj r->∃m,iter (se E it C) (canon (E.yR n)) m (fO L) K=aj r
def Wd(E:fF)(it:It R)(C:Code)(n:aG)(K:Kt R){s:aA Ho}(T:Fn s Tb)(l:aG->Fn s (aC R)):Prop:=∀m x,iter (se E it C) (canon (E.yR n)) m (fO (ap s T x)) K=ap s (l m) x
theorem pn:Good E it C n an:=λ_ _ _ h=>by cases h
theorem Ll{s:aA Ho}{T:Fn s Tb}(hT:okT T){l:Kt R->aG->Fn s (aC R)}{N:aG}{o:Tb->Kt R->aC R}(h:∀K,Wd E it C n K T (l K))(ho:Good E it C n o):Good E it C n (al T (λK=>l K N) o):=by
 intro L K r hq;rcases Um hT hq with ⟨x,rfl,hx⟩|hq
 ·exact⟨N,(h K N x).trans hx⟩
 ·exact ho L K r hq
theorem lom(n:aG)(hr:gm C=n){a:Tb->Kt R->aC R}(hi:∀L K,it n (se E it C) (canon (E.yR n)) L K=a L K)(h:Good E it C n a):cB E it C:=by intro L K q;rw[hr,hi];exact h L K q
theorem wf{K:Kt R}{s:aA Ho}{T:Fn s Tb}{l:aG->Fn s (aC R)}{m:aG}(h:∀x,iter (se E it C) (canon (E.yR n)) m (fO (ap s T x)) K=ap s (l m) x):cmp s T (λt=>iter (se E it C) (canon (E.yR n)) m (fO t) K)=l m:=
 aaQ λy=>by rw[AB,h]
theorem wl{K:Kt R}{s:aA Ho}{T:Fn s Tb}{l:aG->Fn s (aC R)}(r:(St->aC R)->Fn s (aC R))(h0:∀x,ap s (l 0) x=ao)
  (h1:∀m,(∀x,iter (se E it C) (canon (E.yR n)) m (fO (ap s T x)) K=ap s (l m) x)->r (λσ=>iter (se E it C) (canon (E.yR n)) m σ K)=l (m+1))
  (h:∀g x,se E it C (fO (ap s T x)) (Dt g (canon (E.yR n)) K)=ap s (r g) x):Wd E it C n K T l:=by
 intro m;induction m with
 |zero=>intro x;rw[h0];rfl
 |succ m ih=>intro x;rw[Na,h,h1 m ih]
theorem lo1(n:aG){s:aA Ho}(T:Fn s Tb)(hr:gm C=n)(hT:okT T)(l:Kt R->aG->Fn s (aC R))(r:Kt R->Fn s (aC R)->Fn s (aC R)){N:aG}
  (hi:∀L K,it n (se E it C) (canon (E.yR n)) L K=al T (λK=>l K N) an L K) (h0:∀K x,ap s (l K 0) x=ao) (h1:∀K n,l K (n+1)=r K (l K n))
  (h:∀K g x,se E it C (fO (ap s T x)) (Dt g (canon (E.yR n)) K)=ap s (r K (cmp s T λt=>g (fO t))) x):cB E it C:=
 lom n hr hi (Ll hT (λK=>wl (λg=>r K (cmp s T λt=>g (fO t))) (h0 K) (λm i=>by rw[h1];exact mi (r K) (wf i)) (h K)) pn)
end
end Go.FG

namespace Go.FG.Lib
def c9:aG:=18446744073709551616
theorem MJ{α β:Type}(c:aY)(x y:aC α)(f:α->aC β):lP (bif c then x else y) f=bif c then lP x f else lP y f:=by cases c<;>rfl
def lt{α β:Type}(a:α)(f:α->β):β:=f a
theorem dB{α:Type}{o:aC α}{x d:α}(h:o=aj x):mT o=ak/\XO o d=x:=by rw[h];exact⟨rfl,rfl⟩
theorem some_{α:Type}{o:aC α}{d:α}(h:mT o=ak):o=aj (XO o d):=by
 cases o with
 |none=>cases h
 |some x=>rfl
theorem il{σ β:Type}(F:aG->σ->β)(mu:σ->aG)(inv:σ->Prop)(res:σ->β)
  (step:∀n s,inv s->F (n+1) s=res s\/∃s',inv s'/\mu s'<mu s/\res s'=res s/\F (n+1) s=F n s'):∀n s,inv s->mu s<n->F n s=res s:=by
 intro n;induction n with
 |zero=>intro s _ h;omega
 |succ n ih=>
  intro s hi hm;rcases step n s hi with h|⟨s',h1,h2,h3,h4⟩
  ·exact h
  ·rw[h4,<-h3];exact ih s' h1 (by omega)
theorem dE(i n:aG):decide ((i:az)<(n:az))=decide (i<n):=by rw[ch];omega
theorem cS(i:aG):decide (0<=(i:az))=true:=by simp
theorem Qc{i n:aG}(h:i<n):decide ((i:az)<(n:az))=true:=by simp;omega
theorem XT{i n:aG}(h:¬i<n):decide ((i:az)<(n:az))=false:=by simp;omega
theorem eG(i:aG):bc (i:az)=i:=rfl
theorem de{i n:aG}(h:i<n)(hn:n<=9223372036854775807):bN ((i:az)+1)=((i+1:aG):az):=by rw[jS (by omega) (by omega)];omega
theorem n6{xs:aW}{i:aG}(h:i<xs.length):xs.getD i []=xs[i]:=by simp[jt,h]
theorem cY{xs:aW}{i j:aG}(h:i<xs.length):aw xs i j=xs[i].getD j (.b aq):=by unfold aw;rw[n6 h]
theorem jz(xs:aW)(i j:aG)(ys:aA CV):(eA xs i j ys).length=xs.length:=by unfold eA;simp
theorem vS(ks:aA Ck)(n:aG):(aT ks n).length=n:=by unfold aT;simp
theorem cy{n b:aG}(h:n*b<=140737488355328)(h2:n<=9223372036854775807):cK n b=true:=by unfold cK;simp;omega
theorem Ft{xs:aW}{i j:aG}{ys:aA CV}(h:i<xs.length):eA xs i j ys=xs.set i (iG xs[i] j ys):=by unfold eA;rw[n6 h]
theorem fm{x:aW}{i:aG}(h:i<x.length):x.drop i=x[i]::x.drop (i+1):=dJ h
def up:az->aG->az|k,0=>k|k,n+1=>up (bN (k+1)) n
theorem Kh{x:az}(h:0<=x):bN x<=x:=by
 have e:bN x=if(decide (x%18446744073709551616≥9223372036854775808))=ak then x%18446744073709551616-18446744073709551616 else x%18446744073709551616:=rfl
 rw[e];split<;>omega
def vb(x:az):aW:=
 if x>127 then [CV.i bk (bK bk (bN (cG x 128+128)))]::vb (bN (cT x 128))else [[CV.i bk (bK bk x)]]
termination_by x.toNat
decreasing_by
 rename_i h
 have h1:cT x 128=x/128:=gE (by omega)
 have h2:=Kh (x:=cT x 128) (by omega)
 omega
theorem u9{x:az}(h:x>127):vb x=[CV.i bk (bK bk (bN (cG x 128+128)))]::vb (bN (cT x 128)):=by rw[vb,bC h]
theorem mr{x:az}(h:¬x>127):vb x=[[CV.i bk (bK bk x)]]:=by rw[vb,bM h]
theorem Sa{n:aG}(h:n<=140737488355328):cK n 1=true:=cy (by omega) (by omega)
theorem jM(y:aA CV)(ks:aA Ck):(aE (aT ks 1) 0 y)=[y]:=rfl
theorem W1{R:Type}(F:aG->az->aW->aC R)(k:au->aC R)
  (h1:∀n x acc,x>127->acc.length<=100->F (n+1) x acc=F n (bN (cT x 128)) (acc++[[CV.i bk (bK bk (bN (cG x 128+128)))]]))
  (h2:∀n x acc,¬x>127->acc.length<=100->F (n+1) x acc=k (bytesOf (acc++[[CV.i bk (bK bk x)]]))) (x:az) (hx:x<=9223372036854775807):F (x.toNat+1) x []=k (bytesOf (vb x)):=by
 have:=il (λn (s:az×aW)=>F n s.1 s.2) (λs=>s.1.toNat) (λs=>s.2.length<=100/\(1<=s.1->2^s.2.length*s.1<=9223372036854775808)) (λs=>k (bytesOf (s.2++vb s.1))) (λn s hs=>by
  obtain⟨x,acc⟩:=s;obtain⟨hl,hb⟩:=hs;dsimp only at hl hb⊢;by_cases h:x>127
  ·right;have e1:cT x 128=x/128:=gE (by omega);have hp:(1:az)<=2^acc.length:=by
    have:(0:az)<2^acc.length:=by exact Int.pow_pos (by omega)
    omega
   have hxb:x<=9223372036854775808:=by have h3:=hb (by omega);have:1*x<=2^acc.length*x:=Int.mul_le_mul_of_nonneg_right hp (by omega);omega
   have e2:bN (cT x 128)=x/128:=by rw[e1,jS (by omega) (by omega)]
   have h64:acc.length<64:=by
    rcases qt acc.length 64 with h5|h5
    ·exact h5
    ·exfalso;have h6:(2:az)^64<=2^acc.length:=by have:=Nat.pow_le_pow_right (n:=2) (by omega) h5;exact_mod_cast this
     have h7:=hb (by omega);have h8:(2:az)^acc.length*1<=2^acc.length*x:=Ai (by omega) (by omega);have:(2:az)^64=18446744073709551616:=by decide
     omega
   refine⟨(bN (cT x 128),acc++[[CV.i bk (bK bk (bN (cG x 128+128)))]]),⟨by simp;omega,λ_=> ?_⟩,by dsimp only;omega, ?_,h1 n x acc h hl⟩
   ·dsimp only;rw[e2,bP,bw,tF];have h7:=hb (by omega);have h9:2*(x/128)<=x:=by omega
    have h8:(2:az)^acc.length*(2*(x/128))<=2^acc.length*x:=Ai h9 (by omega);rw[Int.mul_assoc];omega
   ·dsimp only;rw[u9 h,cj];rfl
  ·left;rw[mr h];exact h2 n x acc h hl) (x.toNat+1) (x,[]) ⟨by simp,λh=>by simp;omega⟩ (by dsimp only;omega)
 simpa using this
theorem aeI{a b c:aG}{inst:Decidable (a+b<=c)}(h:a+b<=c): @decide (a+b<=c) inst=true:=aJ h
theorem acQ:∀(n:aG) (x:az),x<2^n->(vb x).length<=n+1:=by
 intro n;induction n with
 |zero=>intro x hx;rw[mr (by omega)];simp
 |succ n ih=>
  intro x hx;by_cases h:x>127
  ·have e1:cT x 128=x/128:=gE (by omega);have h2:=Kh (x:=cT x 128) (by omega);rw[u9 h];have h3:bN (cT x 128)<2^n:=by rw[tF]at hx;omega
   have:=ih _ h3;simp;omega
  ·rw[mr h];simp
theorem iy(xs:aW):(bytesOf xs).size=xs.length:=by unfold bytesOf;simp[c5]
theorem np{x:az}(h:x<=9223372036854775807):(bytesOf (vb x)).size<=64:=by
 rw[iy];exact acQ 63 x (by have:(2:az)^63=9223372036854775808:=by decide
                           omega)
theorem ly(a b:au):(a++b).size=a.size+b.size:=dC
theorem qd(l:aA FR):dg l l=true:=by
 induction l with
 |nil=>rfl
 |cons a l ih=>simp only[dg,ih,pc];exact beq_self_eq_true a
theorem IQ(s:au)(i:aG):iI s i<256:=(s.data.getD i 0).toNat_lt
def rv(t:au)(a:aG):aG->aG->az->az×az×aY
 |0,_,_=>(0,0,aq)
 |f+1,j,n=>
  if a+j<t.size then
   (if(iI t (a+j):az)>127 then rv t a f (j+1) (n+(iI t (a+j):az)%128*128^j)
   else if(j>0/\iI t (a+j)=0)\/n+(iI t (a+j):az)%128*128^j>1000000000 then(0,0,aq)
   else(n+(iI t (a+j):az)%128*128^j,((a+j+1:aG):az),ak))
  else(0,0,aq)
theorem yI{α:Type}{c:aY}{x y:α}(h:c=ak):(bif c then x else y)=x:=by rw[h];rfl
theorem P0{α:Type}{c:aY}{x y:α}(h:c=aq):(bif c then x else y)=y:=by rw[h];rfl
theorem AM{p:Prop}{inst:Decidable p}(h:p): @decide p inst=true:=aJ h
theorem GQ{p:Prop}{inst:Decidable p}(h:¬p): @decide p inst=false:=aM h
def num(t:au):aG->aG->az
 |_,0=>0
 |a,k+1=>(iI t a:az)%128+128*num t (a+1) k
theorem zS(t:au):∀(k a:aG),0<=num t a k/\num t a k<128^k
 |0,a=>by simp[num]
 |k+1,a=>by
  have:=zS t k (a+1);simp only[num,tF];omega
theorem vV(t:au):∀(k a:aG),num t a (k+1)=num t a k+(iI t (a+k):az)%128*128^k
 |0,a=>by simp[num]
 |k+1,a=>by
  rw[num,vV t k (a+1),num,show a+1+k=a+(k+1)by omega,tF];rw[Int.mul_add,<-Int.add_assoc];congr 1;rw[Int.mul_comm 128,Int.mul_assoc]
theorem LL(t:au):∀(k a:aG),(iI t (a+k):az)%128≠0->1<=num t a (k+1)
 |0,a,h=>by simp[num]at h⊢;omega
 |k+1,a,h=>by
  rw[num];have:=LL t k (a+1) (by rw[show a+1+k=a+(k+1)by omega];exact h);omega
theorem Td(t:au):∀(k a:aG),(∀i,i<k->128<=iI t (a+i))->iI t (a+k)<128->(k=0\/iI t (a+k)≠0)->num t a (k+1)<=9223372036854775807->vb (num t a (k+1))=(lI a (k+1)).map λi=>[CV.i bk (iI t i:az)]
 |0,a,_,h2,_,_=>by
  have e:num t a 1=(iI t a:az):=by simp[num]at h2⊢;omega
  simp only[wP]at h2;rw[e,mr (by omega)];have hw:bK bk (iI t a:az)=(iI t a:az):=by show(iI t a:az)%256=_;omega
  rw[hw];rfl
 |k+1,a,h1,h2,h3,h4=>by
  have hb:=IQ t a;have h0:=h1 0 (by omega);rw[wP]at h0;have ic:iI t (a+(k+1))≠0:=by rcases h3 with h3|h3;(·omega);exact h3
  have kH:=LL t k (a+1) (by rw[show a+1+k=a+(k+1)by omega];omega);have e:num t a (k+1+1)=(iI t a:az)%128+128*num t (a+1) (k+1):=rfl;rw[e]at h4⊢;have e1:cG ((iI t a:az)%128+128*num t (a+1) (k+1)) 128=(iI t a:az)%128:=by rw[rV (by omega)];omega
  have e2:cT ((iI t a:az)%128+128*num t (a+1) (k+1)) 128=num t (a+1) (k+1):=by rw[gE (by omega)];omega
  have e3:bN ((iI t a:az)%128+128)=(iI t a:az):=by rw[jS (by omega) (by omega)];omega
  have hw:bK bk (iI t a:az)=(iI t a:az):=by show(iI t a:az)%256=_;omega
  rw[u9 (by omega),e1,e2,e3,hw,jS (by omega) (by omega),Td t k (a+1) (λi hi=>by rw[show a+1+i=a+(i+1)by omega];exact h1 (i+1) (by omega)) (by rw[show a+1+k=a+(k+1)by omega];exact h2) (by rw[show a+1+k=a+(k+1)by omega];exact .inr ic) (by omega)];rfl
theorem z7:∀(k:aG) (x:az),x<128^(k+1)->(vb x).length<=k+1
 |0,x,h=>by rw[mr (by simp at h;omega)];simp
 |k+1,x,h=>by
  by_cases hx:x>127
  ·have e1:cT x 128=x/128:=gE (by omega);have h2:=Kh (x:=cT x 128) (by omega);rw[u9 hx];have h3:bN (cT x 128)<128^(k+1):=by rw[tF]at h;omega
   have:=z7 k _ h3;simp;omega
  ·rw[mr hx];simp
theorem GC{t:au}{a m:aG}(h:a+m<=t.size):(bytesOf ((lI a m).map λi=>[CV.i bk (iI t i:az)])).data.toList=(t.extract a (a+m)).data.toList:=by
 have h1:(bytesOf ((lI a m).map λi=>[CV.i bk (iI t i:az)])).data.toList=(lI a m).map λi=>t.data.getD i 0:=by unfold bytesOf;simp[bY,iI]
 rw[h1];apply TC;intro i;have hs:t.size=t.data.size:=rfl;have Lv:a+m<=t.data.size:=by rw[<-hs];exact h
 simp only[fY,g_,gP];by_cases hi:i<m
 ·have h3:a+i<t.data.size:=by omega
  rw[bE,List.getElem?_range' hi,dV,bC (by omega),dM];simp only[iS,Nat.one_mul,cQ,er];rw[Array.getElem?_eq_getElem h3];rfl
 ·rw[kC (by simp;omega),kC (by simp;omega)]
theorem beq_iff{l r:aA FR}:dg l r=ak↔l=r:=by
 constructor
 ·intro h;induction l generalizing r with
  |nil=>cases r with|nil=>rfl|cons=>cases h
  |cons a l ih=>
   cases r with
   |nil=>cases h
   |cons b r=>simp only[dg,aK]at h;rw[eq_of_beq h.1,ih h.2]
 ·rintro rfl;exact qd l
theorem canon(t:au)(k a:aG)(h:a+(k+1)<=t.size)(h1:∀i,i<k->128<=iI t (a+i))(h2:iI t (a+k)<128)(h4:num t a (k+1)<=9223372036854775807):
  dg (bytesOf (vb (num t a (k+1)))).toList (t.extract a (a+(k+1))).toList= !decide (k>0/\iI t (a+k)=0):=by
 rw[jV,jV];by_cases hc:k>0/\iI t (a+k)=0
 ·rw[aJ hc,ba];obtain⟨k',rfl⟩:∃k',k=k'+1:=⟨k-1,by omega⟩
  cases hb:dg (bytesOf (vb (num t a (k'+1+1)))).data.toList (t.extract a (a+(k'+1+1))).data.toList with
  |false=>rfl
  |true=>
   exfalso;have he:=mi bW (beq_iff.1 hb);have e:num t a (k'+1+1)=num t a (k'+1):=by rw[vV,hc.2];simp
   have hl:=z7 k' (num t a (k'+1)) (zS t (k'+1) a).2;rw[e]at he;have h5:(bytesOf (vb (num t a (k'+1)))).data.toList.length=(vb (num t a (k'+1))).length:=iy _;have h6:(t.extract a (a+(k'+1+1))).data.toList.length=k'+1+1:=by show(t.extract a (a+(k'+1+1))).size=_;rw[wz];omega
   omega
 ·rw[aM hc,bX];have:=Td t k a h1 h2 (by omega) h4;rw[this];exact beq_iff.2 (GC h)
theorem rZ{a b:au}(h:a.data.toList=b.data.toList):a=b:=by obtain⟨⟨a⟩⟩:=a;obtain⟨⟨b⟩⟩:=b;simp at h;rw[h]
theorem fE{a b:au}:dg a.toList b.toList=decide (a=b):=by
 rw[jV,jV];by_cases h:a=b
 ·subst h;rw[aJ rfl];exact qd _
 ·rw[aM h];cases hb:dg a.data.toList b.data.toList with
  |false=>rfl
  |true=>exact cq (rZ (beq_iff.1 hb)) h
theorem Zo(t:au)(a:aG):∀(f j:aG) (n:az) (m x:az),rv t a f j n=(m,x,ak)->n=num t a j->(∀i,i<j->128<=iI t (a+i))->
  ∃k,x=((a+(k+1):aG):az)/\a+(k+1)<=t.size/\0<=m/\m<=1000000000/\bytesOf (vb m)=t.extract a (a+(k+1))
 |0,j,n,m,x,h,_,_=>by simp[rv]at h
 |f+1,j,n,m,x,h,hn,X2=>by
  have hb:=IQ t (a+j);have U0:n+(iI t (a+j):az)%128*128^j=num t a (j+1):=by rw[vV,<-hn]
  simp only[rv]at h;by_cases gQ:a+j<t.size
  ·rw[bC gQ]at h;by_cases hc:(iI t (a+j):az)>127
   ·rw[bC hc]at h;refine Zo t a f (j+1) _ m x h U0 (λi hi=> ?_);by_cases M0:i<j
    ·exact X2 i M0
    ·have:i=j:=by omega
     subst this;omega
   ·rw[bM hc]at h;by_cases hz:(j>0/\iI t (a+j)=0)\/n+(iI t (a+j):az)%128*128^j>1000000000
    ·rw[bC hz]at h;simp at h
    ·rw[bM hz]at h;simp only[iT,and_true]at h;obtain⟨rfl,rfl⟩:=h;have hr:=zS t (j+1) a;rw[<-U0]at hr;refine⟨j,by omega,by omega,hr.1,by omega, ?_⟩
     have:=canon t j a (by omega) X2 (by omega) (by rw[<-U0];omega);rw[fE,show decide (j>0/\iI t (a+j)=0)=aq from aM (λh=>hz (.inl h)),bX,<-U0]at this;exact b9 this
  ·rw[bM gQ]at h;simp at h
def eD(t:au)(iu:az):az×az×aY:=if 0<=iu/\iu<=t.size then rv t iu.toNat 5 0 0 else(0,0,aq)
theorem ki{t:au}{iu m x:az}(h:eD t iu=(m,x,ak)):0<=iu/\iu<x/\x<=t.size/\0<=m/\m<=1000000000/\bytesOf (vb m)=t.extract iu.toNat x.toNat:=by
 unfold eD at h;by_cases hn:0<=iu/\iu<=t.size
 ·rw[bC hn]at h;obtain⟨k,h1,h2,h3,h4,h5⟩:=Zo t iu.toNat 5 0 0 m x h rfl (λi hi=>by omega);exact⟨hn.1,by omega,by omega,h3,h4,by rw[h1];exact h5⟩
 ·rw[bM hn]at h;simp at h
def iD(t:au)(iu:az):au×az×aY:=
 match eD t iu with
 |(n,x,ak)=>if n<=20000/\n<=t.size-x then(t.extract x.toNat (x+n).toNat,x+n,ak)else(⟨#[]⟩,0,aq)
 |_=>(⟨#[]⟩,0,aq)
theorem CF{R:Type}{t:au}(ht:t.size<=4611686018427387904)(iu:az)(kr:au->az->aY->aC R):
  (bif(!(eD t iu).2.2)then(kr ({data:= #[]}) 0 aq)else(bif(decide ((eD t iu).1>20000))then(kr ({data:= #[]}) 0 aq)else(bif(decide ((eD t iu).1>bN ((↑(c5 t):az)-(eD t iu).2.1)))then(kr ({data:= #[]}) 0 aq)else(bif(iQ (eD t iu).2.1 (bN ((eD t iu).2.1+(eD t iu).1)) (↑(c5 t):az))then(kr (bR t (bc (eD t iu).2.1) (bc (bN ((eD t iu).2.1+(eD t iu).1)))) (bN ((eD t iu).2.1+(eD t iu).1)) ak)else(ao)))))=kr (iD t iu).1 (iD t iu).2.1 (iD t iu).2.2:=by
 unfold iD;cases hr:eD t iu with
 |mk n r=>
  obtain⟨x,ok⟩:=r;cases ok with
  |false=>rfl
  |true=>
   obtain⟨h1,h2,h3,h4,h5,h6⟩:=ki hr;have e1:bN ((t.size:az)-x)=t.size-x:=jS (by omega) (by omega);have e2:bN (x+n)=x+n:=jS (by omega) (by omega);simp only[ba,aD,e1,e2];by_cases hc:n<=20000/\n<=t.size-x
   ·rw[bC hc,P0 (GQ (by omega)),P0 (GQ (by omega)),yI (by simp[iQ];omega)]
   ·rw[bM hc];by_cases hb:n>20000
    ·rw[yI (AM hb)]
    ·rw[P0 (GQ hb),yI (AM (by omega))]
theorem Fp{t:au}{iu x:az}{s:au}(h:iD t iu=(s,x,ak)):0<=iu/\iu<x/\x<=t.size/\s.size<=20000/\bytesOf (vb s.size)++s=t.extract iu.toNat x.toNat:=by
 unfold iD at h;cases hr:eD t iu with
 |mk n r=>
  obtain⟨y,ok⟩:=r;rw[hr]at h;cases ok with
  |false=>simp at h
  |true=>
   dsimp only at h;obtain⟨h1,h2,h3,h4,h5,h6⟩:=ki hr;split at h
   ·rename_i hc;simp only[iT,and_true]at h;obtain⟨rfl,rfl⟩:=h;have fX:(t.extract y.toNat (y+n).toNat).size=n.toNat:=by rw[wz];omega
    refine⟨h1,by omega,by omega,by rw[fX];omega, ?_⟩
    rw[fX,show((n.toNat:aG):az)=n by omega,h6];apply rZ;simp only[lO,fY,ui,g_,gP];rw[show(y+n).toNat-iu.toNat=(y.toNat-iu.toNat)+n.toNat by omega,XN,uw,show iu.toNat+(y.toNat-iu.toNat)=y.toNat by omega,show(y+n).toNat-y.toNat=n.toNat by omega]
   ·simp at h
theorem vI(t:au){i j k:aG}(h1:i<=j)(h2:j<=k):t.extract i j++t.extract j k=t.extract i k:=by apply rZ;simp only[lO,fY,ui,g_,gP];rw[show k-i=(j-i)+(k-j)by omega,XN,uw,show i+(j-i)=j by omega]
theorem K_(t:au):t.extract 0 t.size=t:=by apply rZ;simp only[fY,g_,gP,fB,uD];exact iK (by simp)
def fi(p:aG->aY):aG->aG->az
 |0,_=> -1
 |d+1,i=>bif p i then(i:az)else fi p d (i+1)
theorem pP(p:aG->aY):∀d i,fi p d i= -1/\(∀k,i<=k->k<i+d->p k=aq)\/∃k,i<=k/\k<i+d/\fi p d i=(k:az)/\p k=ak/\∀q,i<=q->q<k->p q=aq
 |0,i=> .inl ⟨rfl,λk _ _=>by omega⟩
 |d+1,i=>by
  unfold fi;cases hp:p i with
  |true=>exact .inr ⟨i,by omega,by omega,rfl,hp,λq _ _=>by omega⟩
  |false=>
   rcases pP p d (i+1)with ⟨h1,h2⟩|⟨k,h1,h2,h3,h4,h5⟩
   ·refine .inl ⟨h1,λk hk1 zp=> ?_⟩;by_cases h:k=i
    ·subst h;exact hp
    ·exact h2 k (by omega) (by omega)
   ·refine .inr ⟨k,by omega,by omega,h3,h4,λq hq1 hq2=> ?_⟩;by_cases h:q=i
    ·subst h;exact hp
    ·exact h5 q (by omega) hq2
end Go.FG.Lib
namespace Go.FG.Pu
def xS(xs:aW)(i:aG)(ys:aW):aW:=xs.take i++ys++xs.drop i
end Go.FG.Pu

namespace Go.FG
class PT (P:outParam cR) (T:outParam Tab):Prop where
 e:eg P T
 m:P.follows .mixedOrders=ak
abbrev As:=aA eV
abbrev AA.n(x:az):AA:= .i .i64 x
abbrev AV.n(x:az):AV:= .i .i64 x
abbrev CV.n(x:az):CV:= .i .i64 x
abbrev aI(x:az):eV:= .v aq [.n x]
abbrev aB(x:aY):eV:= .v aq [.b x]
abbrev aS(x:au):eV:= .v aq [.s x]
abbrev aH(e:aG)(x:aW):eV:= .v aq [.sh e x]
abbrev aO(e:aG)(x:aW):eV:= .v aq [.ow e ak x]
abbrev aV(l:aA AA):eV:= .v ak l
abbrev cA(k:aG)(a:AV):aG×eE:=(k, .v (.v aq [a]))
abbrev cV(k:aG)(l:aA AV):aG×eE:=(k, .v (.v ak l))
abbrev cI(k:aG)(x:az):aG×eE:=cA k (.n x)
abbrev cP(k n:aG):aG×eE:=cA k (.bp n 0)
abbrev cH(k e:aG)(x:aW):aG×eE:=cA k (.sh e x)
abbrev oB(k:aG)(l:aA AV):aG×eE:=(k, .o (.box l))
abbrev oR(k e:aG)(x:aW):aG×eE:=(k, .o (.row e ak x))
variable {P:cR} {T:Tab} [i:PT P T] {E:fF} {g:aG} {F:Func} {s t:aA Ho} {A:Fn s As} {k:Fn t dP}
theorem fq(hF:∀g,cF P T g (E.call g))(hf:P.funcs[g]? =aj F){it:aG->It (Pr t)}{l:aA Code}(A3:∀N,∀c∈l,cB E (it N) c)
  {c:Fn s aY} {v:Fn s (Pr t)} (b:aG->Fn t (aC (Pr t))->Fn s (aC (Pr t))) (u:Fn s (aC (Pr t))) {d:Pr t} (hT:E.toTab=T:=by rfl)
  (hc:∀x,GL F (ap s A x)=true:=by intro x;kernel_rfl) (hl:jD (F.body.getD .skip)=l:=by kernel_rfl) (hA:okA A:=by intro x;rfl) (hk:okK k:=by intro x;rfl)
  (h:∀N x,AG E (it N) F k (ap s A x)=ap s (b N (cmp t (je t) aj)) x:=by intro N x;kernel_rfl) (hw:b Lib.c9 (cmp t (je t) aj)=u:=by rfl) (h1:cmp s u mT=c:=by rfl) (h2:cmp s u (λo=>o.getD d)=v:=by rfl):cF P T g (eL A k c v):=by subst hT;exact fl i.e i.m hF hf hc hl A3 hA hk Lib.c9 h hw h1 h2
theorem fr(hF:∀g,cF P T g (E.call g))(hf:P.funcs[g]? =aj F)
  {c:Fn s aY} {v:Fn s (Pr t)} (b:Fn t (aC (Pr t))->Fn s (aC (Pr t))) (u:Fn s (aC (Pr t))) {d:Pr t} (hT:E.toTab=T:=by rfl)
  (hc:∀x,GL F (ap s A x)=true:=by intro x;kernel_rfl) (hl:jD (F.body.getD .skip)=[]:=by kernel_rfl) (hA:okA A:=by intro x;rfl) (hk:okK k:=by intro x;rfl)
  (h:∀x,AG E ln F k (ap s A x)=ap s (b (cmp t (je t) aj)) x:=by intro x;kernel_rfl) (hw:b (cmp t (je t) aj)=u:=by rfl) (h1:cmp s u mT=c:=by rfl) (h2:cmp s u (λo=>o.getD d)=v:=by rfl):cF P T g (eL A k c v):=by subst hT;exact fl i.e i.m hF hf hc hl (it:=λ_=>ln) (λ_=>bV) hA hk (w:=λ_=>b (cmp t (je t) aj)) 0 (λ_=>h) hw h1 h2
theorem ft(hF:∀g,cF P T g (E.call g))(hf:P.funcs[g]? =aj F)
  {v:Fn s (Pr t)} (b:Fn t (aC (Pr t))->Fn s (aC (Pr t))) (hv:∀x,ap s (b (cmp t (je t) aj)) x=aj (ap s v x)) (hT:E.toTab=T:=by rfl)
  (hc:∀x,GL F (ap s A x)=true:=by intro x;kernel_rfl) (hl:jD (F.body.getD .skip)=[]:=by kernel_rfl) (hA:okA A:=by intro x;rfl) (hk:okK k:=by intro x;rfl)
  (h:∀x,AG E ln F k (ap s A x)=ap s (b (cmp t (je t) aj)) x:=by intro x;kernel_rfl):cF P T g (eL A k (ct s) v):=by subst hT;exact flh i.e i.m hF hf hc hl (it:=λ_=>ln) (λ_=>bV) hA hk λx _ _=>⟨0,(h x).trans (hv x)⟩
theorem fh(hF:∀g,cF P T g (E.call g))(hf:P.funcs[g]? =aj F){it:aG->It (Pr t)}{l:aA Code}(A3:∀N,∀c∈l,cB E (it N) c)
  {c:Fn s aY} {v:Fn s (Pr t)} (b:aG->Fn t (aC (Pr t))->Fn s (aC (Pr t))) (hv:∀x,vM (ap s A x)->ap s c x=ak->∃N,ap s (b N (cmp t (je t) aj)) x=aj (ap s v x)) (hT:E.toTab=T:=by rfl)
  (hc:∀x,GL F (ap s A x)=true:=by intro x;kernel_rfl) (hl:jD (F.body.getD .skip)=l:=by kernel_rfl) (hA:okA A:=by intro x;rfl) (hk:okK k:=by intro x;rfl)
  (h:∀N x,AG E (it N) F k (ap s A x)=ap s (b N (cmp t (je t) aj)) x:=by intro N x;kernel_rfl):cF P T g (eL A k c v):=by subst hT;exact flh i.e i.m hF hf hc hl A3 hA hk λx f q=>(hv x f q).imp λN e=>(h N x).trans e
section
variable {R:Type} {it:It R} {F:Func}
theorem lq(n:aG){s:aA Ho}(T:Fn s Tb)(l:Kt R->aG->Fn s (aC R))(r:Kt R->Fn s (aC R)->Fn s (aC R)){N:aG}(hr:gm (ca F n)=n:=by kernel_rfl)(hT:okT T:=by intro x;rfl)
  (hi:∀L K,it n (se E it (ca F n)) (canon (E.yR n)) L K=al T (λK=>l K N) an L K:=by intro L K;rfl) (h0:∀K x,ap s (l K 0) x=none:=by intro K x;rfl) (h1:∀K n,l K (n+1)=r K (l K n):=by intro K n;rfl)
  (h:∀K g x,se E it (ca F n) (fO (ap s T x)) (Dt g (canon (E.yR n)) K)=ap s (r K (cmp s T λt=>g (fO t))) x:=by intro K g x;kernel_rfl):cB E it (ca F n):=
 lo1 n T hr hT l r hi h0 h1 h
theorem lw{n:aG}{K:Kt R}{s:aA Ho}{T:Fn s Tb}{l:aG->Fn s (aC R)}(r:(St->aC R)->Fn s (aC R))
  (h1:∀m,(∀x,iter (se E it (ca F n)) (canon (E.yR n)) m (fO (ap s T x)) K=ap s (l m) x)->r (λσ=>iter (se E it (ca F n)) (canon (E.yR n)) m σ K)=l (m+1)) (h0:∀x,ap s (l 0) x=none:=by intro x;rfl)
  (h:∀g x,se E it (ca F n) (fO (ap s T x)) (Dt g (canon (E.yR n)) K)=ap s (r g) x:=by intro g x;kernel_rfl):Wd E it (ca F n) n K T l:=wl r h0 h1 h
theorem lm(n:aG){a:Tb->Kt R->aC R}(h:Good E it (ca F n) n a)(hr:gm (ca F n)=n:=by kernel_rfl)(hi:∀L K,it n (se E it (ca F n)) (canon (E.yR n)) L K=a L K:=by intro L K;rfl):cB E it (ca F n):=lom n hr hi h
theorem ga{C:Code}{n:aG}{s:aA Ho}(T:Fn s Tb){N:aG}{l:Kt R->aG->Fn s (aC R)}{o:Tb->Kt R->aC R}(h:∀K,Wd E it C n K T (l K))(ho:Good E it C n o)(hT:okT T:=by intro x;rfl):Good E it C n (al T (λK=>l K N) o):=Ll hT h ho
end
end Go.FG

