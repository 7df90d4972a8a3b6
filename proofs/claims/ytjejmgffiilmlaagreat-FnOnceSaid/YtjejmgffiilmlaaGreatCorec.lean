/- An evaluator for the part of the language that this program uses, proved sound over the model: states told as values and lists; what an evaluation tells, the call does. No condition. -/
import Derived.Calls
import Derived.Orders
import Derived.Below
import Derived.Laws.AppendOwn
import Derived.Laws.Slices
import Derived.Laws.StructEq
import Derived.Laws.Tables
import Derived.Laws.MakeOwn
import Derived.Laws.IdiomStrings
import Derived.Laws.BytesArg
import Derived.Laws.NewFold
import Derived.SizedLaws
import Derived.Carry
import Derived.ProofKit
import Derived.KernelRfl
import Derived.Laws.Strings
import Derived.Test.YtjejmgffiilmlaaGreatCoreb
set_option linter.unusedVariables false
set_option linter.unusedSimpArgs false
set_option maxRecDepth 100000
open Array renaming length_toList->dK,getElem?_eq_some_iff->dN,toList_extract->g8,getElem?_toList->cO,getD_eq_getD_getElem?->ed,toList_append->uk
open Bool renaming true->ak,and_eq_true->aK,false->aq,false_eq_true->dj,not_eq_true'->dD,and_true->ph,not_true->ba,not_false->bX
open ByteArray renaming size->gh,size_append->dz,data_extract->fU,size_extract->wE,extract->bR,data_append->lP
open Go renaming Program->cQ,Value->bg,World->bF
open Go.ByteArray renaming toList_eq->jT
open Go.DataW renaming weightsAll->yI,trod->BX,weights->uz,TrodAll->CX,weightsEach->my
open Go.IntKind renaming i64->ar,u8->bk,wrap->bJ
open Go.Value renaming okWide->ry
open Int renaming toNat->bc,tmod->cF,tdiv->cS,tdiv_eq_ediv_of_nonneg->gC,mul_le_mul_of_nonneg_left->Ao,pow_succ->tI,tmod_eq_emod_of_nonneg->rZ
open List renaming getElem?_append_left->dg,getElem?_append_right->cZ,getElem?_eq_none->kB,mem_singleton->aZ,mem_append->a_,length_append->bO,length_take->eg,length_drop->hZ,length_map->bP,map_append->dh,getElem?_take->dR,getElem?_drop->dJ,getElem?_eq_getElem->eD,mem_cons->cz,getElem?_eq_some_iff->aU,getElem?_of_mem->bZ,eq_nil_of_length_eq_zero->fQ,getElem?_map->bE,length_eq_one_iff->gD,all_cons->r_,mem_append_left->bN,mem_append_right->bH,append_nil->di,all_eq_true->bn,append_assoc->cj,map_cons->eW,mem_cons_self->du,mem_cons_of_mem->cU,getD->jq,drop_eq_getElem_cons->dG,set->aE,length_singleton->bw,beq->dC,range'->lJ,ext_getElem?->TF,extract_eq_take_drop->gM,length->bW,take_add->XP,drop_drop->uA,drop_zero->fm,take_of_length_le->iJ
open List.cons renaming injEq->XO,inj->mb
open Nat renaming beq->bA,blt->pZ,add_assoc->lC,lt_or_ge->qw,eq_zero_or_pos->B0,eq_of_beq_eq_true->aW,zero_add->bT,blt_eq->zh,mul_le_mul_right->b7,le_trans->c_,ble->e9,le_of_ble_eq_true->cC,add_zero->wT,sub_zero->uF
open Option renaming some->aj,none->ao,isSome->mU,bind->lQ,getD->XQ,map_some->iQ
open Option.some renaming inj->aF
open Prod.mk renaming inj->bU,injEq->iR
open _root_ renaming ByteArray->au,Nat->aG,Option->aD,List->az,cond_true->ay,if_pos->bC,Bool->aY,absurd->cq,Array->de,Int->aA,decide_eq_true_eq->bf,of_decide_eq_true->b9,cond_false->aC,decide_eq_true->aJ,if_neg->bL,congrArg->ml,decide_eq_decide->ch,UInt8->F2,decide_eq_false->aM
namespace Go.FG
open Go.RowKit Go.ChangeShapes
inductive qG (T:Tab):CV->Prop
 |i (k n):(Lit.int k n).wf=ak->qG T (.i k n)
 |b (x):qG T (.b x)
 |s (x:au):x.size<=140737488351232->qG T (.s x)
 |l (e xs ti):T.ty e=aj ti->xs.length*ti.bytes<=140737488351232->(∀y∈xs,y.map CV.kd=ti.ks)->(∀y∈xs,∀x∈y,qG T x)->qG T (.l e xs)
def Nl(P:cQ)(g:aG->aD (az Ck)):az Field->aG->aD (az Ck)
 |[],_=>aj []
 |f::r,off=>match g f.type with
  |some ks=>bif bA f.offset off&&bA (P.cellsOf f.type) ks.length then(match Nl P g r (off+ks.length)with|some l=>aj (ks++l)|none=>ao)else ao
  |none=>ao
def Nk(P:cQ)(T:Tab):aG->aG->aD (az Ck)
 |0,_=>ao
 |n+1,t=>match P.underlying t with
  |some (.int k)=>aj [.i k]
  |some .bool=>aj [.b]
  |some .string=>aj [.s]
  |some (.slice e)=>match T.ty e,Nk P T n e with
   |some te,aj ks=>bif pQ ks te.ks&&bA te.bytes (P.bytesOf e)&&bA (P.cellsOf e) ks.length&&pZ 0 ks.length then aj [.l e]else ao
   |_,_=>ao
  |some (.struct fs)=>match Nl P (Nk P T n) fs.toList 0 with
   |some ks=>bif bA (P.cellsOf t) ks.length then aj ks else ao
   |none=>ao
  |_=>ao
def GC:CV->AA
 | .i k n=> .i k n| .b x=> .b x| .s x=> .s x| .l e xs=> .sh e xs
section
variable {H:Type} {enc:TypeId×bg->H} {P:cQ} {T:Tab} {w:bF}
def Cc(w:bF):aG->Prop:=λb=>b<w.heap.size
structure vh (T:Tab) (w:bF) (cs:az bg) (off:aG) (ys:az CV) (ks:az Ck):Prop where
 kd:ys.map CV.kd=ks
 at_:∀(j:aG) (y:CV),ys[j]? =aj y->∃v,cs[off+j]? =aj v/\cY T w (Cc w) v y
 fine:∀y∈ys,qG T y
theorem PW(a:Addr)(m k:aG):(a.add m).add k=a.add (m+k):=by
 unfold Addr.add;by_cases h1:m=0<;>by_cases h2:k=0
 ·simp[h1,h2]
 ·simp[h1,h2]
 ·simp[h1,h2]
 ·simp[h1,h2,lC]
theorem aaM(b o n:aG):(ad b o).add n=ad b (o+n):=by unfold Addr.add;by_cases h:n=0<;>simp[h]
theorem yO{α:Type}{p:aG->α->Prop}:∀n:aG,(∀i,i<n->∃y,p i y)->∃xs:az α,xs.length=n/\∀(i:aG) (y:α),xs[i]? =aj y->p i y
 |0,_=>⟨[],rfl,λi y h=>by simp at h⟩
 |n+1,h=>by
  obtain⟨xs,h1,h2⟩:=yO n (λi hi=>h i (by omega));obtain⟨y,hy⟩:=h n (by omega);refine⟨xs++[y],by simp[h1],λi z hz=> ?_⟩
  rcases qw i xs.length with hi|hi
  ·rw[dg hi]at hz;exact h2 i z hz
  ·rw[cZ hi]at hz;have:i-xs.length=0:=by
    rcases B0 (i-xs.length)with h|h
    ·exact h
    ·rw[kB (by simp;omega)]at hz;cases hz
   rw[this]at hz;cases hz;have:i=n:=by omega
   subst this;exact hy
theorem sH{v:bg}{y:CV}{k:Ck}(hk:y.kd=k)(hh:cY T w (Cc w) v y)(hf:qG T y):vh T w [v] 0 [y] [k] where
 kd:=by simp[hk]
 at_ j y' hj:=by
  cases j with
  |zero=>cases hj;exact⟨v,rfl,hh⟩
  |succ j=>simp at hj
 fine y' hy:=by rw[aZ]at hy;subst hy;exact hf
theorem sU{e:TypeId}:∀{ds:az (DataW H)} {i:aG} {d:DataW H},ds[i]? =aj d->∀n∈d.weights P e,n∈yI P e ds
 |[],_,_,h,_,_=>by simp at h
 |d0::ds,0,d,h,n,hn=>by cases h;simp only[yI,a_];exact .inl hn
 |d0::ds,i+1,d,h,n,hn=>by simp only[yI,a_];exact .inr (sU (ds:=ds) (i:=i) h n hn)
theorem MX{g:aG->aD (az Ck)}{cs:az bg}
  (hg:∀t ks,g t=aj ks->∀(fuel:aG) (cs:az bg) (x:DataW H×az MemPlace) sp hd,BX enc P w 0 sp hd fuel t cs=aj x->(∀m∈x.1.weights P t,m<=reachBytes)->cs.length=P.cellsOf t->∃ys,vh T w cs 0 ys ks):
  ∀(fs:az Field) (off:aG) (ks:az Ck),Nl P g fs off=aj ks->off+ks.length<=cs.length->∀(xs:az (DataW H×az MemPlace)) (fuel:aG) sp hd,xs.length=fs.length->
   (∀(i:aG) (f:Field),fs[i]? =aj f->BX enc P w 0 sp hd fuel f.type ((cs.drop f.offset).take (P.cellsOf f.type))=xs[i]?)->
   (∀(i:aG) (f:Field) x,fs[i]? =aj f->xs[i]? =aj x->∀m∈x.1.weights P f.type,m<=reachBytes)->∃ys,vh T w cs off ys ks:=by
 intro fs;induction fs with
 |nil=>intro off ks h _ xs fuel sp hd _ _ _;cases h;exact⟨[],⟨rfl,λj y hj=>by simp at hj,λy hy=>by cases hy⟩⟩
 |cons f fs ih=>
  intro off ks h hlen xs fuel sp hd U_ Od hwt;unfold Nl at h;cases hgf:g f.type with
  |none=>rw[hgf]at h;cases h
  |some k1=>
   rw[hgf]at h;dsimp only at h;cases hb:(bA f.offset off&&bA (P.cellsOf f.type) k1.length)with
   |false=>rw[hb]at h;cases h
   |true=>
    rw[hb,ay]at h;simp only[aK]at hb;have e1:=aW hb.1;have e2:=aW hb.2;cases hr:Nl P g fs (off+k1.length)with
    |none=>rw[hr]at h;cases h
    |some k2=>
     rw[hr]at h;have h:k1++k2=ks:=by injection h
     subst h;rw[bO]at hlen;cases xs with
     |nil=>simp at U_
     |cons x xs=>
      have h0:=Od 0 f rfl;rw[show(x::xs)[0]? =aj x from rfl]at h0;obtain⟨y1,c1⟩:=hg _ _ hgf fuel _ x sp hd h0 (hwt 0 f x rfl rfl) (by rw[eg,hZ];omega);obtain⟨y2,c2⟩:=ih (off+k1.length) k2 hr (by omega) xs fuel sp hd (by simpa using U_) (λi f' hf=>Od (i+1) f' hf) (λi f' x' hf hx=>hwt (i+1) f' x' hf hx);have LA:y1.length=k1.length:=by rw[<-c1.kd,bP]
      refine⟨y1++y2,⟨by rw[dh,c1.kd,c2.kd],λj y hj=> ?_,λy hy=> ?_⟩⟩
      ·rcases qw j y1.length with jC|jC
       ·rw[dg jC]at hj;obtain⟨v,hv,hh⟩:=c1.at_ j y hj;refine⟨v, ?_,hh⟩
        rw[bT,dR,bC (by omega),dJ,e1]at hv;exact hv
       ·rw[cZ jC]at hj;obtain⟨v,hv,hh⟩:=c2.at_ _ y hj;refine⟨v, ?_,hh⟩
        rw[show off+k1.length+(j-y1.length)=off+j by omega]at hv;exact hv
      ·rcases a_.1 hy with hy|hy
       ·exact c1.fine y hy
       ·exact c2.fine y hy
theorem Bq(hE:dZ P T):∀(n t:aG) (ks:az Ck),Nk P T n t=aj ks->∀(fuel:aG) (cs:az bg) (x:DataW H×az MemPlace) sp hd,BX enc P w 0 sp hd fuel t cs=aj x->(∀m∈x.1.weights P t,m<=reachBytes)->cs.length=P.cellsOf t->∃ys,vh T w cs 0 ys ks:=by
 intro n;induction n with
 |zero=>intro t ks h;cases h
 |succ n ih=>
  intro t ks h fuel cs x sp hd Od hwt nh;unfold Nk at h;split at h
  ·rename_i k hu;cases h;obtain⟨m,rfl,rfl,hwf⟩:=DataW.trod_int hu Od;exact⟨[.i k m],sH rfl (.i _ _) (.i _ _ hwf)⟩
  ·rename_i hu;cases h;obtain⟨m,rfl,rfl⟩:=DataW.trod_bool hu Od;exact⟨[.b m],sH rfl (.b _) (.b _)⟩
  ·rename_i hu;cases h;obtain⟨m,rfl,rfl,hmx⟩:=DataW.trod_string hu Od;have hz:m.size<=140737488351232:=by have:=hwt m.data.toList.length (by simp[uz]);rw[dK]at this;exact this
   exact⟨[.s m],sH rfl (.s _ (show m.size<=4611686018427387904 by omega)) (.s _ hz)⟩
  ·rename_i e hu;split at h
   ·rename_i te ke JC hke;cases hb:(pQ ke te.ks&&bA te.bytes (P.bytesOf e)&&bA (P.cellsOf e) ke.length&&pZ 0 ke.length)with
    |false=>rw[hb]at h;cases h
    |true=>
     rw[hb]at h;cases h;simp only[aK]at hb;obtain⟨⟨⟨b1,b2⟩,b3⟩,b4⟩:=hb;have e1:=nb b1;have e2:=aW b2;have e3:=aW b3;have e4:0<ke.length:=by simpa [zh]using b4
     subst e1;rcases DataW.trod_slice hu Od with ⟨rfl,rfl⟩|⟨a,len,cap,elems,rest,m,rfl,rfl,rfl,_,hlc,Qy,TS,fS,_,_⟩
     ·exact⟨[.l e []],sH rfl (.nl _ _ _) (.l e [] te JC (by simp) (λy hy=>by cases hy) (λy hy=>by cases hy))⟩
     ·have hwl:len*te.bytes<=140737488351232:=by have:=hwt ((elems.length+rest.length)*P.bytesOf e) (by simp[uz,hu]);rw[<-e2,TS]at this;have h2:len*te.bytes<=(len+rest.length)*te.bytes:=b7 _ (by omega);exact c_ h2 this
      have one:∀i,i<len->∃ys:az CV,(∀(j:aG) (y:CV),ys[j]? =aj y->∃v,w.cell? (a.add (i*te.ks.length+j))=aj v/\cY T w (Cc w) v y)/\ys.map CV.kd=te.ks/\∀y∈ys,qG T y:=by
       intro i hi;have h1:=fS i hi;have lE:i<elems.length:=by omega
       rw[eD lE]at h1;cases hc:w.cells? 0 (a.add (i*P.cellsOf e)) (P.cellsOf e)with
       |none=>rw[hc]at h1;cases h1
       |some cs=>
        rw[hc]at h1;have h1:BX enc P w 0 sp hd m e cs=aj elems[i]:=h1;obtain⟨_,nh,hcell⟩:=World.cells?_some hc;obtain⟨ys,c⟩:=ih e te.ks hke m cs _ sp hd h1 (λz hz=>hwt z (by simp only[uz,hu,cz,a_];exact .inr (.inl (sU (i:=i) (d:=elems[i].1) (by simp[lE]) z hz)))) nh;refine⟨ys,λj y hj=> ?_,c.kd,c.fine⟩
        obtain⟨v,hv,hh⟩:=c.at_ j y hj;rw[bT]at hv;have jC:=(aU.1 hv).1;have:=hcell j (by omega);rw[hv]at this;refine⟨v, ?_,hh⟩
        rw[<-e3];rw[<-PW];exact this
      obtain⟨xs,U_,hx⟩:=yO len one;have ae0:qG T (.l e xs):=by
       refine .l e xs te JC (by rw[U_];exact hwl) (λy hy=> ?_) (λy hy=> ?_)
       ·obtain⟨i,hi⟩:=bZ hy;exact(hx i y hi).2.1
       ·obtain⟨i,hi⟩:=bZ hy;exact(hx i y hi).2.2
      refine⟨[.l e xs],sH rfl ?_ ae0⟩
      rcases B0 len with h0|h0
      ·have:xs=[]:=fQ (by omega);subst this;rw[h0];exact .nl _ _ _
      ·have hx0:xs[0]? =aj xs[0]:=by rw[eD (by omega)]
       obtain⟨c0,k0,_⟩:=hx 0 _ hx0;have hy0:0<(xs[0]).length:=by rw[<-bP (f:=CV.kd),k0];exact e4
       obtain⟨v0,Oe,_⟩:=c0 0 _ (eD hy0);obtain⟨b,o,s⟩:=a;have hs:s=ao/\b<w.heap.size:=by
        unfold World.cell? at Oe;have e0:(Addr.mk b o s).add (0*te.ks.length+0)=⟨b,o,s⟩:=by simp[Addr.add]
        rw[e0]at Oe;split at Oe
        ·rename_i hh;refine⟨?_,(dN.1 hh).1⟩
         cases s with
         |none=>rfl
         |some s=>simp at Oe
        ·cases Oe
       obtain⟨rfl,hbl⟩:=hs;let U:aG->aG->bg:=λi j=>(w.cell? (ad b (o+i*te.ks.length+j))).getD undef;have aw:∀i j y z,xs[i]? =aj y->y[j]? =aj z->w.cell? (ad b (o+i*te.ks.length+j))=aj (U i j)/\cY T w (Cc w) (U i j) z:=by
        intro i j y z hi hj;obtain⟨v,hv,hh⟩:=(hx i y hi).1 j z hj;have hv:w.cell? ((ad b o).add (i*te.ks.length+j))=aj v:=hv;rw[aaM,<-lC]at hv;have:U i j=v:=by simp only[U,hv];rfl
        rw[this];exact⟨hv,hh⟩
       rw[<-U_];exact .l e xs b o cap te U JC (by omega) Qy hbl (λy hy=>by obtain⟨i,hi⟩:=bZ hy;exact(hx i y hi).2.1) (λi j y z hi hj=>(aw i j y z hi hj).1) (λi j y z hi hj=>(aw i j y z hi hj).2)
   ·cases h
  ·rename_i fs hu;obtain⟨xs,m,rfl,rfl,abq,U_,hf⟩:=DataW.trod_struct hu Od;cases hlf:Nl P (Nk P T n) fs.toList 0 with
   |none=>rw[hlf]at h;cases h
   |some ks'=>
    rw[hlf]at h;obtain⟨hb,rfl⟩:=Dd h;refine MX ih fs.toList 0 _ hlf ?_ xs m sp hd (by simpa using U_) (λi f hi=>hf i f (by simpa using hi)) (λi f x hi hx z hz=>hwt z ?_)
    ·have:=aW hb;omega
    ·simp only[uz,hu];refine DataW.weights_mem_each (j:=i) (t:=f.type) (d:=x.1) ?_ ?_ z hz
     ·rw[bE,hi];rfl
     ·rw[bE,hx];rfl
  ·cases h
end
end Go.FG

namespace Go.FG
open Go.RowKit Go.ChangeShapes
def nB(T:Tab):az aG->az (az CV)->az eR
 |t::ts,ys::rq=>eR.v (match T.ty t with|some ti=>ti.agg|none=>aq) (ys.map GC)::nB T ts rq
 |_,_=>[]
def oD(T:Tab):az aG->az (az CV)->Prop
 |[],[]=>True
 |t::ts,ys::rq=>(∃ti,T.ty t=aj ti/\ys.map CV.kd=ti.ks)/\(∀y∈ys,qG T y)/\oD T ts rq
 |_,_=>False
def NB(P:cQ)(T:Tab)(n:aG)(t:aG):aY:=
 match T.ty t,Nk P T n t,P.underlying t with
 |some ti,aj ks,aj d=>pQ ks ti.ks&&(match d with| .struct _=>ti.agg| .array _ _=>aq|_=> !ti.agg)&&P.readableRec t&&decide (t<P.types.size)
 |_,_,_=>aq
theorem aaK{T:Tab}{w:bF}{c:eK}(hc:∀b,Cc w b->c.K b){v:bg}{y:CV}(h:cY T w (Cc w) v y)(nm:aG):ea T w c (kQ nm (GC y)) v:=by
 have h:cY T w c.K v y:=h.frame (λ_ _=>rfl) hc;cases y with
 |i k n=>cases h;rfl
 |b x=>cases h;rfl
 |s x=>cases h with|s _ ho=>exact⟨rfl,ho⟩
 |l e xs=>exact h
section
variable {H:Type} {enc:TypeId×bg->H} {P:cQ} {T:Tab} {w:bF}
theorem aaU(hE:dZ P T){n t:aG}(hp:NB P T n t=ak){v:bg}{d:DataW H}{ps:az MemPlace}{sp:aG->aY}{hd:aY}{base:aG}(hv:ry P w .any base t v)(h:DataW.Trod enc P w 0 sp hd t v d ps)(hw:∀m∈d.weights P t,m<=reachBytes):
  ∃ys:az CV,(∃ti,T.ty t=aj ti/\ys.map CV.kd=ti.ks)/\(∀y∈ys,qG T y)/\∀c:eK,(∀b,Cc w b->c.K b)->∀p,iU T w c (sC p (eR.v (match T.ty t with|some ti=>ti.agg|none=>aq) (ys.map GC))) v:=by
 unfold NB at hp;split at hp
 ·rename_i ti ks dd ht hl hu;simp only[aK]at hp;obtain⟨⟨⟨h1,h2⟩,_⟩,_⟩:=hp;have e1:=nb h1;subst e1;obtain⟨fuel,Od⟩:=h;obtain⟨inf,hi,fT,_⟩:=hE.info t ti ht;have hct:P.cellsOf t=ti.ks.length:=by unfold Program.cellsOf;rw[hi];exact fT
  have cell:∀(ys:az CV) (cs:az bg),vh T w cs 0 ys ti.ks->∀c:eK,(∀b,Cc w b->c.K b)->∀(p j:aG) (a:AV),(gb (dL p 0) (ys.map GC))[j]? =aj a->∃u:bg,cs[j]? =aj u/\ea T w c a u:=by
   intro ys cs hc c hK p j a hj;rw[ia,bE]at hj;cases hy:ys[j]? with
   |none=>rw[hy]at hj;cases hj
   |some y=>rw[hy]at hj;cases hj;obtain⟨u,rE,hh⟩:=hc.at_ j y hy;rw[bT]at rE;exact⟨u,rE,aaK hK hh _⟩
  cases s_:ti.agg with
  |true=>
   have JA:∃fs,dd= .struct fs:=by cases dd<;>simp[s_]at h2;exact⟨_,rfl⟩
   obtain⟨fs,rfl⟩:=JA;unfold ry at hv;rw[hu]at hv;obtain⟨cs,rfl,F_,_⟩:=hv;obtain⟨ys,hc⟩:=Bq hE n t ti.ks hl fuel cs.toList (d,ps) sp hd Od hw (by simpa using F_);refine⟨ys,⟨ti,ht,hc.kd⟩,hc.fine,λc hK p=> ?_⟩
   rw[ht];show pO T w c ti.agg (gb (dL p 0) (ys.map GC)) _;rw[s_];refine⟨cs,rfl, ?_,λj a hj=> ?_⟩
   ·rw[iy,bP,F_,hct,<-hc.kd,bP]
   ·obtain⟨u,rE,ha⟩:=cell ys cs.toList hc c hK p j a hj;exact⟨u,by simpa using rE,ha⟩
  |false=>
   have JA:∀fs,dd≠ .struct fs:=by intro fs he;subst he;simp[s_]at h2
   have har:∀m e,dd≠ .array m e:=by intro m e he;subst he;cases h2
   have hcell:Cell.okWide P w .any base t v:=by
    unfold ry at hv;rw[hu]at hv;split at hv
    ·rename_i fs he;cases he;exact cq rfl (JA fs)
    ·rename_i m e he;cases he;exact cq rfl (har m e)
    ·exact hv
   have vT:v.cells= #[v]:=by
    cases v<;>first|rfl|skip
    rename_i cs;exfalso;unfold Cell.okWide at hcell;rw[hu]at hcell;cases dd<;>simp[Cell.ok,hu]at hcell
   obtain⟨dd',hu2,_,hn⟩:=hE.desc t ti ht;have h1:ti.ks.length=1:=by rcases hn s_ with ⟨k,h,_⟩|⟨h,_⟩|⟨h,_⟩|⟨e',h,_⟩|⟨h,_⟩<;>simp[h]
   rw[vT]at Od;obtain⟨ys,hc⟩:=Bq hE n t ti.ks hl fuel [v] (d,ps) sp hd Od hw (by rw[hct,h1];rfl);have Hq:ys.length=1:=by rw[<-bP (f:=CV.kd),hc.kd,h1]
   obtain⟨y,rfl⟩:=gD.1 Hq;refine⟨[y],⟨ti,ht,hc.kd⟩,hc.fine,λc hK p=> ?_⟩
   rw[ht];show pO T w c ti.agg [kQ (dL p 0) (GC y)] _;rw[s_];obtain⟨u,rE,ha⟩:=cell [y] [v] hc c hK p 0 _ rfl;cases rE;exact ha
 ·cases hp
theorem Ut(hE:dZ P T){n:aG}{sp:aG->aY}{hd:aY}{base:aG}:∀{ts:az aG} {vs:az bg} {ds:az (DataW H)} {ps:az MemPlace},ts.all (NB P T n)=ak->
  CX enc P w 0 sp hd ts vs ds ps->(∀(j:aG) t v,ts[j]? =aj t->vs[j]? =aj v->ry P w .any base t v)->(∀m∈my P ts ds,m<=reachBytes)->
  ∃rq,oD T ts rq/\vs.length=(nB T ts rq).length/\ds.length=ts.length/\∀c:eK,(∀b,Cc w b->c.K b)->∀(q p:aG) (x:eR),(nB T ts rq)[p]? =aj x->∃v,vs[p]? =aj v/\iU T w c (sC (q+p) x) v:=by
 intro ts;induction ts with
 |nil=>intro vs ds ps _ h _ _;obtain⟨rfl,rfl,rfl⟩:=trodAll_nil h;exact⟨[],trivial,rfl,rfl,λc _ q p x h=>by simp[nB]at h⟩
 |cons t ts ih=>
  intro vs ds ps hp h b8 hw;simp only[r_,aK]at hp;obtain⟨v,vs,d,ds,p,q,rfl,rfl,rfl,h0,r0⟩:=trodAll_cons h;obtain⟨ys,y1,y2,y3⟩:=aaU hE hp.1 (b8 0 t v rfl rfl) h0 (λm hm=>hw m (by simp only[my,a_];exact .inl hm));obtain⟨rq,z1,z2,z4,z3⟩:=ih hp.2 r0 (λj t v hj hv=>b8 (j+1) t v hj hv) (λm hm=>hw m (by simp only[my,a_];exact .inr hm));refine⟨ys::rq,⟨y1,y2,z1⟩,by simp[nB,z2],by simp[z4],λc hK q p x hx=> ?_⟩
  cases p with
  |zero=>cases hx;exact⟨v,rfl,y3 c hK q⟩
  |succ p=>obtain⟨v',h1,h2⟩:=z3 c hK (q+1) p x hx;exact⟨v',h1,by rw[show q+(p+1)=q+1+p by omega];exact h2⟩
theorem na{m:aG}{ob:Obj}:∀{ts:az aG} {rq:az (az CV)},inj (nB T ts rq) (cW m)≠ .o ob:=by
 intro ts rq h;obtain⟨p,a,h0,hh⟩:=zU h;have:∀(ts:az aG) (rq:az (az CV)) (p:aG) (a:eR),(nB T ts rq)[p]? =aj a->∃(g:aY) (ys:az CV),a= .v g (ys.map GC):=by
  intro ts;induction ts with
  |nil=>intro rq p a h;simp[nB]at h
  |cons t ts ih=>
   intro rq p a h;cases rq with
   |nil=>simp[nB]at h
   |cons ys rq=>
    cases p with
    |zero=>cases h;exact⟨_,ys,rfl⟩
    |succ p=>exact ih rq p a h
 obtain⟨g,ys,rfl⟩:=this _ _ _ _ h0;rcases hh with ⟨xs,h1,_⟩|⟨xs,j,e,ex,zs,h1,h2,_⟩
 ·cases h1
 ·have h1:ys.map GC=xs:=by rcases h1 with ⟨g',h1⟩|h1<;>cases h1;rfl
  subst h1;rw[bE]at h2;cases hy:ys[j]? with
  |none=>rw[hy]at h2;cases h2
  |some y=>rw[hy]at h2;cases y<;>cases h2
theorem FI(hl:laidOutB P=ak){W':bF}(hb:Below w.heap.size w W'){n:aG}:∀{ts:az aG} {vs:az bg} {ds:az (DataW H)} {ps:az MemPlace},ts.all (NB P T n)=ak->CX enc P w 0 (λ_=>ak) ak ts vs ds ps->(∀x∈ps,x.block<w.heap.size)->
  CX enc P W' 0 (λb=>decide (b<w.heap.size)) ak ts vs ds ps:=by
 intro ts;induction ts with
 |nil=>intro vs ds ps _ h _;obtain⟨rfl,rfl,rfl⟩:=trodAll_nil h;exact h
 |cons t ts ih=>
  intro vs ds ps hp h jD;simp only[r_,aK]at hp;obtain⟨v,vs,d,ds,p,q,rfl,rfl,rfl,h0,r0⟩:=trodAll_cons h;have Ng:=hp.1;unfold NB at Ng;split at Ng
  ·simp only[aK]at Ng;exact⟨p,q,Below.trod hl Ng.1.2 (by simpa using Ng.2) h0 hb (λx hx=>jD x (bN _ hx)),ih hp.2 r0 (λx hx=>jD x (bH _ hx)),rfl⟩
  ·cases Ng
end
theorem Ff{H:Type}{enc:TypeId×bg->H}{C:Checked}{T:Tab}(hE:dZ C.prog T)(hl:laidOutB C.prog=ak){g tb n:aG}{fn:Func}{spec:az eR->aD (aY×dM)}(hF:la C.prog T g spec){s:ChangeSpec}
  (afl:fn.params.toList.all (NB C.prog T n)=ak) (am2:fn.resultTypes= #[tb]) (htb:C.prog.underlying tb=aj .bool) (QM:s.vars=[])
  (hfn:∀ds:az (DataW H),ds.length=fn.params.toList.length->s.fn H ds={results:=[.lit (.bool ak)],args:=ds})
  (claim:∀rq,oD T fn.params.toList rq->spec (nB T fn.params.toList rq)=aj (ak,⟨[.v aq [.b ak]],[]⟩))
  (W:bF) (base:aG) (args:de bg) (ds gs:az (DataW H)) (before:az MemPlace)
  (hval:∀(j:aG) t v,fn.params[j]? =aj t->args[j]? =aj v->ry C.prog W .any base t v)
  (hW:DataW.Whole enc C.prog fn.params.toList s.vars aq W args.toList ds gs before)
  (fT:(my C.prog (fn.params.toList++s.plain.varTypes C.prog) (ds++gs)).all (·<=reachBytes)=ak):
  Calls C.prog g args W λe W'=>∃v,e= .returned v/\s.post enc C.prog fn aq ak aq aq W args v W':=by
 have hW':=hW;obtain⟨p,q,hA,hV,rfl,hfz,Hk⟩:=hW;have jD:=hW'.lt;rw[QM]at hV;have hgs:gs=[]/\q=[]:=by
  cases gs with
  |nil=>exact⟨rfl,hV⟩
  |cons=>exact hV.elim
 obtain⟨rfl,rfl⟩:=hgs;have hw:∀m∈my C.prog fn.params.toList ds,m<=reachBytes:=by
  intro m hm;rw[di]at fT;have e:s.plain.varTypes C.prog=[]:=by unfold DataSpec.varTypes ChangeSpec.plain;simp[QM]
  rw[e,di]at fT;have:=bn.1 fT m hm;simpa using this
 obtain⟨rq,U4,hlen,hdl,rB⟩:=Ut hE afl hA (λj t v hj hv=>hval j t v (by simpa using hj) (by simpa using hv)) hw;let nl:Pl:=⟨ak,0,0,0,0,0⟩
 let c1:eK:=⟨λ_=>nl,λ_ _ _=>nl,Cc W⟩
 have b8:Ok T (inj (nB T fn.params.toList rq)) W c1:=⟨λnm o h=>cq h na,λnm o v7 o' b h=>cq h na,λnm o b h=>cq h na,λb hb=>hb,λnm xs h=>cq h na⟩
 obtain⟨_,hc⟩:=hF _ _ (claim rq U4) W c1 args b8 (by rw[<-hlen];simp) (λp x hx=>by obtain⟨v,h1,h2⟩:=rB c1 (λ_ h=>h) 0 p x hx;rw[bT]at h2;exact⟨v,by simpa using h1,h2⟩);refine hc.mono λe W' hR=> ?_;cases e with
 |panicked=>exact hR.elim
 |outgrown=>exact hR.elim
 |returned v=>
  obtain⟨c3,_,wJ,_,wK⟩:=hR;have hv:v= .bool true:=wK;subst hv;have hb:Below W.heap.size W W':=⟨wJ.os,wJ.tape,wJ.output,wJ.size,λk hk=>wJ.same k hk (λ⟨nm,o,h,_⟩=>na h)⟩
  have QK:=hfn ds hdl;refine⟨_,rfl,ds,[],_,[],p,[],hW', ?_, ?_, ?_,hb.frame _,λh=>by cases h⟩
  ·rw[di,QK,am2];exact trodAll_mk1 (shut_bool htb _)
  ·rw[di,QK];exact FI hl hb afl hA (λx hx=>jD x (bN _ hx))
  ·rw[di,QK,QM];rfl
end Go.FG

namespace Go.FG
def iH(s:au)(i:aG):aG:=(s.data.getD i 0).toNat
abbrev bM(x:aA):aA:=ar.wrap x
inductive gn where
 |I (n:aA)|B (x:aY)|S (x:au)|R (xs:aX)|N (n:aG)
def gI:az gn->aA| .I n::_=>n|_=>0
def gB:az gn->aY| .B n::_=>n|_=>aq
def gS:az gn->au| .S n::_=>n|_=>⟨#[]⟩
def gR:az gn->aX| .R n::_=>n|_=>[]
def gN:az gn->aG| .N n::_=>n|_=>0
def hCV:CV->az gn
 | .i _ n=>[.I n]| .b x=>[.B x]| .s x=>[.S x]| .l _ xs=>[.R xs]
def sCV:CV->CV->aY
 | .i k _, .i k' _=>decide (k=k')| .b _, .b _=>ak| .s _, .s _=>ak| .l e _, .l e' _=>bA e e'|_,_=>aq
def fCV(s:CV)(l:az gn):CV×az gn:=
 match s with
 | .i k _=>(.i k (gI l),l.tail)| .b _=>(.b (gB l),l.tail)| .s _=>(.s (gS l),l.tail)| .l e _=>(.l e (gR l),l.tail)
def Hb:az CV->az gn|[]=>[]|a::r=>hCV a++Hb r
def Fy:az CV->az CV->aY|[],[]=>ak|a::r,b::t=>sCV a b&&Fy r t|_,_=>aq
def xT:az CV->az gn->az CV×az gn
 |[],l=>([],l)|a::r,l=>((fCV a l).1::(xT r (fCV a l).2).1,(xT r (fCV a l).2).2)
def Dt:az (az CV)->az gn|[]=>[]|a::r=>Hb a++Dt r
def DL:az (az CV)->az (az CV)->aY|[],[]=>ak|a::r,b::t=>Fy a b&&DL r t|_,_=>aq
def yS:az (az CV)->az gn->az (az CV)×az gn
 |[],l=>([],l)|a::r,l=>((xT a l).1::(yS r (xT a l).2).1,(yS r (xT a l).2).2)
theorem aba{s a:CV}(h:sCV s a=ak)(l:az gn):fCV s (hCV a++l)=(a,l):=by
 cases s<;>cases a<;>simp only[sCV,bf,dj,Nat.beq_eq]at h<;>first|exact h.elim|skip
 all_goals first|(subst h;rfl)|rfl
theorem vO:∀{s a:az CV},Fy s a=ak->∀l,xT s (Hb a++l)=(a,l)
 |[],[],_,l=>rfl
 |s::ss,a::as,h,l=>by
  simp only[Fy,aK]at h;simp only[xT,Hb,cj,aba h.1,vO h.2]
 |[],_::_,h,_=>by cases h
 |_::_,[],h,_=>by cases h
theorem A0:∀{s a:az (az CV)},DL s a=ak->∀l,yS s (Dt a++l)=(a,l)
 |[],[],_,l=>rfl
 |s::ss,a::as,h,l=>by
  simp only[DL,aK]at h;simp only[yS,Dt,cj,vO h.1,A0 h.2]
 |[],_::_,h,_=>by cases h
 |_::_,[],h,_=>by cases h
def hAV:AV->az gn
 | .i _ n=>[.I n]| .b x=>[.B x]| .s x=>[.S x]| .sh _ xs=>[.R xs]| .vw _ lo hi=>[.N lo, .N hi]| .rp _ i _=>[.N i]
 | .sp _ xs i _=>[.R xs, .N i]| .inn _ i _=>[.N i]| .ip _ i _ i2 _=>[.N i, .N i2]| .fn _ iA=>Dt iA| .fp xs _=>Hb xs|_=>[]
def WR:AV->AV->aY
 | .i k _, .i k' _=>decide (k=k')| .b _, .b _=>ak| .s _, .s _=>ak| .sh e _, .sh e' _=>bA e e'| .nl, .nl=>ak
 | .own n, .own n'=>bA n n'| .vw n _ _, .vw n' _ _=>bA n n'| .bp n j, .bp n' j'=>bA n n'&&bA j j'| .rp n _ j, .rp n' _ j'=>bA n n'&&bA j j'
 | .sp e _ _ j, .sp e' _ _ j'=>bA e e'&&bA j j'| .inn n _ j, .inn n' _ j'=>bA n n'&&bA j j'
 | .ip n _ j _ q, .ip n' _ j' _ q'=>bA n n'&&bA j j'&&bA q q'| .fn f c, .fn f' c'=>bA f f'&&DL c c'| .fp c j, .fp c' j'=>bA j j'&&Fy c c'
 |_,_=>aq
def fAV(s:AV)(l:az gn):AV×az gn:=
 match s with
 | .i k _=>(.i k (gI l),l.tail)| .b _=>(.b (gB l),l.tail)| .s _=>(.s (gS l),l.tail)| .sh e _=>(.sh e (gR l),l.tail)
 | .vw n _ _=>(.vw n (gN l) (gN l.tail),l.tail.tail)| .rp n _ j=>(.rp n (gN l) j,l.tail)| .sp e _ _ j=>(.sp e (gR l) (gN l.tail) j,l.tail.tail)
 | .inn n _ j=>(.inn n (gN l) j,l.tail)| .ip n _ j _ q=>(.ip n (gN l) j (gN l.tail) q,l.tail.tail)| .fn f c=>(.fn f (yS c l).1,(yS c l).2)| .fp c j=>(.fp (xT c l).1 j,(xT c l).2)
 |a=>(a,l)
def M5:az AV->az gn|[]=>[]|a::r=>hAV a++M5 r
def J7:az AV->az AV->aY|[],[]=>ak|a::r,b::t=>WR a b&&J7 r t|_,_=>aq
def AZ:az AV->az gn->az AV×az gn
 |[],l=>([],l)|a::r,l=>((fAV a l).1::(AZ r (fAV a l).2).1,(AZ r (fAV a l).2).2)
def UG(a b:aY):aY:=bif a then b else !b
def UR:az (aY×az AV)->az gn|[]=>[]|(_,xs)::r=>M5 xs++UR r
def Sl:az (aY×az AV)->az (aY×az AV)->aY
 |[],[]=>ak|(g,xs)::r,(g',ys)::t=>UG g g'&&J7 xs ys&&Sl r t|_,_=>aq
def MW:az (aY×az AV)->az gn->az (aY×az AV)×az gn
 |[],l=>([],l)|(g,xs)::r,l=>((g,(AZ xs l).1)::(MW r (AZ xs l).2).1,(MW r (AZ xs l).2).2)
def M6:eu->az gn
 | .v (.v _ xs)=>M5 xs| .v (.jc l)=>UR l| .o (.box xs)=>M5 xs| .o (.nC cs)=>Hb cs| .o (.row _ _ xs)=>[.R xs]| .o (.fE _ xs)=>[.R xs]|_=>[]
def WT:eu->eu->aY
 | .v (.v g xs), .v (.v g' ys)=>UG g g'&&J7 xs ys| .v (.jc l), .v (.jc r)=>Sl l r| .v .un, .v .un=>ak
 | .o (.box xs), .o (.box ys)=>J7 xs ys| .o (.nC c), .o (.nC c')=>Fy c c'| .o (.row e x _), .o (.row e' x' _)=>bA e e'&&UG x x'| .o (.fE e _), .o (.fE e' _)=>bA e e'
 | .o .dead, .o .dead=>ak| .jE, .jE=>ak|_,_=>aq
def Jj(c:eu)(l:az gn):eu×az gn:=
 match c with
 | .v (.v g xs)=>(.v (.v g (AZ xs l).1),(AZ xs l).2)| .v (.jc r)=>(.v (.jc (MW r l).1),(MW r l).2)
 | .o (.box xs)=>(.o (.box (AZ xs l).1),(AZ xs l).2)| .o (.nC c)=>(.o (.nC (xT c l).1),(xT c l).2)| .o (.row e x _)=>(.o (.row e x (gR l)),l.tail)| .o (.fE e _)=>(.o (.fE e (gR l)),l.tail)
 |c=>(c,l)
def Hm:az (aG×eu)->az gn|[]=>[]|(_,c)::r=>M6 c++Hm r
def yv:az (aG×eu)->az (aG×eu)->aY
 |[],[]=>ak|(k,c)::r,(k',c')::t=>bA k k'&&WT c c'&&yv r t|_,_=>aq
def Li:az (aG×eu)->az gn->az (aG×eu)
 |[],_=>[]|(k,c)::r,l=>(k,(Jj c l).1)::Li r (Jj c l).2
theorem AX{a b:aY}(h:UG a b=ak):a=b:=by cases a<;>cases b<;>first|rfl|cases h
theorem aa_{s a:AV}(h:WR s a=ak)(l:az gn):fAV s (hAV a++l)=(a,l):=by
 match s,a,h with
 | .fn f c, .fn f' c',h=>simp only[WR,aK]at h;have h1:=aW h.1;subst h1;simp only[fAV,hAV,A0 h.2]
 | .fp c j, .fp c' j',h=>simp only[WR,aK]at h;have h1:=aW h.1;subst h1;simp only[fAV,hAV,vO h.2]
 | .i k _, .i k' _,h=>have h1:=b9 (show decide (k=k')=ak from h);subst h1;rfl
 | .b _, .b _,_=>rfl
 | .s _, .s _,_=>rfl
 | .sh e _, .sh e' _,h=>have h1:=aW (show bA e e'=ak from h);subst h1;rfl
 | .nl, .nl,_=>rfl
 | .own n, .own n',h=>have h1:=aW (show bA n n'=ak from h);subst h1;rfl
 | .vw n _ _, .vw n' _ _,h=>have h1:=aW (show bA n n'=ak from h);subst h1;rfl
 | .bp n j, .bp n' j',h=>simp only[WR,aK]at h;have h1:=aW h.1;have h2:=aW h.2;subst h1;subst h2;rfl
 | .rp n _ j, .rp n' _ j',h=>simp only[WR,aK]at h;have h1:=aW h.1;have h2:=aW h.2;subst h1;subst h2;rfl
 | .sp n _ _ j, .sp n' _ _ j',h=>simp only[WR,aK]at h;have h1:=aW h.1;have h2:=aW h.2;subst h1;subst h2;rfl
 | .inn n _ j, .inn n' _ j',h=>simp only[WR,aK]at h;have h1:=aW h.1;have h2:=aW h.2;subst h1;subst h2;rfl
 | .ip n _ j _ q, .ip n' _ j' _ q',h=>simp only[WR,aK]at h;have h1:=aW h.1.1;have h2:=aW h.1.2;have h3:=aW h.2;subst h1;subst h2;subst h3;rfl
theorem zO:∀{s a:az AV},J7 s a=ak->∀l,AZ s (M5 a++l)=(a,l)
 |[],[],_,l=>rfl
 |s::ss,a::as,h,l=>by
  simp only[J7,aK]at h;simp only[AZ,M5,cj,aa_ h.1,zO h.2]
 |[],_::_,h,_=>by cases h
 |_::_,[],h,_=>by cases h
theorem Lf:∀{s a:az (aY×az AV)},Sl s a=ak->∀l,MW s (UR a++l)=(a,l)
 |[],[],_,l=>rfl
 |(g,xs)::ss,(g',ys)::as,h,l=>by
  simp only[Sl,aK]at h;obtain⟨⟨h1,h2⟩,h3⟩:=h;have h1:=AX h1;subst h1;simp only[MW,UR,cj,zO h2,Lf h3]
 |[],_::_,h,_=>by cases h
 |_::_,[],h,_=>by cases h
theorem UL{s c:eu}(h:WT s c=ak)(l:az gn):Jj s (M6 c++l)=(c,l):=by
 match s,c,h with
 | .v (.v g xs), .v (.v g' ys),h=>simp only[WT,aK]at h;have h1:=AX h.1;subst h1;simp only[Jj,M6,zO h.2]
 | .v (.jc r), .v (.jc r'),h=>simp only[Jj,M6,Lf (show Sl r r'=ak from h)]
 | .v .un, .v .un,_=>rfl
 | .o (.box xs), .o (.box ys),h=>simp only[Jj,M6,zO (show J7 xs ys=ak from h)]
 | .o (.nC c), .o (.nC c'),h=>simp only[Jj,M6,vO (show Fy c c'=ak from h)]
 | .o (.row e x _), .o (.row e' x' _),h=>simp only[WT,aK]at h;have h1:=AX h.2;have h2:=aW h.1;subst h1;subst h2;rfl
 | .o (.fE e _), .o (.fE e' _),h=>have h2:=aW h;subst h2;rfl
 | .o .dead, .o .dead,_=>rfl
 | .jE, .jE,_=>rfl
theorem G5:∀{S L:az (aG×eu)},yv S L=ak->Li S (Hm L)=L
 |[],[],_=>rfl
 |(k,s)::S,(k',c)::L,h=>by
  simp only[yv,aK]at h;obtain⟨⟨h1,h2⟩,h3⟩:=h;have h1:=aW h1;subst h1;simp only[Li,Hm,UL h2,G5 h3]
 |[],_::_,h=>by cases h
 |_::_,[],h=>by cases h
def tell{R:Type}(S:az (aG×eu))(H:az gn->aD R)(L:az (aG×eu))(other:aD R):aD R:=bif yv S L then H (Hm L)else other
def Q4:az (aG×az aG)->aG->az aG
 |[],_=>[]|(k,l)::r,n=>bif bA n k then l else Q4 r n
def ag5:az (aG×aG×Om)->aG->aG->Om
 |[],_,_=> .nat|(q,j,o)::r,n,m=>bif bA n q&&bA m j then o else ag5 r n m
def Rg:az (aG×aG)->aG->aG->aY
 |[],_,_=>aq|(f,p)::r,n,m=>(bA n f&&bA m p)||Rg r n m
def ag_:az (aG×aG)->aG->aD aG
 |[],_=>ao|(k,e)::r,n=>bif bA n k then aj e else ag_ r n
theorem bV{p:Code->Prop}:∀c∈([]:az Code),p c:=λc h=>by cases h
theorem bz{p:Code->Prop}{c:Code}{l:az Code}(h:p c)(hl:∀d∈l,p d):∀d∈c::l,p d:=λd hd=>by
 rcases cz.1 hd with rfl|hd
 ·exact h
 ·exact hl d hd
def pP:az (aG×(az eR->aD (aY×dM)))->aG->az eR->aD (aY×dM)
 |[],_,_=>ao
 |(k,s)::r,g,a=>bif bA g k then(match s a with|some x=>aj x|none=>pP r g a)else pP r g a
theorem bh{P:cQ}{T:Tab}:∀g,la P T g (pP [] g):=λg=>MY λ_=>rfl
theorem aN{P:cQ}{T:Tab}{k:aG}{s:az eR->aD (aY×dM)}{L:az (aG×(az eR->aD (aY×dM)))}(h:la P T k s)(hl:∀g,la P T g (pP L g)):∀g,la P T g (pP ((k,s)::L) g):=by
 intro g;cases hb:bA g k with
 |true=>
  have:=aW hb;subst this;intro args r hr;unfold pP at hr;rw[hb,ay]at hr;cases hs:s args with
  |some x=>rw[hs]at hr;exact h args r (hs.trans hr)
  |none=>rw[hs]at hr;exact hl g args r hr
 |false=>
  have e:pP ((k,s)::L) g=pP L g:=by funext a;simp only[pP,hb,aC]
  rw[e];exact hl g
def mkE(T:Tab)(md:az (aG×aG))(cs:az (aG×(az eR->aD (aY×dM))))(ks:az (aG×az aG))(tk:az aG)(om:az (aG×aG×Om)):fB:={toTab:=T,call:=pP cs,mode:=Rg md,keep:=Q4 ks,tk:=λn=>l_ n tk,om:=ag5 om}
end Go.FG

namespace Go.FG
theorem Ki{T:Tab}{t:aG}{ts:az aG}{rq:az (az CV)}(h:oD T (t::ts) rq):∃ys ail,rq=ys::ail/\(∃ti,T.ty t=aj ti/\ys.map CV.kd=ti.ks)/\(∀y∈ys,qG T y)/\oD T ts ail:=by
 cases rq with
 |nil=>exact h.elim
 |cons ys rq=>exact⟨ys,rq,rfl,h.1,h.2.1,h.2.2⟩
theorem NV{T:Tab}{rq:az (az CV)}(h:oD T [] rq):rq=[]:=by
 cases rq with
 |nil=>rfl
 |cons=>exact h.elim
theorem Vm{T:Tab}{k:Ck}{ks:az Ck}{ys:az CV}(h:ys.map CV.kd=k::ks)(hf:∀y∈ys,qG T y):∃y Cb,ys=y::Cb/\y.kd=k/\qG T y/\Cb.map CV.kd=ks/\∀y∈Cb,qG T y:=by
 cases ys with
 |nil=>cases h
 |cons y ys=>rw[eW,XO]at h;exact⟨y,ys,rfl,h.1,hf y (du ..),h.2,λz hz=>hf z (cU _ hz)⟩
theorem abT{ys:az CV}(h:ys.map CV.kd=[]):ys=[]:=by simpa using h
theorem ao5{T:Tab}{e:aG}{y:CV}(h:y.kd= .l e)(hf:qG T y):∃xs,y= .l e xs/\qG T (.l e xs):=by cases y<;>simp[CV.kd]at h;subst h;exact⟨_,rfl,hf⟩
theorem jQ{x:aA}(h1: -9223372036854775808<=x)(h2:x<=9223372036854775807):bM x=x:=by
 have e:bM x=if(decide (x%18446744073709551616≥9223372036854775808))=ak then x%18446744073709551616-18446744073709551616 else x%18446744073709551616:=rfl
 rw[e];by_cases h:x%18446744073709551616≥9223372036854775808
 ·rw[bC (aJ h)];omega
 ·rw[bL (by simpa using h)];omega
end Go.FG

namespace Go.FG
inductive Ho where|I|B|S|R|N
abbrev den:Ho->Type
 | .I=>aA| .B=>aY| .S=>au| .R=>aX| .N=>aG
abbrev Fn:az Ho->Type->Type
 |[],A=>A|h::s,A=>den h->Fn s A
abbrev Tu:az Ho->Type
 |[]=>Unit|h::s=>den h×Tu s
abbrev Pr:az Ho->Type
 |[]=>Unit|[h]=>den h|h::s=>den h×Pr s
def df:(h:Ho)->den h
 | .I=>(0:aA)| .B=>aq| .S=>(⟨#[]⟩:au)| .R=>([]:aX)| .N=>(0:aG)
def lf:(h:Ho)->den h->gn
 | .I,x=> .I x| .B,x=> .B x| .S,x=> .S x| .R,x=> .R x| .N,x=> .N x
def ap{A:Type}:(s:az Ho)->Fn s A->Tu s->A
 |[],f,_=>f|_::s,f,x=>ap s (f x.1) x.2
def cmp{A B:Type}:(s:az Ho)->Fn s A->(A->B)->Fn s B
 |[],f,g=>g f|_::s,f,g=>λy=>cmp s (f y) g
def La{A:Type}:(s:az Ho)->Fn s A->A
 |[],f=>f|h::s,f=>La s (f (df h))
def lv:(s:az Ho)->Tu s->az gn
 |[],_=>[]|h::s,x=>lf h x.1::lv s x.2
def Uq{A:Type}:(s:az Ho)->Fn s (aD A)->az gn->aD A
 |[],f,[]=>f
 | .I::s,f, .I x::l=>Uq s (f x) l| .B::s,f, .B x::l=>Uq s (f x) l| .S::s,f, .S x::l=>Uq s (f x) l
 | .R::s,f, .R x::l=>Uq s (f x) l| .N::s,f, .N x::l=>Uq s (f x) l
 |_,_,_=>ao
def jc:(s:az Ho)->Fn s (Pr s)
 |[]=>()|[_]=>λx=>x|_::h::s=>λx=>cmp (h::s) (jc (h::s)) λp=>(x,p)
def apP{A:Type}:(s:az Ho)->Fn s A->Pr s->A
 |[],f,_=>f|[_],f,p=>f p|_::h::s,f,p=>apP (h::s) (f p.1) p.2
theorem AG{A:Type}{s:az Ho}{f:Fn s (aD A)}{l:az gn}{a:A}(h:Uq s f l=aj a):∃x,l=lv s x/\ap s f x=aj a:=by
 induction s generalizing l with
 |nil=>cases l with
  |nil=>exact⟨(),rfl,h⟩
  |cons=>cases h
 |cons k s ih=>
  cases l with
  |nil=>cases k<;>cases h
  |cons y l=>cases k<;>cases y<;>first|(obtain⟨x,rfl,hx⟩:=ih h;exact⟨(_,x),rfl,hx⟩)|cases h
theorem AH{A B:Type}{s:az Ho}(f:Fn s A)(g:A->B)(x:Tu s):ap s (cmp s f g) x=g (ap s f x):=by
 induction s with
 |nil=>rfl
 |cons k s ih=>exact ih _ _
theorem aaR{A:Type}{s:az Ho}{f g:Fn s A}(h:∀x,ap s f x=ap s g x):f=g:=by
 induction s with
 |nil=>exact h ()
 |cons k s ih=>exact funext λy=>ih λx=>h (y,x)
theorem Ur{A:Type}{s:az Ho}(f:Fn s A)(x:Tu s):apP s f (ap s (jc s) x)=ap s f x:=by
 induction s with
 |nil=>rfl
 |cons k s ih=>
  cases s with
  |nil=>rfl
  |cons h s=>exact(ml (apP (k::h::s) f) (AH ..)).trans (ih ..)
def hAA:AA->az gn
 | .i _ n=>[.I n]| .b x=>[.B x]| .s x=>[.S x]| .sh _ xs=>[.R xs]| .ow _ _ xs=>[.R xs]| .kp xs=>[.R xs]| .fn _ c=>Dt c| .nl=>[]
def sAA:AA->AA->aY
 | .i k _, .i k' _=>decide (k=k')| .b _, .b _=>ak| .s _, .s _=>ak| .sh e _, .sh e' _=>bA e e'| .ow e x _, .ow e' x' _=>bA e e'&&UG x x'
 | .kp _, .kp _=>ak| .fn f c, .fn f' c'=>bA f f'&&DL c c'| .nl, .nl=>ak|_,_=>aq
def fAA(s:AA)(l:az gn):AA×az gn:=
 match s with
 | .i k _=>(.i k (gI l),l.tail)| .b _=>(.b (gB l),l.tail)| .s _=>(.s (gS l),l.tail)| .sh e _=>(.sh e (gR l),l.tail)| .ow e x _=>(.ow e x (gR l),l.tail)
 | .kp _=>(.kp (gR l),l.tail)| .fn f c=>(.fn f (yS c l).1,(yS c l).2)| .nl=>(.nl,l)
def Jt:az AA->az gn|[]=>[]|a::r=>hAA a++Jt r
def J6:az AA->az AA->aY|[],[]=>ak|a::r,b::t=>sAA a b&&J6 r t|_,_=>aq
def G4:az AA->az gn->az AA×az gn
 |[],l=>([],l)|a::r,l=>((fAA a l).1::(G4 r (fAA a l).2).1,(G4 r (fAA a l).2).2)
def Ju:eR->az gn
 | .v _ xs=>Jt xs| .pt xs=>Jt xs| .fb xs=>Hb xs
def NQ:eR->eR->aY
 | .v g xs, .v g' ys=>UG g g'&&J6 xs ys| .pt xs, .pt ys=>J6 xs ys| .fb xs, .fb ys=>Fy xs ys|_,_=>aq
def Ji(s:eR)(l:az gn):eR×az gn:=
 match s with
 | .v g xs=>(.v g (G4 xs l).1,(G4 xs l).2)| .pt xs=>(.pt (G4 xs l).1,(G4 xs l).2)| .fb xs=>(.fb (xT xs l).1,(xT xs l).2)
def hAr:az eR->az gn|[]=>[]|a::r=>Ju a++hAr r
def WS:az eR->az eR->aY|[],[]=>ak|a::r,b::t=>NQ a b&&WS r t|_,_=>aq
def UJ:az eR->az gn->az eR×az gn
 |[],l=>([],l)|a::r,l=>((Ji a l).1::(UJ r (Ji a l).2).1,(UJ r (Ji a l).2).2)
def HM(l:az (az AA)):az eR:=l.map (.v ak)
theorem aa9{s a:AA}(h:sAA s a=ak)(l:az gn):fAA s (hAA a++l)=(a,l):=by
 cases s<;>cases a<;>simp only[sAA,bf,dj,Nat.beq_eq,aK]at h<;>first|exact h.elim|skip
 all_goals first|rfl|(subst h;rfl)|(obtain⟨rfl,h⟩:=h;first|(obtain rfl:=AX h;rfl)|(simp only[fAA,hAA,A0 h]))
theorem ER:∀{s a:az AA},J6 s a=ak->∀l,G4 s (Jt a++l)=(a,l)
 |[],[],_,l=>rfl
 |s::ss,a::as,h,l=>by
  simp only[J6,aK]at h;simp only[G4,Jt,cj,aa9 h.1,ER h.2]
theorem UK{s a:eR}(h:NQ s a=ak)(l:az gn):Ji s (Ju a++l)=(a,l):=by
 cases s<;>cases a<;>simp only[NQ,dj,aK]at h
 ·obtain⟨h1,h⟩:=h;obtain rfl:=AX h1;simp only[Ji,Ju,ER h]
 ·simp only[Ji,Ju,ER h]
 ·simp only[Ji,Ju,vO h]
theorem Jh:∀{s a:az eR},WS s a=ak->∀l,UJ s (hAr a++l)=(a,l)
 |[],[],_,l=>rfl
 |s::ss,a::as,h,l=>by
  simp only[WS,aK]at h;simp only[UJ,hAr,cj,UK h.1,Jh h.2]
theorem Qi{s a:az eR}(h:WS s a=ak):(UJ s (hAr a)).1=a:=by have:=Jh h [];rw[di]at this;rw[this]
def xAA{B:Type}(s a:AA)(k:az gn->aD B):aD B:=
 match s,a with
 | .i k1 _, .i k2 n=>bif decide (k1=k2)then k [.I n]else ao
 | .b _, .b n=>k [.B n]
 | .s _, .s n=>k [.S n]
 | .sh e _, .sh e' n=>bif bA e e' then k [.R n]else ao
 | .ow e x _, .ow e' x' n=>bif bA e e'&&UG x x' then k [.R n]else ao
 | .kp _, .kp n=>k [.R n]
 | .fn f c, .fn f' c'=>bif bA f f'&&DL c c' then k (Dt c')else ao
 | .nl, .nl=>k []
 |_,_=>ao
def Tp{B:Type}:az AA->az AA->(az gn->aD B)->aD B
 |[],[],k=>k []|s::ss,a::as,k=>xAA s a λl=>Tp ss as λr=>k (l++r)|_,_,_=>ao
def ac1{B:Type}(s a:eR)(k:az gn->aD B):aD B:=
 match s,a with
 | .v g xs, .v g' ys=>bif UG g g' then Tp xs ys k else ao
 | .pt xs, .pt ys=>Tp xs ys k
 | .fb xs, .fb ys=>bif Fy xs ys then k (Hb ys)else ao
 |_,_=>ao
def xAr{B:Type}:az eR->az eR->(az gn->aD B)->aD B
 |[],[],k=>k []|s::ss,a::as,k=>ac1 s a λl=>xAr ss as λr=>k (l++r)|_,_,_=>ao
theorem ac0{B:Type}(s a:AA)(k:az gn->aD B):xAA s a k=bif sAA s a then k (hAA a)else none:=by cases s<;>cases a<;>rfl
theorem Mq{B:Type}:∀(s a:az AA) (k:az gn->aD B),Tp s a k=bif J6 s a then k (Jt a)else ao
 |[],[],_=>rfl
 |s::ss,a::as,k=>by
  simp only[Tp,ac0,Mq ss as,J6,Jt];cases sAA s a<;>rfl
 |[],_::_,_=>rfl
 |_::_,[],_=>rfl
theorem W7{B:Type}(s a:eR)(k:az gn->aD B):ac1 s a k=bif NQ s a then k (Ju a)else none:=by
 cases s<;>cases a<;>simp only[ac1,NQ,Ju,Mq]<;>try rfl
 rename_i g xs g' ys;cases UG g g'<;>rfl
theorem FM{B:Type}:∀(s a:az eR) (k:az gn->aD B),xAr s a k=bif WS s a then k (hAr a)else ao
 |[],[],_=>rfl
 |s::ss,a::as,k=>by
  simp only[xAr,W7,FM ss as,WS,hAr];cases NQ s a<;>rfl
 |[],_::_,_=>rfl
 |_::_,[],_=>rfl
def aae{A:Type}(s:az Ho)(T:Fn s (az eR))(f:Fn s (aD A))(a:az eR):aD A:=xAr (La s T) a (Uq s f)
def ac5(s t:az Ho)(k:Fn t dM)(c:Fn s aY)(v:Fn s (Pr t)):Fn s (aD (aY×dM)):=
 match s with
 |[]=>aj (c,apP t k v)
 |_::s=>λx=>ac5 s t k (c x) (v x)
theorem Xj{s t:az Ho}{k:Fn t dM}{c:Fn s aY}{v:Fn s (Pr t)}(x:Tu s):ap s (ac5 s t k c v) x=aj (ap s c x,apP t k (ap s v x)):=by
 induction s with
 |nil=>rfl
 |cons h s ih=>exact ih _
def eG{s t:az Ho}(A:Fn s (az eR))(k:Fn t dM)(c:Fn s aY)(v:Fn s (Pr t)):az eR->aD (aY×dM):=aae s A (ac5 s t k c v)
def Uy{t:az Ho}(k:Fn t dM)(r:dM):aD (Pr t):=
 xAr (La t k).rs r.rs λl=>xAr (HM (La t k).outs) (HM r.outs) λm=>Uq t (cmp t (jc t) aj) (l++m)
def okA{s:az Ho}(A:Fn s (az eR)):Prop:=∀x,(UJ (La s A) (lv s x)).1=ap s A x
def okK{t:az Ho}(k:Fn t dM):Prop:=∀x,(⟨(UJ (La t k).rs (lv t x)).1,(UJ (HM (La t k).outs) (UJ (La t k).rs (lv t x)).2).1⟩:az eR×az eR)=⟨(ap t k x).rs,HM (ap t k x).outs⟩
def okT{s:az Ho}(T:Fn s (az (aG×eu))):Prop:=∀x,Li (La s T) (lv s x)=ap s T x
theorem HN:∀{a b:az (az AA)},HM a=HM b->a=b
 |[],[],_=>rfl
 |_::_,_::_,h=>by
  obtain⟨h1,h2⟩:=mb h;obtain⟨_,rfl⟩:=eR.v.inj h1;rw[HN h2]
 |[],_::_,h=>by cases h
 |_::_,[],h=>by cases h
theorem MR{t:az Ho}{k:Fn t dM}(hk:okK k){r:dM}{p:Pr t}(h:Uy k r=aj p):r=apP t k p:=by
 unfold Uy at h;rw[FM]at h;cases hb:WS (La t k).rs r.rs with
 |false=>rw[hb]at h;cases h
 |true=>
  rw[hb,ay,FM]at h;cases hc:WS (HM (La t k).outs) (HM r.outs)with
  |false=>rw[hc]at h;cases h
  |true=>rw[hc,ay]at h;obtain⟨x,h1,h2⟩:=AG h;rw[AH]at h2;obtain rfl:=aF h2;rw[Ur];have hx:=hk x;rw[<-h1,Jh hb,Qi hc]at hx;obtain⟨e1,e2⟩:=bU hx;have e3:=HN e2;cases r;cases hr:ap t k x;rw[hr]at e1 e3;cases e1;cases e3;rfl
theorem H7{s t:az Ho}{A:Fn s (az eR)}(hA:okA A){k:Fn t dM}{c:Fn s aY}{v:Fn s (Pr t)}{args:az eR}{r:aY×dM}(h:eG A k c v args=aj r):∃x,args=ap s A x/\r=(ap s c x,apP t k (ap s v x)):=by
 unfold eG aae at h;rw[FM]at h;cases hb:WS (La s A) args with
 |false=>rw[hb]at h;cases h
 |true=>rw[hb,ay]at h;obtain⟨x,h1,h2⟩:=AG h;rw[Xj]at h2;exact⟨x,by rw[<-hA x,<-h1,Qi hb],(aF h2).symm⟩
def AM{t:az Ho}(E:fB)(it:It (Pr t))(F:Func)(k:Fn t dM)(args:az eR):aD (Pr t):=
 match F.body with
 |some c=>sq E it c (inj args) λe σ=>(fin E F args e σ).bind (Uy k)
 |none=>ao
def GR(F:Func)(A:az eR):aY:=
 (match F.body with|some c=> !(F.name== "runtime.NumGoroutine")&&sj F.ntmps c|none=>aq)&&yw A&&e9 A.length F.ntmps
theorem flh{P:cQ}{E:fB}(hE:dZ P E)(hm:P.follows .mixedOrders=ak)(hF:∀g,la P E g (E.call g)){g:aG}{F:Func}(hf:P.funcs[g]? =aj F){s t:az Ho}{A:Fn s (az eR)}{k:Fn t dM}{it:aG->It (Pr t)}
  (hc:∀x,GR F (ap s A x)=ak) {l:az Code} (hl:jA (F.body.getD .skip)=l) (A_:∀N,∀c∈l,cB E (it N) c) (hA:okA A) (hk:okK k)
  {c:Fn s aY} {v:Fn s (Pr t)} (h:∀x,vR (ap s A x)->ap s c x=ak->∃N,AM E (it N) F k (ap s A x)=aj (ap s v x)):la P E g (eG A k c v):=by
 intro args r hr;obtain⟨x,rfl,_⟩:=H7 hA hr;have hx:=hc x;unfold GR at hx;cases hb:F.body with
 |none=>rw[hb]at hx;cases hx
 |some code=>
  rw[hb]at hl hx;have hl:jA code=l:=hl;simp only[aK,dD]at hx;refine abd hE hF hm hf hb (by rw[hx.1.1.1,hx.1.1.2];rfl) (λargs r hr=> ?_) _ r hr;obtain⟨x,rfl,hq⟩:=H7 hA hr;obtain⟨h1,rfl⟩:=bU hq;have hx:=hc x;unfold GR at hx;simp only[aK]at hx;refine⟨hx.1.2,λhf=> ?_⟩
  obtain⟨N,h⟩:=h x hf h1.symm;refine⟨cC hx.2,Pr t,it N,λe σ=>(fin E F (ap s A x) e σ).bind (Uy k),ap s v x,by rw[hl];exact A_ N, ?_,λe σ he=> ?_⟩
  ·unfold AM at h;rw[hb]at h;exact h
  ·obtain⟨r,hr,hd⟩:=Option.bind_eq_some_iff.1 he;rw[hr,MR hk hd]
theorem aaS{s t:az Ho}{c:Fn s aY}{v:Fn s (Pr t)}{w:Fn s (aD (Pr t))}{d:Pr t}(hc:cmp s w mU=c)(hv:cmp s w (λo=>o.getD d)=v)(x:Tu s)(h:ap s c x=ak):ap s w x=aj (ap s v x):=by
 subst hc hv;rw[AH]at h;rw[AH];cases hw:ap s w x with
 |none=>rw[hw]at h;cases h
 |some y=>rfl
theorem fl{P:cQ}{E:fB}(hE:dZ P E)(hm:P.follows .mixedOrders=ak)(hF:∀g,la P E g (E.call g)){g:aG}{F:Func}(hf:P.funcs[g]? =aj F){s t:az Ho}{A:Fn s (az eR)}{k:Fn t dM}{it:aG->It (Pr t)}
  (hc:∀x,GR F (ap s A x)=ak) {l:az Code} (hl:jA (F.body.getD .skip)=l) (A_:∀N,∀c∈l,cB E (it N) c) (hA:okA A) (hk:okK k)
  {c:Fn s aY} {v:Fn s (Pr t)} {w:aG->Fn s (aD (Pr t))} {u:Fn s (aD (Pr t))} {d:Pr t} (N:aG) (h:∀N x,AM E (it N) F k (ap s A x)=ap s (w N) x) (hw:w N=u) (h1:cmp s u mU=c) (h2:cmp s u (λo=>o.getD d)=v):la P E g (eG A k c v):=
 flh hE hm hF hf hc hl A_ hA hk λx _ hx=>⟨N,(h N x).trans (by rw[hw];exact aaS h1 h2 x hx)⟩
def ct:(s:az Ho)->Fn s aY
 |[]=>ak|_::s=>λ_=>ct s
abbrev Kt(R:Type):=Ex->St->aD R
abbrev Tb:=az (aG×eu)
def J{R:Type}{s:az Ho}(T:Fn s Tb)(e:Ex)(K:Kt R):Fn s (aD R):=cmp s T λt=>K e (fK t)
def al{R:Type}{s:az Ho}(T:Fn s Tb)(f:Kt R->Fn s (aD R))(o:Tb->Kt R->aD R):Tb->Kt R->aD R:=λL K=>bif yv (La s T) L then Uq s (f K) (Hm L)else o L K
def an{R:Type}:Tb->Kt R->aD R:=λ_ _=>ao
def lp{R:Type}(n:aG)(a:Tb->Kt R->aD R)(o:It R):It R:=λnG f cn L K=>bif bA nG n then a L K else o nG f cn L K
def ln{R:Type}:It R:=λ_ _ _ _ _=>ao
theorem Uo{R:Type}{s:az Ho}{T:Fn s Tb}(hT:okT T){f:Kt R->Fn s (aD R)}{o:Tb->Kt R->aD R}{L:Tb}{K:Kt R}{r:R}(h:al T f o L K=aj r):(∃x,L=ap s T x/\ap s (f K) x=aj r)\/o L K=aj r:=by
 unfold al at h;cases hb:yv (La s T) L with
 |false=>rw[hb]at h;exact .inr h
 |true=>rw[hb]at h;obtain⟨x,h1,h2⟩:=AG h;exact .inl ⟨x,by rw[<-hT x,<-h1,G5 hb],h2⟩
section
variable {R:Type} {E:fB} {it:It R} {C:Code} {n:aG}
def Good(E:fB)(it:It R)(C:Code)(n:aG)(a:Tb->Kt R->aD R):Prop:=∀L K r,a L K=aj r->∃m,iter (sq E it C) (canon (E.yW n)) m (fK L) K=aj r
def Wd(E:fB)(it:It R)(C:Code)(n:aG)(K:Kt R){s:az Ho}(T:Fn s Tb)(l:aG->Fn s (aD R)):Prop:=∀m x,iter (sq E it C) (canon (E.yW n)) m (fK (ap s T x)) K=ap s (l m) x
theorem pr:Good E it C n an:=λ_ _ _ h=>by cases h
theorem Ls{s:az Ho}{T:Fn s Tb}(hT:okT T){l:Kt R->aG->Fn s (aD R)}{N:aG}{o:Tb->Kt R->aD R}(h:∀K,Wd E it C n K T (l K))(ho:Good E it C n o):Good E it C n (al T (λK=>l K N) o):=by
 intro L K r hq;rcases Uo hT hq with ⟨x,rfl,hx⟩|hq
 ·exact⟨N,(h K N x).trans hx⟩
 ·exact ho L K r hq
theorem lom(n:aG)(hr:gi C=n){a:Tb->Kt R->aD R}(hi:∀L K,it n (sq E it C) (canon (E.yW n)) L K=a L K)(h:Good E it C n a):cB E it C:=by intro L K q;rw[hr,hi];exact h L K q
theorem wf{K:Kt R}{s:az Ho}{T:Fn s Tb}{l:aG->Fn s (aD R)}{m:aG}(h:∀x,iter (sq E it C) (canon (E.yW n)) m (fK (ap s T x)) K=ap s (l m) x):cmp s T (λt=>iter (sq E it C) (canon (E.yW n)) m (fK t) K)=l m:=
 aaR λy=>by rw[AH,h]
theorem wl{K:Kt R}{s:az Ho}{T:Fn s Tb}{l:aG->Fn s (aD R)}(r:(St->aD R)->Fn s (aD R))(h0:∀x,ap s (l 0) x=ao)
  (h1:∀m,(∀x,iter (sq E it C) (canon (E.yW n)) m (fK (ap s T x)) K=ap s (l m) x)->r (λσ=>iter (sq E it C) (canon (E.yW n)) m σ K)=l (m+1))
  (h:∀g x,sq E it C (fK (ap s T x)) (Dy g (canon (E.yW n)) K)=ap s (r g) x):Wd E it C n K T l:=by
 intro m;induction m with
 |zero=>intro x;rw[h0];rfl
 |succ m ih=>intro x;rw[Ni,h,h1 m ih]
theorem lo1(n:aG){s:az Ho}(T:Fn s Tb)(hr:gi C=n)(hT:okT T)(l:Kt R->aG->Fn s (aD R))(r:Kt R->Fn s (aD R)->Fn s (aD R)){N:aG}
  (hi:∀L K,it n (sq E it C) (canon (E.yW n)) L K=al T (λK=>l K N) an L K) (h0:∀K x,ap s (l K 0) x=ao) (h1:∀K n,l K (n+1)=r K (l K n))
  (h:∀K g x,sq E it C (fK (ap s T x)) (Dy g (canon (E.yW n)) K)=ap s (r K (cmp s T λt=>g (fK t))) x):cB E it C:=
 lom n hr hi (Ls hT (λK=>wl (λg=>r K (cmp s T λt=>g (fK t))) (h0 K) (λm i=>by rw[h1];exact ml (r K) (wf i)) (h K)) pr)
end
end Go.FG

namespace Go.FG.Lib
def c7:aG:=18446744073709551616
theorem MQ{α β:Type}(c:aY)(x y:aD α)(f:α->aD β):lQ (bif c then x else y) f=bif c then lQ x f else lQ y f:=by cases c<;>rfl
def lt{α β:Type}(a:α)(f:α->β):β:=f a
theorem dy{α:Type}{o:aD α}{x d:α}(h:o=aj x):mU o=ak/\XQ o d=x:=by rw[h];exact⟨rfl,rfl⟩
theorem some_{α:Type}{o:aD α}{d:α}(h:mU o=ak):o=aj (XQ o d):=by
 cases o with
 |none=>cases h
 |some x=>rfl
theorem ij{σ β:Type}(F:aG->σ->β)(mu:σ->aG)(inv:σ->Prop)(res:σ->β)
  (step:∀n s,inv s->F (n+1) s=res s\/∃s',inv s'/\mu s'<mu s/\res s'=res s/\F (n+1) s=F n s'):∀n s,inv s->mu s<n->F n s=res s:=by
 intro n;induction n with
 |zero=>intro s _ h;omega
 |succ n ih=>
  intro s hi hm;rcases step n s hi with h|⟨s',h1,h2,h3,h4⟩
  ·exact h
  ·rw[h4,<-h3];exact ih s' h1 (by omega)
theorem dB(i n:aG):decide ((i:aA)<(n:aA))=decide (i<n):=by rw[ch];omega
theorem cR(i:aG):decide (0<=(i:aA))=true:=by simp
theorem Qf{i n:aG}(h:i<n):decide ((i:aA)<(n:aA))=true:=by simp;omega
theorem XV{i n:aG}(h:¬i<n):decide ((i:aA)<(n:aA))=false:=by simp;omega
theorem eB(i:aG):bc (i:aA)=i:=rfl
theorem db{i n:aG}(h:i<n)(hn:n<=9223372036854775807):bM ((i:aA)+1)=((i+1:aG):aA):=by rw[jQ (by omega) (by omega)];omega
theorem n7{xs:aX}{i:aG}(h:i<xs.length):xs.getD i []=xs[i]:=by simp[jq,h]
theorem cX{xs:aX}{i j:aG}(h:i<xs.length):aw xs i j=xs[i].getD j (.b aq):=by unfold aw;rw[n7 h]
theorem jw(xs:aX)(i j:aG)(ys:az CV):(eh xs i j ys).length=xs.length:=by unfold eh;simp
theorem vZ(ks:az Ck)(n:aG):(aT ks n).length=n:=by unfold aT;simp
theorem cy{n b:aG}(h:n*b<=140737488355328)(h2:n<=9223372036854775807):cJ n b=true:=by unfold cJ;simp;omega
theorem FA{xs:aX}{i j:aG}{ys:az CV}(h:i<xs.length):eh xs i j ys=xs.set i (iF xs[i] j ys):=by unfold eh;rw[n7 h]
theorem e_{x:aX}{i:aG}(h:i<x.length):x.drop i=x[i]::x.drop (i+1):=dG h
def up:aA->aG->aA|k,0=>k|k,n+1=>up (bM (k+1)) n
theorem Kn{x:aA}(h:0<=x):bM x<=x:=by
 have e:bM x=if(decide (x%18446744073709551616≥9223372036854775808))=ak then x%18446744073709551616-18446744073709551616 else x%18446744073709551616:=rfl
 rw[e];split<;>omega
def vb(x:aA):aX:=
 if x>127 then [CV.i bk (bJ bk (bM (cF x 128+128)))]::vb (bM (cS x 128))else [[CV.i bk (bJ bk x)]]
termination_by x.toNat
decreasing_by
 rename_i h
 have h1:cS x 128=x/128:=gC (by omega)
 have h2:=Kn (x:=cS x 128) (by omega)
 omega
theorem vd{x:aA}(h:x>127):vb x=[CV.i bk (bJ bk (bM (cF x 128+128)))]::vb (bM (cS x 128)):=by rw[vb,bC h]
theorem mw{x:aA}(h:¬x>127):vb x=[[CV.i bk (bJ bk x)]]:=by rw[vb,bL h]
theorem Sf{n:aG}(h:n<=140737488355328):cJ n 1=true:=cy (by omega) (by omega)
theorem jK(y:az CV)(ks:az Ck):(aE (aT ks 1) 0 y)=[y]:=rfl
theorem W3{R:Type}(F:aG->aA->aX->aD R)(k:au->aD R)
  (h1:∀n x acc,x>127->acc.length<=100->F (n+1) x acc=F n (bM (cS x 128)) (acc++[[CV.i bk (bJ bk (bM (cF x 128+128)))]]))
  (h2:∀n x acc,¬x>127->acc.length<=100->F (n+1) x acc=k (bytesOf (acc++[[CV.i bk (bJ bk x)]]))) (x:aA) (hx:x<=9223372036854775807):F (x.toNat+1) x []=k (bytesOf (vb x)):=by
 have:=ij (λn (s:aA×aX)=>F n s.1 s.2) (λs=>s.1.toNat) (λs=>s.2.length<=100/\(1<=s.1->2^s.2.length*s.1<=9223372036854775808)) (λs=>k (bytesOf (s.2++vb s.1))) (λn s hs=>by
  obtain⟨x,acc⟩:=s;obtain⟨hl,hb⟩:=hs;dsimp only at hl hb⊢;by_cases h:x>127
  ·right;have e1:cS x 128=x/128:=gC (by omega);have hp:(1:aA)<=2^acc.length:=by
    have:(0:aA)<2^acc.length:=by exact Int.pow_pos (by omega)
    omega
   have hxb:x<=9223372036854775808:=by have h3:=hb (by omega);have:1*x<=2^acc.length*x:=Int.mul_le_mul_of_nonneg_right hp (by omega);omega
   have e2:bM (cS x 128)=x/128:=by rw[e1,jQ (by omega) (by omega)]
   have h64:acc.length<64:=by
    rcases qw acc.length 64 with h5|h5
    ·exact h5
    ·exfalso;have h6:(2:aA)^64<=2^acc.length:=by have:=Nat.pow_le_pow_right (n:=2) (by omega) h5;exact_mod_cast this
     have h7:=hb (by omega);have h8:(2:aA)^acc.length*1<=2^acc.length*x:=Ao (by omega) (by omega);have:(2:aA)^64=18446744073709551616:=by decide
     omega
   refine⟨(bM (cS x 128),acc++[[CV.i bk (bJ bk (bM (cF x 128+128)))]]),⟨by simp;omega,λ_=> ?_⟩,by dsimp only;omega, ?_,h1 n x acc h hl⟩
   ·dsimp only;rw[e2,bO,bw,tI];have h7:=hb (by omega);have h9:2*(x/128)<=x:=by omega
    have h8:(2:aA)^acc.length*(2*(x/128))<=2^acc.length*x:=Ao h9 (by omega);rw[Int.mul_assoc];omega
   ·dsimp only;rw[vd h,cj];rfl
  ·left;rw[mw h];exact h2 n x acc h hl) (x.toNat+1) (x,[]) ⟨by simp,λh=>by simp;omega⟩ (by dsimp only;omega)
 simpa using this
theorem aeJ{a b c:aG}{inst:Decidable (a+b<=c)}(h:a+b<=c): @decide (a+b<=c) inst=true:=aJ h
theorem acR:∀(n:aG) (x:aA),x<2^n->(vb x).length<=n+1:=by
 intro n;induction n with
 |zero=>intro x hx;rw[mw (by omega)];simp
 |succ n ih=>
  intro x hx;by_cases h:x>127
  ·have e1:cS x 128=x/128:=gC (by omega);have h2:=Kn (x:=cS x 128) (by omega);rw[vd h];have h3:bM (cS x 128)<2^n:=by rw[tI]at hx;omega
   have:=ih _ h3;simp;omega
  ·rw[mw h];simp
theorem iw(xs:aX):(bytesOf xs).size=xs.length:=by unfold bytesOf;simp[gh]
theorem nq{x:aA}(h:x<=9223372036854775807):(bytesOf (vb x)).size<=64:=by
 rw[iw];exact acR 63 x (by have:(2:aA)^63=9223372036854775808:=by decide
                           omega)
theorem lz(a b:au):(a++b).size=a.size+b.size:=dz
theorem qg(l:az F2):dC l l=true:=by
 induction l with
 |nil=>rfl
 |cons a l ih=>simp only[dC,ih,ph];exact beq_self_eq_true a
theorem IZ(s:au)(i:aG):iH s i<256:=(s.data.getD i 0).toNat_lt
def rv(t:au)(a:aG):aG->aG->aA->aA×aA×aY
 |0,_,_=>(0,0,aq)
 |f+1,j,n=>
  if a+j<t.size then
   (if(iH t (a+j):aA)>127 then rv t a f (j+1) (n+(iH t (a+j):aA)%128*128^j)
   else if(j>0/\iH t (a+j)=0)\/n+(iH t (a+j):aA)%128*128^j>1000000000 then(0,0,aq)
   else(n+(iH t (a+j):aA)%128*128^j,((a+j+1:aG):aA),ak))
  else(0,0,aq)
theorem yN{α:Type}{c:aY}{x y:α}(h:c=ak):(bif c then x else y)=x:=by rw[h];rfl
theorem P5{α:Type}{c:aY}{x y:α}(h:c=aq):(bif c then x else y)=y:=by rw[h];rfl
theorem AU{p:Prop}{inst:Decidable p}(h:p): @decide p inst=true:=aJ h
theorem GX{p:Prop}{inst:Decidable p}(h:¬p): @decide p inst=false:=aM h
def num(t:au):aG->aG->aA
 |_,0=>0
 |a,k+1=>(iH t a:aA)%128+128*num t (a+1) k
theorem zY(t:au):∀(k a:aG),0<=num t a k/\num t a k<128^k
 |0,a=>by simp[num]
 |k+1,a=>by
  have:=zY t k (a+1);simp only[num,tI];omega
theorem v8(t:au):∀(k a:aG),num t a (k+1)=num t a k+(iH t (a+k):aA)%128*128^k
 |0,a=>by simp[num]
 |k+1,a=>by
  rw[num,v8 t k (a+1),num,show a+1+k=a+(k+1)by omega,tI];rw[Int.mul_add,<-Int.add_assoc];congr 1;rw[Int.mul_comm 128,Int.mul_assoc]
theorem LQ(t:au):∀(k a:aG),(iH t (a+k):aA)%128≠0->1<=num t a (k+1)
 |0,a,h=>by simp[num]at h⊢;omega
 |k+1,a,h=>by
  rw[num];have:=LQ t k (a+1) (by rw[show a+1+k=a+(k+1)by omega];exact h);omega
theorem Tg(t:au):∀(k a:aG),(∀i,i<k->128<=iH t (a+i))->iH t (a+k)<128->(k=0\/iH t (a+k)≠0)->num t a (k+1)<=9223372036854775807->vb (num t a (k+1))=(lJ a (k+1)).map λi=>[CV.i bk (iH t i:aA)]
 |0,a,_,h2,_,_=>by
  have e:num t a 1=(iH t a:aA):=by simp[num]at h2⊢;omega
  simp only[wT]at h2;rw[e,mw (by omega)];have hw:bJ bk (iH t a:aA)=(iH t a:aA):=by show(iH t a:aA)%256=_;omega
  rw[hw];rfl
 |k+1,a,h1,h2,h3,h4=>by
  have hb:=IZ t a;have h0:=h1 0 (by omega);rw[wT]at h0;have h_:iH t (a+(k+1))≠0:=by rcases h3 with h3|h3;(·omega);exact h3
  have kH:=LQ t k (a+1) (by rw[show a+1+k=a+(k+1)by omega];omega);have e:num t a (k+1+1)=(iH t a:aA)%128+128*num t (a+1) (k+1):=rfl;rw[e]at h4⊢;have e1:cF ((iH t a:aA)%128+128*num t (a+1) (k+1)) 128=(iH t a:aA)%128:=by rw[rZ (by omega)];omega
  have e2:cS ((iH t a:aA)%128+128*num t (a+1) (k+1)) 128=num t (a+1) (k+1):=by rw[gC (by omega)];omega
  have e3:bM ((iH t a:aA)%128+128)=(iH t a:aA):=by rw[jQ (by omega) (by omega)];omega
  have hw:bJ bk (iH t a:aA)=(iH t a:aA):=by show(iH t a:aA)%256=_;omega
  rw[vd (by omega),e1,e2,e3,hw,jQ (by omega) (by omega),Tg t k (a+1) (λi hi=>by rw[show a+1+i=a+(i+1)by omega];exact h1 (i+1) (by omega)) (by rw[show a+1+k=a+(k+1)by omega];exact h2) (by rw[show a+1+k=a+(k+1)by omega];exact .inr h_) (by omega)];rfl
theorem Ae:∀(k:aG) (x:aA),x<128^(k+1)->(vb x).length<=k+1
 |0,x,h=>by rw[mw (by simp at h;omega)];simp
 |k+1,x,h=>by
  by_cases hx:x>127
  ·have e1:cS x 128=x/128:=gC (by omega);have h2:=Kn (x:=cS x 128) (by omega);rw[vd hx];have h3:bM (cS x 128)<128^(k+1):=by rw[tI]at h;omega
   have:=Ae k _ h3;simp;omega
  ·rw[mw hx];simp
theorem GJ{t:au}{a m:aG}(h:a+m<=t.size):(bytesOf ((lJ a m).map λi=>[CV.i bk (iH t i:aA)])).data.toList=(t.extract a (a+m)).data.toList:=by
 have h1:(bytesOf ((lJ a m).map λi=>[CV.i bk (iH t i:aA)])).data.toList=(lJ a m).map λi=>t.data.getD i 0:=by unfold bytesOf;simp[bY,iH]
 rw[h1];apply TF;intro i;have hs:t.size=t.data.size:=rfl;have LB:a+m<=t.data.size:=by rw[<-hs];exact h
 simp only[fU,g8,gM];by_cases hi:i<m
 ·have h3:a+i<t.data.size:=by omega
  rw[bE,List.getElem?_range' hi,dR,bC (by omega),dJ];simp only[iQ,Nat.one_mul,cO,ed];rw[Array.getElem?_eq_getElem h3];rfl
 ·rw[kB (by simp;omega),kB (by simp;omega)]
theorem beq_iff{l r:az F2}:dC l r=ak↔l=r:=by
 constructor
 ·intro h;induction l generalizing r with
  |nil=>cases r with|nil=>rfl|cons=>cases h
  |cons a l ih=>
   cases r with
   |nil=>cases h
   |cons b r=>simp only[dC,aK]at h;rw[eq_of_beq h.1,ih h.2]
 ·rintro rfl;exact qg l
theorem canon(t:au)(k a:aG)(h:a+(k+1)<=t.size)(h1:∀i,i<k->128<=iH t (a+i))(h2:iH t (a+k)<128)(h4:num t a (k+1)<=9223372036854775807):
  dC (bytesOf (vb (num t a (k+1)))).toList (t.extract a (a+(k+1))).toList= !decide (k>0/\iH t (a+k)=0):=by
 rw[jT,jT];by_cases hc:k>0/\iH t (a+k)=0
 ·rw[aJ hc,ba];obtain⟨k',rfl⟩:∃k',k=k'+1:=⟨k-1,by omega⟩
  cases hb:dC (bytesOf (vb (num t a (k'+1+1)))).data.toList (t.extract a (a+(k'+1+1))).data.toList with
  |false=>rfl
  |true=>
   exfalso;have he:=ml bW (beq_iff.1 hb);have e:num t a (k'+1+1)=num t a (k'+1):=by rw[v8,hc.2];simp
   have hl:=Ae k' (num t a (k'+1)) (zY t (k'+1) a).2;rw[e]at he;have h5:(bytesOf (vb (num t a (k'+1)))).data.toList.length=(vb (num t a (k'+1))).length:=iw _;have h6:(t.extract a (a+(k'+1+1))).data.toList.length=k'+1+1:=by show(t.extract a (a+(k'+1+1))).size=_;rw[wE];omega
   omega
 ·rw[aM hc,bX];have:=Tg t k a h1 h2 (by omega) h4;rw[this];exact beq_iff.2 (GJ h)
theorem sd{a b:au}(h:a.data.toList=b.data.toList):a=b:=by obtain⟨⟨a⟩⟩:=a;obtain⟨⟨b⟩⟩:=b;simp at h;rw[h]
theorem fA{a b:au}:dC a.toList b.toList=decide (a=b):=by
 rw[jT,jT];by_cases h:a=b
 ·subst h;rw[aJ rfl];exact qg _
 ·rw[aM h];cases hb:dC a.data.toList b.data.toList with
  |false=>rfl
  |true=>exact cq (sd (beq_iff.1 hb)) h
theorem Zq(t:au)(a:aG):∀(f j:aG) (n:aA) (m x:aA),rv t a f j n=(m,x,ak)->n=num t a j->(∀i,i<j->128<=iH t (a+i))->
  ∃k,x=((a+(k+1):aG):aA)/\a+(k+1)<=t.size/\0<=m/\m<=1000000000/\bytesOf (vb m)=t.extract a (a+(k+1))
 |0,j,n,m,x,h,_,_=>by simp[rv]at h
 |f+1,j,n,m,x,h,hn,X4=>by
  have hb:=IZ t (a+j);have U2:n+(iH t (a+j):aA)%128*128^j=num t a (j+1):=by rw[v8,<-hn]
  simp only[rv]at h;by_cases gO:a+j<t.size
  ·rw[bC gO]at h;by_cases hc:(iH t (a+j):aA)>127
   ·rw[bC hc]at h;refine Zq t a f (j+1) _ m x h U2 (λi hi=> ?_);by_cases M8:i<j
    ·exact X4 i M8
    ·have:i=j:=by omega
     subst this;omega
   ·rw[bL hc]at h;by_cases hz:(j>0/\iH t (a+j)=0)\/n+(iH t (a+j):aA)%128*128^j>1000000000
    ·rw[bC hz]at h;simp at h
    ·rw[bL hz]at h;simp only[iR,and_true]at h;obtain⟨rfl,rfl⟩:=h;have hr:=zY t (j+1) a;rw[<-U2]at hr;refine⟨j,by omega,by omega,hr.1,by omega, ?_⟩
     have:=canon t j a (by omega) X4 (by omega) (by rw[<-U2];omega);rw[fA,show decide (j>0/\iH t (a+j)=0)=aq from aM (λh=>hz (.inl h)),bX,<-U2]at this;exact b9 this
  ·rw[bL gO]at h;simp at h
def er(t:au)(iq:aA):aA×aA×aY:=if 0<=iq/\iq<=t.size then rv t iq.toNat 5 0 0 else(0,0,aq)
theorem kh{t:au}{iq m x:aA}(h:er t iq=(m,x,ak)):0<=iq/\iq<x/\x<=t.size/\0<=m/\m<=1000000000/\bytesOf (vb m)=t.extract iq.toNat x.toNat:=by
 unfold er at h;by_cases hn:0<=iq/\iq<=t.size
 ·rw[bC hn]at h;obtain⟨k,h1,h2,h3,h4,h5⟩:=Zq t iq.toNat 5 0 0 m x h rfl (λi hi=>by omega);exact⟨hn.1,by omega,by omega,h3,h4,by rw[h1];exact h5⟩
 ·rw[bL hn]at h;simp at h
def iB(t:au)(iq:aA):au×aA×aY:=
 match er t iq with
 |(n,x,ak)=>if n<=20000/\n<=t.size-x then(t.extract x.toNat (x+n).toNat,x+n,ak)else(⟨#[]⟩,0,aq)
 |_=>(⟨#[]⟩,0,aq)
theorem CK{R:Type}{t:au}(ht:t.size<=4611686018427387904)(iq:aA)(kr:au->aA->aY->aD R):
  (bif(!(er t iq).2.2)then(kr ({data:= #[]}) 0 aq)else(bif(decide ((er t iq).1>20000))then(kr ({data:= #[]}) 0 aq)else(bif(decide ((er t iq).1>bM ((↑(gh t):aA)-(er t iq).2.1)))then(kr ({data:= #[]}) 0 aq)else(bif(iO (er t iq).2.1 (bM ((er t iq).2.1+(er t iq).1)) (↑(gh t):aA))then(kr (bR t (bc (er t iq).2.1) (bc (bM ((er t iq).2.1+(er t iq).1)))) (bM ((er t iq).2.1+(er t iq).1)) ak)else(ao)))))=kr (iB t iq).1 (iB t iq).2.1 (iB t iq).2.2:=by
 unfold iB;cases hr:er t iq with
 |mk n r=>
  obtain⟨x,ok⟩:=r;cases ok with
  |false=>rfl
  |true=>
   obtain⟨h1,h2,h3,h4,h5,h6⟩:=kh hr;have e1:bM ((t.size:aA)-x)=t.size-x:=jQ (by omega) (by omega);have e2:bM (x+n)=x+n:=jQ (by omega) (by omega);simp only[ba,aC,e1,e2];by_cases hc:n<=20000/\n<=t.size-x
   ·rw[bC hc,P5 (GX (by omega)),P5 (GX (by omega)),yN (by simp[iO];omega)]
   ·rw[bL hc];by_cases hb:n>20000
    ·rw[yN (AU hb)]
    ·rw[P5 (GX hb),yN (AU (by omega))]
theorem Fw{t:au}{iq x:aA}{s:au}(h:iB t iq=(s,x,ak)):0<=iq/\iq<x/\x<=t.size/\s.size<=20000/\bytesOf (vb s.size)++s=t.extract iq.toNat x.toNat:=by
 unfold iB at h;cases hr:er t iq with
 |mk n r=>
  obtain⟨y,ok⟩:=r;rw[hr]at h;cases ok with
  |false=>simp at h
  |true=>
   dsimp only at h;obtain⟨h1,h2,h3,h4,h5,h6⟩:=kh hr;split at h
   ·rename_i hc;simp only[iR,and_true]at h;obtain⟨rfl,rfl⟩:=h;have fT:(t.extract y.toNat (y+n).toNat).size=n.toNat:=by rw[wE];omega
    refine⟨h1,by omega,by omega,by rw[fT];omega, ?_⟩
    rw[fT,show((n.toNat:aG):aA)=n by omega,h6];apply sd;simp only[lP,fU,uk,g8,gM];rw[show(y+n).toNat-iq.toNat=(y.toNat-iq.toNat)+n.toNat by omega,XP,uA,show iq.toNat+(y.toNat-iq.toNat)=y.toNat by omega,show(y+n).toNat-y.toNat=n.toNat by omega]
   ·simp at h
theorem vN(t:au){i j k:aG}(h1:i<=j)(h2:j<=k):t.extract i j++t.extract j k=t.extract i k:=by apply sd;simp only[lP,fU,uk,g8,gM];rw[show k-i=(j-i)+(k-j)by omega,XP,uA,show i+(j-i)=j by omega]
theorem Le(t:au):t.extract 0 t.size=t:=by apply sd;simp only[fU,g8,gM,fm,uF];exact iJ (by simp)
def fi(p:aG->aY):aG->aG->aA
 |0,_=> -1
 |d+1,i=>bif p i then(i:aA)else fi p d (i+1)
theorem pR(p:aG->aY):∀d i,fi p d i= -1/\(∀k,i<=k->k<i+d->p k=aq)\/∃k,i<=k/\k<i+d/\fi p d i=(k:aA)/\p k=ak/\∀q,i<=q->q<k->p q=aq
 |0,i=> .inl ⟨rfl,λk _ _=>by omega⟩
 |d+1,i=>by
  unfold fi;cases hp:p i with
  |true=>exact .inr ⟨i,by omega,by omega,rfl,hp,λq _ _=>by omega⟩
  |false=>
   rcases pR p d (i+1)with ⟨h1,h2⟩|⟨k,h1,h2,h3,h4,h5⟩
   ·refine .inl ⟨h1,λk hk1 zv=> ?_⟩;by_cases h:k=i
    ·subst h;exact hp
    ·exact h2 k (by omega) (by omega)
   ·refine .inr ⟨k,by omega,by omega,h3,h4,λq hq1 hq2=> ?_⟩;by_cases h:q=i
    ·subst h;exact hp
    ·exact h5 q (by omega) hq2
end Go.FG.Lib
namespace Go.FG.Pu
def xW(xs:aX)(i:aG)(ys:aX):aX:=xs.take i++ys++xs.drop i
end Go.FG.Pu

namespace Go.FG
class PT (P:outParam cQ) (T:outParam Tab):Prop where
 e:dZ P T
 m:P.follows .mixedOrders=ak
abbrev As:=az eR
abbrev AA.n(x:aA):AA:= .i .i64 x
abbrev AV.n(x:aA):AV:= .i .i64 x
abbrev CV.n(x:aA):CV:= .i .i64 x
abbrev aI(x:aA):eR:= .v aq [.n x]
abbrev aB(x:aY):eR:= .v aq [.b x]
abbrev aS(x:au):eR:= .v aq [.s x]
abbrev aH(e:aG)(x:aX):eR:= .v aq [.sh e x]
abbrev aO(e:aG)(x:aX):eR:= .v aq [.ow e ak x]
abbrev aV(l:az AA):eR:= .v ak l
abbrev cA(k:aG)(a:AV):aG×eu:=(k, .v (.v aq [a]))
abbrev cV(k:aG)(l:az AV):aG×eu:=(k, .v (.v ak l))
abbrev cI(k:aG)(x:aA):aG×eu:=cA k (.n x)
abbrev cP(k n:aG):aG×eu:=cA k (.bp n 0)
abbrev cH(k e:aG)(x:aX):aG×eu:=cA k (.sh e x)
abbrev oB(k:aG)(l:az AV):aG×eu:=(k, .o (.box l))
abbrev oR(k e:aG)(x:aX):aG×eu:=(k, .o (.row e ak x))
variable {P:cQ} {T:Tab} [i:PT P T] {E:fB} {g:aG} {F:Func} {s t:az Ho} {A:Fn s As} {k:Fn t dM}
theorem fq(hF:∀g,la P T g (E.call g))(hf:P.funcs[g]? =aj F){it:aG->It (Pr t)}{l:az Code}(A_:∀N,∀c∈l,cB E (it N) c)
  {c:Fn s aY} {v:Fn s (Pr t)} (b:aG->Fn t (aD (Pr t))->Fn s (aD (Pr t))) (u:Fn s (aD (Pr t))) {d:Pr t} (hT:E.toTab=T:=by rfl)
  (hc:∀x,GR F (ap s A x)=true:=by intro x;kernel_rfl) (hl:jA (F.body.getD .skip)=l:=by kernel_rfl) (hA:okA A:=by intro x;rfl) (hk:okK k:=by intro x;rfl)
  (h:∀N x,AM E (it N) F k (ap s A x)=ap s (b N (cmp t (jc t) aj)) x:=by intro N x;kernel_rfl) (hw:b Lib.c7 (cmp t (jc t) aj)=u:=by rfl) (h1:cmp s u mU=c:=by rfl) (h2:cmp s u (λo=>o.getD d)=v:=by rfl):la P T g (eG A k c v):=by subst hT;exact fl i.e i.m hF hf hc hl A_ hA hk Lib.c7 h hw h1 h2
theorem fr(hF:∀g,la P T g (E.call g))(hf:P.funcs[g]? =aj F)
  {c:Fn s aY} {v:Fn s (Pr t)} (b:Fn t (aD (Pr t))->Fn s (aD (Pr t))) (u:Fn s (aD (Pr t))) {d:Pr t} (hT:E.toTab=T:=by rfl)
  (hc:∀x,GR F (ap s A x)=true:=by intro x;kernel_rfl) (hl:jA (F.body.getD .skip)=[]:=by kernel_rfl) (hA:okA A:=by intro x;rfl) (hk:okK k:=by intro x;rfl)
  (h:∀x,AM E ln F k (ap s A x)=ap s (b (cmp t (jc t) aj)) x:=by intro x;kernel_rfl) (hw:b (cmp t (jc t) aj)=u:=by rfl) (h1:cmp s u mU=c:=by rfl) (h2:cmp s u (λo=>o.getD d)=v:=by rfl):la P T g (eG A k c v):=by subst hT;exact fl i.e i.m hF hf hc hl (it:=λ_=>ln) (λ_=>bV) hA hk (w:=λ_=>b (cmp t (jc t) aj)) 0 (λ_=>h) hw h1 h2
theorem ft(hF:∀g,la P T g (E.call g))(hf:P.funcs[g]? =aj F)
  {v:Fn s (Pr t)} (b:Fn t (aD (Pr t))->Fn s (aD (Pr t))) (hv:∀x,ap s (b (cmp t (jc t) aj)) x=aj (ap s v x)) (hT:E.toTab=T:=by rfl)
  (hc:∀x,GR F (ap s A x)=true:=by intro x;kernel_rfl) (hl:jA (F.body.getD .skip)=[]:=by kernel_rfl) (hA:okA A:=by intro x;rfl) (hk:okK k:=by intro x;rfl)
  (h:∀x,AM E ln F k (ap s A x)=ap s (b (cmp t (jc t) aj)) x:=by intro x;kernel_rfl):la P T g (eG A k (ct s) v):=by subst hT;exact flh i.e i.m hF hf hc hl (it:=λ_=>ln) (λ_=>bV) hA hk λx _ _=>⟨0,(h x).trans (hv x)⟩
theorem fh(hF:∀g,la P T g (E.call g))(hf:P.funcs[g]? =aj F){it:aG->It (Pr t)}{l:az Code}(A_:∀N,∀c∈l,cB E (it N) c)
  {c:Fn s aY} {v:Fn s (Pr t)} (b:aG->Fn t (aD (Pr t))->Fn s (aD (Pr t))) (hv:∀x,vR (ap s A x)->ap s c x=ak->∃N,ap s (b N (cmp t (jc t) aj)) x=aj (ap s v x)) (hT:E.toTab=T:=by rfl)
  (hc:∀x,GR F (ap s A x)=true:=by intro x;kernel_rfl) (hl:jA (F.body.getD .skip)=l:=by kernel_rfl) (hA:okA A:=by intro x;rfl) (hk:okK k:=by intro x;rfl)
  (h:∀N x,AM E (it N) F k (ap s A x)=ap s (b N (cmp t (jc t) aj)) x:=by intro N x;kernel_rfl):la P T g (eG A k c v):=by subst hT;exact flh i.e i.m hF hf hc hl A_ hA hk λx f q=>(hv x f q).imp λN e=>(h N x).trans e
section
variable {R:Type} {it:It R} {F:Func}
theorem lq(n:aG){s:az Ho}(T:Fn s Tb)(l:Kt R->aG->Fn s (aD R))(r:Kt R->Fn s (aD R)->Fn s (aD R)){N:aG}(hr:gi (ca F n)=n:=by kernel_rfl)(hT:okT T:=by intro x;rfl)
  (hi:∀L K,it n (sq E it (ca F n)) (canon (E.yW n)) L K=al T (λK=>l K N) an L K:=by intro L K;rfl) (h0:∀K x,ap s (l K 0) x=none:=by intro K x;rfl) (h1:∀K n,l K (n+1)=r K (l K n):=by intro K n;rfl)
  (h:∀K g x,sq E it (ca F n) (fK (ap s T x)) (Dy g (canon (E.yW n)) K)=ap s (r K (cmp s T λt=>g (fK t))) x:=by intro K g x;kernel_rfl):cB E it (ca F n):=
 lo1 n T hr hT l r hi h0 h1 h
theorem lw{n:aG}{K:Kt R}{s:az Ho}{T:Fn s Tb}{l:aG->Fn s (aD R)}(r:(St->aD R)->Fn s (aD R))
  (h1:∀m,(∀x,iter (sq E it (ca F n)) (canon (E.yW n)) m (fK (ap s T x)) K=ap s (l m) x)->r (λσ=>iter (sq E it (ca F n)) (canon (E.yW n)) m σ K)=l (m+1)) (h0:∀x,ap s (l 0) x=none:=by intro x;rfl)
  (h:∀g x,sq E it (ca F n) (fK (ap s T x)) (Dy g (canon (E.yW n)) K)=ap s (r g) x:=by intro g x;kernel_rfl):Wd E it (ca F n) n K T l:=wl r h0 h1 h
theorem lm(n:aG){a:Tb->Kt R->aD R}(h:Good E it (ca F n) n a)(hr:gi (ca F n)=n:=by kernel_rfl)(hi:∀L K,it n (sq E it (ca F n)) (canon (E.yW n)) L K=a L K:=by intro L K;rfl):cB E it (ca F n):=lom n hr hi h
theorem ga{C:Code}{n:aG}{s:az Ho}(T:Fn s Tb){N:aG}{l:Kt R->aG->Fn s (aD R)}{o:Tb->Kt R->aD R}(h:∀K,Wd E it C n K T (l K))(ho:Good E it C n o)(hT:okT T:=by intro x;rfl):Good E it C n (al T (λK=>l K N) o):=Ls hT h ho
end
end Go.FG

