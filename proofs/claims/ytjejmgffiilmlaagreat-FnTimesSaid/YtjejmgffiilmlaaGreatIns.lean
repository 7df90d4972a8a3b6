/- slices.Insert at elements of plain cells, over any program that bears its text: a call of it does what is told. No condition but those that are stated. -/
import Derived.Test.YtjejmgffiilmlaaGreatLib
import Derived.Shelf.Bodies2
import Derived.Shelf.RegionOpenPlain
import Derived.WalkKit
import Derived.Lib.Walk
import Derived.Lib.SliceRun
import Derived.Lib.JoinLaws
import Derived.Lib.AppendZeros
import Derived.Lib.Overlaps
import Derived.Laws.Externs
import Derived.Laws.IdiomCopy
import Derived.Lib.AppendZerosOnto
set_option linter.unusedVariables false
set_option linter.unusedSimpArgs false
set_option maxRecDepth 100000
open Bool renaming true->ai,false->ak
open Go renaming Program->cL,World->bB,Oper->eJ,Operand->c5,Value->a_
open Go.Act renaming eval->EA,put->Rc
open Go.Builtin renaming copy_->l8,append_->kg
open Go.IntKind renaming i64->ao,wrap_i64->oE
open Go.Oper renaming wp->KN
open Go.Region renaming wanted->s6
open Go.Result renaming andThen_ok->bn
open Go.Sem renaming run_bind->b8,run_pure->cB
open List renaming map_toArray->Bc,map_cons->eK,map_nil->zm
open Nat renaming beq->bh
open Option renaming some->ah,none->aj
open _root_ renaming Nat->aE,Array->c_,List->ax,if_pos->bu,Option->aA,Int->az,Bool->aW
namespace Go.FG.YC
open Go Go.Shelf Go.RowKit Go.Lib Go.Proofs
structure L (P:cL) (ρ:Ren) (nm:String) (sz:aE):Prop where
 mixed:P.follows .mixedOrders=ai
 f22:P.funcs[ρ.f 22]? =ah {Body2.n22 ρ with name:=nm}
 t3:P.underlying (ρ.t 3)=ah (TypeDesc.int ao)
 a3:∀w,(Go.isAgg (ρ.t 3)).run P w= .ok ak w
 t4:P.underlying (ρ.t 4)=ah (TypeDesc.bool)
 a4:∀w,(Go.isAgg (ρ.t 4)).run P w= .ok ak w
 t24:P.underlying (ρ.t 24)=ah (TypeDesc.slice (ρ.t 9))
 a24:∀w,(Go.isAgg (ρ.t 24)).run P w= .ok ak w
 z9:∀w,(Go.sizeOf (ρ.t 9)).run P w= .ok sz w
variable {P:cL} {ρ:Ren} {nm:String} {sz:aE}
theorem wpList_copy(w:bB){ops:c_ eJ}{rest:ax eJ}{o:eJ}{a:Act}{Q:Exit->Act->bB->Prop}(hgd:o.guard=aj)(d s:c5)(t t':TypeId)
  (ho:o.op= .call {callee:= .builtin .copy,args:= #[d,s],argTypes:= #[t,t']}) (v u:a_) (hd:a.eval d=v) (hs:a.eval s=u) {v':a_} {w':bB}
  (hr:(l8 #[t,t'] o.type #[v,u]).run P w= .ok v' w') (h:wpList P ops Q rest (a.put o.dst v') w'):wpList P ops Q (o::rest) a w:=
 wpList_plain hgd λ_ hK=>by
  unfold KN execOp;simp only[ho,resolve,invoke,builtin,b8,cB,bn,Bc,eK,zm,hd,hs,hr];exact hK _ _ h
theorem step_copy{ops:c_ eJ}{o:eJ}{a:Act}{w:bB}{K:Act->bB->Prop}{Q:Exit->Act->bB->Prop}{E:Prop}
  (hg:o.guard=aj) (d x:c5) (dT sT:TypeId) (hop:o.op=Op.call {callee:=Callee.builtin Builtin.copy,args:= #[d,x],argTypes:= #[dT,sT]})
  (v u:a_) (hd:a.eval d=v) (hx:a.eval x=u) {v':a_} {w':bB} (hr:(l8 #[dT,sT] o.type #[v,u]).run P w= .ok v' w') (hK:K (a.put o.dst v') w'):
  if s6 o (yielded ops a.tmps)=ai then KN P o a w K Q else E:=by
 have hw:s6 o (yielded ops a.tmps)=true:=by simp[s6,hg]
 rw[bu hw];unfold KN;simp[execOp,hop,resolve,invoke,builtin,hd,hx,hr,Result.andThen];exact hK
set_option maxHeartbeats 4000000 in
set_option maxRecDepth 100000 in
theorem zero(l:L P ρ nm sz)(w:bB)(A B:aA Addr)(n c i vc:aE)(hi:i<=n)(hn:n<=9223372036854775807)(hA:A=aj/\n=0\/∃b o,A=ah ⟨b,o,aj⟩):
  Calls P (ρ.f 22) #[.slice A n c, .int .i64 i, .slice B 0 vc] w λe w'=>e= .returned (.slice A n c)/\w'=w:=by
 have t3:=l.t3;have a3:=l.a3;have t4:=l.t4;have a4:=l.a4;have t24:=l.t24;have a24:=l.a24;have z9:=l.z9;have u3:=run_underlying l.t3;have u4:=run_underlying l.t4;have u24:=run_underlying l.t24;have hb1:(0:az)<=(i:az):=by omega
 have Er:(i:az)<=(n:az):=by omega
 go_enter l.f22,Body2.n22_ntmps ρ;rcases hA with ⟨rfl,rfl⟩|⟨b,o,rfl⟩
 ·obtain rfl:i=0:=by omega
  go_wp2;go_ret;exact⟨rfl,rfl⟩
 ·go_wp2;all_goals (go_ret;exact⟨rfl,rfl⟩)
set_option maxHeartbeats 4000000 in
set_option maxRecDepth 100000 in
set_option maxHeartbeats 4000000 in
set_option maxRecDepth 100000 in
theorem shift(l:L P ρ nm sz)(w w1 w2:bB)(x1 x2:a_)(b o n c i m vc:aE)(B:aA Addr)(hi:i<n)(hm:0<m)(hroom:n+m<=c)(hc63:c<=9223372036854775807)
  (Ta:∀lb cb,(callFunc (ρ.f 29) #[.slice B m vc, .slice (ah ⟨b,o+(i+m)*sz,aj⟩) lb cb]).run P w= .ok (.value (.bool ak)) w)
  (h1:∀ty,(l8 #[ρ.t 24,ρ.t 24] ty #[.slice (ah ⟨b,o+(i+m)*sz,aj⟩) (n+m-(i+m)) (c-(i+m)), .slice (ah ⟨b,o+i*sz,aj⟩) (n+m-i) (c-i)]).run P w.drew= .ok x1 w1)
  (h2:∀ty,(l8 #[ρ.t 24,ρ.t 24] ty #[.slice (ah ⟨b,o+i*sz,aj⟩) (n+m-i) (c-i), .slice B m vc]).run P w1= .ok x2 w2):
  Calls P (ρ.f 22) #[.slice (ah ⟨b,o,aj⟩) n c, .int .i64 i, .slice B m vc] w λe w'=>e= .returned (.slice (ah ⟨b,o,aj⟩) (n+m) c)/\w'=w2:=by
 have t3:=l.t3;have a3:=l.a3;have t4:=l.t4;have a4:=l.a4;have t24:=l.t24;have a24:=l.a24;have z9:=l.z9;have u3:=run_underlying l.t3;have u4:=run_underlying l.t4;have u24:=run_underlying l.t24;have HF:¬((m:az)=0):=by omega
 have Bz:¬((i:az)=(n:az)):=by omega
 have mixed:=l.mixed;have hw1:ao.wrap ((i:az)+(m:az))=(i:az)+(m:az):=by rw[oE];omega
 have hb1:(0:az)<=(i:az)+(m:az):=by omega
 have gO:i<=n:=by omega
 have htn:((i:az)+(m:az)).toNat=i+m:=by omega
 have Er:¬(c=i+m):=by omega
 have hb3:(i:az)<=(n:az)+(m:az):=by omega
 have hb4:¬(c=i):=by omega
 go_enter l.f22,Body2.n22_ntmps ρ;go_wp2_with (simp only[Ta])
 go_region_law_o (refine step_copy rfl _ _ (ρ.t 24) (ρ.t 24) rfl _ _ (by simp[EA,Rc]) (by simp[EA,Rc]) (h1 _) ?_);go_wp2_with (at_builtin;refine wpList_copy _ rfl _ _ (ρ.t 24) (ρ.t 24) rfl _ _ rfl rfl (h2 _) ?_)
 go_ret;exact⟨rfl,rfl⟩
set_option maxHeartbeats 4000000 in
set_option maxRecDepth 100000 in
theorem grow(l:L P ρ nm sz)(w w1 w2 w3:bB)(x2 x3:a_)(b o b' n c c' i m vc:aE)(B:aA Addr)(hi:i<n)(hm:0<m)(Wg:n<=c)(hroom:c<n+m)(DI:n+m<=9223372036854775807)(Fo:n+m<=c')(hc63:c'<=9223372036854775807)
  (h1:∀ty,(kg #[ρ.t 24,ρ.t 3] ty #[.slice (ah ⟨b,o,aj⟩) i c, .int .i64 ((n:az)+(m:az)-(i:az))]).run P w= .ok (.slice (ah ⟨b',0,aj⟩) (n+m) c') w1)
  (h2:∀ty,(l8 #[ρ.t 24,ρ.t 24] ty #[.slice (ah ⟨b',i*sz,aj⟩) (n+m-i) (c'-i), .slice B m vc]).run P w1= .ok x2 w2)
  (h3:∀ty,(l8 #[ρ.t 24,ρ.t 24] ty #[.slice (ah ⟨b',(i+m)*sz,aj⟩) (n+m-(i+m)) (c'-(i+m)), .slice (ah ⟨b,o+i*sz,aj⟩) (n-i) (c-i)]).run P w2.drew= .ok x3 w3):
  Calls P (ρ.f 22) #[.slice (ah ⟨b,o,aj⟩) n c, .int .i64 i, .slice B m vc] w λe w'=>e= .returned (.slice (ah ⟨b',0,aj⟩) (n+m) c')/\w'=w3:=by
 have t3:=l.t3;have a3:=l.a3;have t4:=l.t4;have a4:=l.a4;have t24:=l.t24;have a24:=l.a24;have z9:=l.z9;have u3:=run_underlying l.t3;have u4:=run_underlying l.t4;have u24:=run_underlying l.t24;have HF:¬((m:az)=0):=by omega
 have Bz:¬((i:az)=(n:az)):=by omega
 have hz3:(c:az)<(n:az)+(m:az):=by omega
 have mixed:=l.mixed;have hw0:ao.wrap ((n:az)+(m:az))=(n:az)+(m:az):=by rw[oE];omega
 have hw2:ao.wrap ((n:az)+(m:az)-(i:az))=(n:az)+(m:az)-(i:az):=by rw[oE];omega
 have hw1:ao.wrap ((i:az)+(m:az))=(i:az)+(m:az):=by rw[oE];omega
 have hb1:(0:az)<=(i:az)+(m:az):=by omega
 have gO:i<=n:=by omega
 have htn:((i:az)+(m:az)).toNat=i+m:=by omega
 have hGi:¬(c'=i):=by omega
 have hGim:¬(c'=i+m):=by omega
 have ZL:¬(c=i):=by omega
 have hic:i<=c:=by omega
 have hb3:(i:az)<=(n:az):=by omega
 have hb4:(i:az)<=(n:az)+(m:az):=by omega
 go_enter l.f22,Body2.n22_ntmps ρ
 go_wp2_with (first
  |(at_builtin;refine Lib.wpList_append_run _ rfl _ _ _ _ rfl _ _ rfl rfl _ _ (h1 _) ?_)
  |(at_builtin;refine wpList_copy _ rfl _ _ (ρ.t 24) (ρ.t 24) rfl _ _ rfl rfl (h2 _) ?_))
 go_region_law_o (refine step_copy rfl _ _ (ρ.t 24) (ρ.t 24) rfl (.slice (ah ⟨b',(i+m)*sz,aj⟩) (n+m-(i+m)) (c'-(i+m))) (.slice (ah ⟨b,o+i*sz,aj⟩) (n-i) (c-i)) (by simp[EA,Rc]) (by simp[EA,Rc]) (h3 (ρ.t 3)) ?_);go_wp2;go_ret;exact⟨rfl,rfl⟩
end Go.FG.YC

namespace Go.FG.YC
open Go Go.Shelf Go.RowKit Go.Lib Go.Proofs
section
variable {P:cL}
structure Insd (w w':bB) (p p':Pl) (i m:aE) (news:ax a_):Prop where
 n:p'.n=p.n+m
 sz:p'.sz=p.sz
 nil:p'.nil=ai->p'.cap=0/\p.n=0/\m=0
 mem:p'.nil=ak->∃jv,oX w' p'.blk jv/\p'.n<=p'.cap/\p'.cap<=maxLen/\p'.off+p'.cap*p'.sz<=jv.size/\
  (∀k u,k<i*p.sz->w.cell? (ad p.blk (p.off+k))=ah u->jv[p'.off+k]? =ah u)/\(∀k,k<m*p.sz->jv[p'.off+i*p.sz+k]? =news[k]?)/\
  (∀k u,k<(p.n-i)*p.sz->w.cell? (ad p.blk (p.off+i*p.sz+k))=ah u->jv[p'.off+(i+m)*p.sz+k]? =ah u)
 blk:p'.nil=ak->(p.nil=ak/\p'.blk=p.blk)\/p'.blk=w.heap.size
 old:∀b,b<w.heap.size->(p'.nil=ak->b≠p'.blk)->w'.heap[b]? =w.heap[b]?
 size:w.heap.size<=w'.heap.size
 os:w'.os=w.os
 tape:w'.tape=w.tape
 output:w'.output=w.output
structure Pre (w:bB) (p:Pl):Prop where
 nil:p.nil=ai->p.n=0/\p.cap=0
 mem:p.nil=ak->∃vals,oX w p.blk vals/\p.n<=p.cap/\p.cap<=maxLen/\p.off+p.cap*p.sz<=vals.size
variable {ρ:Ren} {nm:String}
end
end Go.FG.YC

namespace Go.FG.YC
open Go Go.Shelf Go.RowKit Go.Lib Go.Proofs
abbrev ofTab(T:Tab):eP:={toTab:=T,call:=λ_ _=>aj,om:=λ_ _=> .nat,mode:=λ_ _=>ak,keep:=λ_=>[],tk:=λ_=>false}
def JJ(e bytes:aE):ax eC->aA (aW×dz)
 |[.v ak [.ow e1 ai xs], .v ak [.i .i64 i], .v ak [.sh e2 ys]]=>bif bh e1 e&&bh e2 e then
  ah (decide (0<=i)&&decide (i<=(xs.length:az))&&cy (xs.length+ys.length) bytes,⟨[.v ak [.ow e ai (Pu.Lu xs i.toNat ys)]],[]⟩)else aj
 |_=>aj
section
variable {P:cL} {ρ:Ren} {nm:String} {T:Tab}
end
end Go.FG.YC

