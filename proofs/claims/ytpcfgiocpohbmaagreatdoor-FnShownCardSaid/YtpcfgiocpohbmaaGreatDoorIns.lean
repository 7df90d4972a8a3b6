/- slices.Insert at elements of plain cells, over any program that bears its text: a call of it does what is told. No condition but those that are stated. -/
import Derived.Test.YtpcfgiocpohbmaaGreatDoorLib
import Derived.Shelf.Bodies2
import Derived.Shelf.RegionOpenPlain
import Derived.WalkKit
import Derived.Lib.Walk
import Derived.Lib.SliceRun
import Derived.Lib.JoinLaws
import Derived.Lib.AppendZeros
import Derived.Lib.Overlaps
import Derived.Laws.Externs
import Derived.Laws.IdiomCopy
import Derived.Lib.AppendZerosOnto
set_option linter.unusedVariables false
set_option linter.unusedSimpArgs false
set_option maxRecDepth 100000
open Bool renaming true->aj,false->ao
open Go renaming Program->cC,World->bw,Oper->eD,Operand->cY,Value->a7
open Go.Act renaming eval->Ep,put->Q3
open Go.Builtin renaming copy_->lT,append_->j4
open Go.IntKind renaming i64->ar,wrap_i64->oJ
open Go.Oper renaming wp->KH
open Go.Region renaming wanted->sM
open Go.Result renaming andThen_ok->bk
open Go.Sem renaming run_bind->bV,run_pure->cy
open List renaming map_toArray->A3,map_cons->eF,map_nil->zb
open Nat renaming beq->bA
open Option renaming some->ah,none->ai
open _root_ renaming Nat->aG,Array->cX,List->ax,if_pos->ba,Option->aA,Int->ay,Bool->aU
namespace Go.FG.XU
open Go Go.Shelf Go.RowKit Go.Lib Go.Proofs
structure L (P:cC) (ρ:Ren) (nm:String) (sz:aG):Prop where
 mixed:P.follows .mixedOrders=aj
 f22:P.funcs[ρ.f 22]? =ah {Body2.n22 ρ with name:=nm}
 t3:P.underlying (ρ.t 3)=ah (TypeDesc.int ar)
 a3:∀w,(Go.isAgg (ρ.t 3)).run P w= .ok ao w
 t4:P.underlying (ρ.t 4)=ah (TypeDesc.bool)
 a4:∀w,(Go.isAgg (ρ.t 4)).run P w= .ok ao w
 t24:P.underlying (ρ.t 24)=ah (TypeDesc.slice (ρ.t 9))
 a24:∀w,(Go.isAgg (ρ.t 24)).run P w= .ok ao w
 z9:∀w,(Go.sizeOf (ρ.t 9)).run P w= .ok sz w
variable {P:cC} {ρ:Ren} {nm:String} {sz:aG}
theorem wpList_copy(w:bw){ops:cX eD}{rest:ax eD}{o:eD}{a:Act}{Q:Exit->Act->bw->Prop}(hgd:o.guard=ai)(d s:cY)(t t':TypeId)
  (ho:o.op= .call {callee:= .builtin .copy,args:= #[d,s],argTypes:= #[t,t']}) (v u:a7) (hd:a.eval d=v) (hs:a.eval s=u) {v':a7} {w':bw}
  (hr:(lT #[t,t'] o.type #[v,u]).run P w= .ok v' w') (h:wpList P ops Q rest (a.put o.dst v') w'):wpList P ops Q (o::rest) a w:=
 wpList_plain hgd λ_ hK=>by
  unfold KH execOp;simp only[ho,resolve,invoke,builtin,bV,cy,bk,A3,eF,zb,hd,hs,hr];exact hK _ _ h
theorem step_copy{ops:cX eD}{o:eD}{a:Act}{w:bw}{K:Act->bw->Prop}{Q:Exit->Act->bw->Prop}{E:Prop}
  (hg:o.guard=ai) (d x:cY) (dT sT:TypeId) (hop:o.op=Op.call {callee:=Callee.builtin Builtin.copy,args:= #[d,x],argTypes:= #[dT,sT]})
  (v u:a7) (hd:a.eval d=v) (hx:a.eval x=u) {v':a7} {w':bw} (hr:(lT #[dT,sT] o.type #[v,u]).run P w= .ok v' w') (hK:K (a.put o.dst v') w'):
  if sM o (yielded ops a.tmps)=aj then KH P o a w K Q else E:=by
 have hw:sM o (yielded ops a.tmps)=true:=by simp[sM,hg]
 rw[ba hw];unfold KH;simp[execOp,hop,resolve,invoke,builtin,hd,hx,hr,Result.andThen];exact hK
set_option maxHeartbeats 4000000 in
set_option maxRecDepth 100000 in
theorem zero(l:L P ρ nm sz)(w:bw)(A B:aA Addr)(n c i vc:aG)(hi:i<=n)(hn:n<=9223372036854775807)(hA:A=ai/\n=0\/∃b o,A=ah ⟨b,o,ai⟩):
  Calls P (ρ.f 22) #[.slice A n c, .int .i64 i, .slice B 0 vc] w λe w'=>e= .returned (.slice A n c)/\w'=w:=by
 have t3:=l.t3;have a3:=l.a3;have t4:=l.t4;have a4:=l.a4;have t24:=l.t24;have a24:=l.a24;have z9:=l.z9;have u3:=run_underlying l.t3;have u4:=run_underlying l.t4;have u24:=run_underlying l.t24;have hb1:(0:ay)<=(i:ay):=by omega
 have hb2:(i:ay)<=(n:ay):=by omega
 go_enter l.f22,Body2.n22_ntmps ρ;rcases hA with ⟨rfl,rfl⟩|⟨b,o,rfl⟩
 ·obtain rfl:i=0:=by omega
  go_wp2;go_ret;exact⟨rfl,rfl⟩
 ·go_wp2;all_goals (go_ret;exact⟨rfl,rfl⟩)
set_option maxHeartbeats 4000000 in
set_option maxRecDepth 100000 in
set_option maxHeartbeats 4000000 in
set_option maxRecDepth 100000 in
theorem shift(l:L P ρ nm sz)(w w1 w2:bw)(x1 x2:a7)(b o n c i m vc:aG)(B:aA Addr)(hi:i<n)(hm:0<m)(hroom:n+m<=c)(hc63:c<=9223372036854775807)
  (SM:∀lb cb,(callFunc (ρ.f 29) #[.slice B m vc, .slice (ah ⟨b,o+(i+m)*sz,ai⟩) lb cb]).run P w= .ok (.value (.bool ao)) w)
  (h1:∀ty,(lT #[ρ.t 24,ρ.t 24] ty #[.slice (ah ⟨b,o+(i+m)*sz,ai⟩) (n+m-(i+m)) (c-(i+m)), .slice (ah ⟨b,o+i*sz,ai⟩) (n+m-i) (c-i)]).run P w.drew= .ok x1 w1)
  (h2:∀ty,(lT #[ρ.t 24,ρ.t 24] ty #[.slice (ah ⟨b,o+i*sz,ai⟩) (n+m-i) (c-i), .slice B m vc]).run P w1= .ok x2 w2):
  Calls P (ρ.f 22) #[.slice (ah ⟨b,o,ai⟩) n c, .int .i64 i, .slice B m vc] w λe w'=>e= .returned (.slice (ah ⟨b,o,ai⟩) (n+m) c)/\w'=w2:=by
 have t3:=l.t3;have a3:=l.a3;have t4:=l.t4;have a4:=l.a4;have t24:=l.t24;have a24:=l.a24;have z9:=l.z9;have u3:=run_underlying l.t3;have u4:=run_underlying l.t4;have u24:=run_underlying l.t24;have HH:¬((m:ay)=0):=by omega
 have Bn:¬((i:ay)=(n:ay)):=by omega
 have mixed:=l.mixed;have hw1:ar.wrap ((i:ay)+(m:ay))=(i:ay)+(m:ay):=by rw[oJ];omega
 have hb1:(0:ay)<=(i:ay)+(m:ay):=by omega
 have g6:i<=n:=by omega
 have htn:((i:ay)+(m:ay)).toNat=i+m:=by omega
 have hb2:¬(c=i+m):=by omega
 have hb3:(i:ay)<=(n:ay)+(m:ay):=by omega
 have hb4:¬(c=i):=by omega
 go_enter l.f22,Body2.n22_ntmps ρ;go_wp2_with (simp only[SM])
 go_region_law_o (refine step_copy rfl _ _ (ρ.t 24) (ρ.t 24) rfl _ _ (by simp[Ep,Q3]) (by simp[Ep,Q3]) (h1 _) ?_);go_wp2_with (at_builtin;refine wpList_copy _ rfl _ _ (ρ.t 24) (ρ.t 24) rfl _ _ rfl rfl (h2 _) ?_)
 go_ret;exact⟨rfl,rfl⟩
set_option maxHeartbeats 4000000 in
set_option maxRecDepth 100000 in
theorem grow(l:L P ρ nm sz)(w w1 w2 w3:bw)(x2 x3:a7)(b o b' n c c' i m vc:aG)(B:aA Addr)(hi:i<n)(hm:0<m)(Vy:n<=c)(hroom:c<n+m)(xU:n+m<=9223372036854775807)(Fp:n+m<=c')(hc63:c'<=9223372036854775807)
  (h1:∀ty,(j4 #[ρ.t 24,ρ.t 3] ty #[.slice (ah ⟨b,o,ai⟩) i c, .int .i64 ((n:ay)+(m:ay)-(i:ay))]).run P w= .ok (.slice (ah ⟨b',0,ai⟩) (n+m) c') w1)
  (h2:∀ty,(lT #[ρ.t 24,ρ.t 24] ty #[.slice (ah ⟨b',i*sz,ai⟩) (n+m-i) (c'-i), .slice B m vc]).run P w1= .ok x2 w2)
  (h3:∀ty,(lT #[ρ.t 24,ρ.t 24] ty #[.slice (ah ⟨b',(i+m)*sz,ai⟩) (n+m-(i+m)) (c'-(i+m)), .slice (ah ⟨b,o+i*sz,ai⟩) (n-i) (c-i)]).run P w2.drew= .ok x3 w3):
  Calls P (ρ.f 22) #[.slice (ah ⟨b,o,ai⟩) n c, .int .i64 i, .slice B m vc] w λe w'=>e= .returned (.slice (ah ⟨b',0,ai⟩) (n+m) c')/\w'=w3:=by
 have t3:=l.t3;have a3:=l.a3;have t4:=l.t4;have a4:=l.a4;have t24:=l.t24;have a24:=l.a24;have z9:=l.z9;have u3:=run_underlying l.t3;have u4:=run_underlying l.t4;have u24:=run_underlying l.t24;have HH:¬((m:ay)=0):=by omega
 have Bn:¬((i:ay)=(n:ay)):=by omega
 have hz3:(c:ay)<(n:ay)+(m:ay):=by omega
 have mixed:=l.mixed;have hw0:ar.wrap ((n:ay)+(m:ay))=(n:ay)+(m:ay):=by rw[oJ];omega
 have hw2:ar.wrap ((n:ay)+(m:ay)-(i:ay))=(n:ay)+(m:ay)-(i:ay):=by rw[oJ];omega
 have hw1:ar.wrap ((i:ay)+(m:ay))=(i:ay)+(m:ay):=by rw[oJ];omega
 have hb1:(0:ay)<=(i:ay)+(m:ay):=by omega
 have g6:i<=n:=by omega
 have htn:((i:ay)+(m:ay)).toNat=i+m:=by omega
 have hGi:¬(c'=i):=by omega
 have hGim:¬(c'=i+m):=by omega
 have Y2:¬(c=i):=by omega
 have hic:i<=c:=by omega
 have hb3:(i:ay)<=(n:ay):=by omega
 have hb4:(i:ay)<=(n:ay)+(m:ay):=by omega
 go_enter l.f22,Body2.n22_ntmps ρ
 go_wp2_with (first
  |(at_builtin;refine Lib.wpList_append_run _ rfl _ _ _ _ rfl _ _ rfl rfl _ _ (h1 _) ?_)
  |(at_builtin;refine wpList_copy _ rfl _ _ (ρ.t 24) (ρ.t 24) rfl _ _ rfl rfl (h2 _) ?_))
 go_region_law_o (refine step_copy rfl _ _ (ρ.t 24) (ρ.t 24) rfl (.slice (ah ⟨b',(i+m)*sz,ai⟩) (n+m-(i+m)) (c'-(i+m))) (.slice (ah ⟨b,o+i*sz,ai⟩) (n-i) (c-i)) (by simp[Ep,Q3]) (by simp[Ep,Q3]) (h3 (ρ.t 3)) ?_);go_wp2;go_ret;exact⟨rfl,rfl⟩
end Go.FG.XU

namespace Go.FG.XU
open Go Go.Shelf Go.RowKit Go.Lib Go.Proofs
section
variable {P:cC}
structure Insd (w w':bw) (p p':Pl) (i m:aG) (news:ax a7):Prop where
 n:p'.n=p.n+m
 sz:p'.sz=p.sz
 nil:p'.nil=aj->p'.cap=0/\p.n=0/\m=0
 mem:p'.nil=ao->∃jo,o4 w' p'.blk jo/\p'.n<=p'.cap/\p'.cap<=maxLen/\p'.off+p'.cap*p'.sz<=jo.size/\
  (∀k u,k<i*p.sz->w.cell? (ad p.blk (p.off+k))=ah u->jo[p'.off+k]? =ah u)/\(∀k,k<m*p.sz->jo[p'.off+i*p.sz+k]? =news[k]?)/\
  (∀k u,k<(p.n-i)*p.sz->w.cell? (ad p.blk (p.off+i*p.sz+k))=ah u->jo[p'.off+(i+m)*p.sz+k]? =ah u)
 blk:p'.nil=ao->(p.nil=ao/\p'.blk=p.blk)\/p'.blk=w.heap.size
 old:∀b,b<w.heap.size->(p'.nil=ao->b≠p'.blk)->w'.heap[b]? =w.heap[b]?
 size:w.heap.size<=w'.heap.size
 os:w'.os=w.os
 tape:w'.tape=w.tape
 output:w'.output=w.output
structure Pre (w:bw) (p:Pl):Prop where
 nil:p.nil=aj->p.n=0/\p.cap=0
 mem:p.nil=ao->∃vals,o4 w p.blk vals/\p.n<=p.cap/\p.cap<=maxLen/\p.off+p.cap*p.sz<=vals.size
variable {ρ:Ren} {nm:String}
end
end Go.FG.XU

namespace Go.FG.XU
open Go Go.Shelf Go.RowKit Go.Lib Go.Proofs
abbrev ofTab(T:Tab):eL:={toTab:=T,call:=λ_ _=>ai,om:=λ_ _=> .nat,mode:=λ_ _=>ao,keep:=λ_=>[],tk:=λ_=>false}
def JB(e bytes:aG):ax eu->aA (aU×Res)
 |[.v ao [.ow e1 aj xs], .v ao [.i .i64 i], .v ao [.sh e2 ys]]=>bif bA e1 e&&bA e2 e then
  ah (decide (0<=i)&&decide (i<=(xs.length:ay))&&cF (xs.length+ys.length) bytes,⟨[.v ao [.ow e aj (Pu.DC xs i.toNat ys)]],[]⟩)else ai
 |_=>ai
section
variable {P:cC} {ρ:Ren} {nm:String} {T:Tab}
end
end Go.FG.XU

