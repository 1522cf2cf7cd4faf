/- PROVED HERE: the statement MarkerChecks, for every style and every marker, without a condition. -/
import Derived.Test.YtboghahlhmnblaaGreatZv32
import Derived.Test.YtboghahlhmnblaaGreatZv33
namespace Go.Proofs.YtboghahlhmnblaaGreat
set_option linter.all false
set_option maxRecDepth 100000
set_option maxHeartbeats 0
open Go.RowKit Go.Proofs.Tryz
section
open Go.ChangeShapes Go.WideShapes Go.ChangeAt Go.RowKit
namespace markerChecks
theorem lifted(E:Os)(d:E.Started)(H:Type)(a:TypeId×Value->H):
 ReturnsInHanded {} Tryz.checked E 3 .any (Rows.markerChecksSpec.pre6 a prog f3 Rows.markerChecksRow.domain false) (Rows.markerChecksSpec.post a prog f3 false true false false):=by
 refine returnsInHanded_of_change (C:=Tryz.checked) own d (by kernel_rfl) func3
  (ChangeSpec.witness6 (enc:=a) (C:=Tryz.checked) false ⟨#[],#[.agg #[.string ⟨#[]⟩,.slice none 0 0,.slice none 0 0,.slice none 0 0,.slice none 0 0,.slice none 0 0,.slice none 0 0],.agg #[.int .i64 0,.int .i64 0,.int .i64 0,.int .i64 0,.slice none 0 0,.slice none 0 0]],[]⟩ 8 (by kernel_rfl) (by kernel_rfl) (by kernel_rfl) (by kernel_rfl)) ?_
 intro W g args N gs k c z A _;have b:∀(j:Nat) t v,f3.params[j]? = some t->args[j]? = some v->Value.okWide prog W .any g t v:=c
 have l:=z;obtain⟨p,q,i,Q,rfl,S,T⟩:=z;have y:DataW.TrodAll a prog W 0 (λ_=>true) true f3.params.toList args.toList N p:=i;rw[Tryz.params3]at y b;obtain⟨F,Z,d0,O,U,q0,n,rfl,rfl,u,X⟩:=trodAll_cons y;obtain⟨G,a1,d1,P,V,q1,rfl,rfl,rfl,w,Y⟩:=trodAll_cons X;obtain⟨rfl,rfl,rfl⟩:=trodAll_nil Y;obtain rfl:args=#[F,G]:=by cases args;simp_all
 obtain⟨rfl,rfl⟩:=trodVars_none Q;have B:=u;have r:∀x∈U,x.block<W.heap.size:=by obtain⟨m,o⟩:=B;exact DataW.trod_lt m _ _ _ o
 obtain⟨L,K,rfl,w0⟩:=dt (b 0 29 F rfl rfl) u;have D:=w;have s:∀x∈V,x.block<W.heap.size:=by obtain⟨m,o⟩:=D;exact DataW.trod_lt m _ _ _ o
 obtain⟨M,J,rfl,I⟩:=At3 (b 1 34 G rfl rfl) w;clear i c;refine(Avr ve L K M J W w0 I.1 I.2).mono λe W' ⟨R,f⟩=>?_
 subst R;exact⟨_,rfl,_,_,_,[],_,[],l,trodAll_mk1 (shut_bool underlying4 _),(trodAll_cons_mk (Below.trod O8 (by kernel_rfl) (of_decide_eq_true (by kernel_rfl)) B f r) (trodAll_cons_mk (Below.trod O8 (by kernel_rfl) (of_decide_eq_true (by kernel_rfl)) D f s) trodAll_mk0)),rfl,f.frame _,λh=>by cases h⟩
theorem and2{a b:Bool}(h:a=true)(g:b=true):(a&&b)=true:=by rw[h,g];rfl
theorem closed:joinedFacts Tryz.pinned.checked.prog 3 f3 Rows.markerChecksSpec Rows.markerChecksRow=true:=by
 unfold joinedFacts
 repeat' (with_reducible refine and2 ?_ ?_)
 all_goals (as_aux_lemma=>kernel_rfl)
theorem over:Rows.markerChecksRow.holds Tryz.pinned (OpenSpec.ofChange Rows.markerChecksSpec) :=
 OpenClaim.holds_of_wide 3 f3 rfl rfl rfl rfl rfl rfl rfl ⟨rfl,rfl,rfl,rfl,rfl⟩ rfl rfl rfl rfl rfl aN func3 closed
  (of_decide_eq_true aN) (by unfold Func.isWrapper;first|(rw[if_pos aT];kernel_rfl)|(rw[if_neg aT];exact⟨rfl,rfl⟩))
  λc a H b _=>lifted c a H b
theorem proved:Rows.MarkerChecksSaid:=over
end markerChecks
end
end Go.Proofs.YtboghahlhmnblaaGreat
