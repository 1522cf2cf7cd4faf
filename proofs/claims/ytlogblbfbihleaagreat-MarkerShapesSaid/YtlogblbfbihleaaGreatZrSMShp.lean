/- PROVED HERE: the statement MarkerShapes, for every style and every list of sizes, without a condition. -/
import Derived.Test.YtlogblbfbihleaaGreatZr35
namespace Go.Proofs.YtlogblbfbihleaaGreat
set_option linter.all false
set_option maxRecDepth 100000
set_option maxHeartbeats 0
open Go.RowKit
section
open Go.ChangeShapes Go.WideShapes Go.ChangeAt Go.RowKit
section
variable {H : Type} {enc : TypeId × Value -> H} {w : World} {base b0 : Nat} {spare : Nat -> Bool} {held : Bool} {r : Reach} {v : Value} {d : DataW H} {p : List MemPlace}
theorem oz (hv:Value.okWide Tryz.prog w r b0 23 v) (h:DataW.Trod enc Tryz.prog w base spare held 23 v d p):∃A n c L,v=.slice A n c/\n<=c/\c<=9223372036854775807/\InS w A n L:=by
 obtain⟨A,n,c,rfl⟩:=okWide_slice Tryz.underlying23 hv;obtain⟨fuel,hf⟩:=h;have hf':DataW.trod enc Tryz.prog w base spare held fuel 23 [.slice A n c]=some (d,p):=by simpa[Value.cells] using hf
 obtain⟨k1,k2,-,L,k3⟩:=Pb hf';exact⟨A,n,c,L,rfl,k1,k2,k3⟩
end
namespace markerShapes
theorem lifted (F:Os) (d:F.Started) (H:Type) (a:TypeId×Value->H) :
 ReturnsInHanded {} Tryz.checked F 3 .any (Rows.markerShapesSpec.pre6 a Tryz.prog Tryz.f3 Rows.markerShapesRow.domain false) (Rows.markerShapesSpec.post a Tryz.prog Tryz.f3 false true false false):=by
 refine returnsInHanded_of_change (C:=Tryz.checked) own d (by kernel_rfl) Tryz.func3
  (ChangeSpec.witness6 (enc:=a) (C:=Tryz.checked) false ⟨#[],#[.agg #[.string ⟨#[]⟩,.slice none 0 0,.slice none 0 0,.slice none 0 0,.slice none 0 0,.slice none 0 0,.slice none 0 0],.slice none 0 0],[]⟩ 8 (by kernel_rfl) (by kernel_rfl) (by kernel_rfl) (by kernel_rfl)) ?_
 intro W g args O gs k c A B _;have b:∀(j:Nat) t v,Tryz.f3.params[j]? = some t->args[j]? = some v->Value.okWide Tryz.prog W .any g t v:=c
 have l:=A;obtain⟨p,q,i,R,rfl,T,U⟩:=A;have z:DataW.TrodAll a Tryz.prog W 0 (λ_=>true) true Tryz.f3.params.toList args.toList O p:=i;rw[Tryz.params3]at z b;obtain⟨G,a6,d0,P,X,q0,n,rfl,rfl,w,Z⟩:=trodAll_cons z;obtain⟨I,a7,d1,Q,Y,q1,rfl,rfl,rfl,y,r1⟩:=trodAll_cons Z;obtain⟨rfl,rfl,rfl⟩:=trodAll_nil r1;obtain rfl:args=#[G,I]:=by cases args;simp_all
 obtain⟨rfl,rfl⟩:=trodVars_none R;have D:=w;have r:∀x∈X,x.block<W.heap.size:=by obtain⟨m,o⟩:=D;exact DataW.trod_lt m _ _ _ o
 obtain⟨M,L,rfl,w0⟩:=dt (b 0 29 G rfl rfl) w;have E:=y;have s:∀x∈Y,x.block<W.heap.size:=by obtain⟨m,o⟩:=E;exact DataW.trod_lt m _ _ _ o
 obtain⟨J,V,N,K,rfl,u⟩:=oz (b 1 23 I rfl rfl) y;clear i c;refine(qj ve M L J V N K W w0 u.1 u.2.1 u.2.2).mono λe W' ⟨S,f⟩=>?_
 subst S;exact⟨_,rfl,_,_,_,[],_,[],l,trodAll_mk1 (shut_bool Tryz.underlying4 _),(trodAll_cons_mk (Below.trod O8 (by kernel_rfl) (of_decide_eq_true (by kernel_rfl)) D f r) (trodAll_cons_mk (Below.trod O8 (by kernel_rfl) (of_decide_eq_true (by kernel_rfl)) E f s) trodAll_mk0)),rfl,f.frame _,λh=>by cases h⟩
theorem and2 {a b:Bool} (h:a=true) (g:b=true):(a&&b)=true:=by rw[h,g];rfl
theorem closed:joinedFacts Tryz.pinned.checked.prog 3 Tryz.f3 Rows.markerShapesSpec Rows.markerShapesRow=true:=by
 unfold joinedFacts
 repeat' (with_reducible refine and2 ?_ ?_)
 all_goals (as_aux_lemma=>kernel_rfl)
theorem over:Rows.markerShapesRow.holds Tryz.pinned (OpenSpec.ofChange Rows.markerShapesSpec) :=
 OpenClaim.holds_of_wide 3 Tryz.f3 rfl rfl rfl rfl rfl rfl rfl ⟨rfl,rfl,rfl,rfl,rfl⟩ rfl rfl rfl rfl rfl (by kernel_rfl) Tryz.func3 closed
  (of_decide_eq_true (by kernel_rfl)) (by unfold Func.isWrapper;first|(rw[if_pos (by decide +kernel)];kernel_rfl)|(rw[if_neg (by decide +kernel)];exact⟨rfl,rfl⟩))
  λc a H b _=>lifted c a H b
theorem proved:Rows.MarkerShapesSaid:=over
end markerShapes
end
end Go.Proofs.YtlogblbfbihleaaGreat
