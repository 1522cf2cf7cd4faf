/- Lean texts of the claim. -/
import Derived.Test.YtpbchbcdgikonaaGreatRows
import Derived.WalkKit
import Derived.WalkSpells
import Derived.WalkLawsBesides
import Derived.Lib.Hide
import Derived.Deep.QuietTactic
import Derived.BigQuiet
import Derived.IntWalk
import Derived.Laws.StructEq
namespace Go.Proofs.YtpbchbcdgikonaaGreat
set_option linter.unusedVariables false
set_option linter.unusedSimpArgs false
set_option maxRecDepth 100000
set_option maxHeartbeats 4000000
open Go.RowKit
section
theorem Bn {a b:Bool} (h:a=b):Ending.returned (.bool a)=.returned (.bool b):=by rw[h]
theorem Bh {k:IntKind} {a b:Int} (h:a=b):Ending.returned (.int k a)=.returned (.int k b):=by rw[h]
theorem An {a w:World} (h:Below a.heap.size a w) (o:Obj):Below a.heap.size a (w.alloc o):=Below.alloc h h.size o
theorem Aw {a w:World} (h:Below a.heap.size a w):Below a.heap.size a w.drew:=Below.drew h
theorem Bg {a w:World} (h:Below a.heap.size a w) (n:Nat):Below a.heap.size a (w.drewN n):=⟨h.os,h.tape,h.output,h.size,h.block⟩
theorem Ao {a w w2:World} (h:Below a.heap.size a w) (h2:Below w.heap.size w w2):Below a.heap.size a w2:=h.trans (h2.mono h.size)
theorem Bc {a w:World} (h:Below a.heap.size a w) {p:Addr} (hp:a.heap.size<=p.block) (u:Value):Below a.heap.size a (w.setCell p u):=Below.setCell h hp u
theorem Ah9 {W w1:World} (hb:Below W.heap.size W w1):(∀b o,b<W.heap.size->w1.cell? ⟨b,o,none⟩=W.cell? ⟨b,o,none⟩)/\(∀b o,b<W.heap.size->w1.frozen? ⟨b,o,none⟩=W.frozen? ⟨b,o,none⟩) :=
 ⟨fun b o h=>hb.cell (p:=⟨b,o,none⟩) h,fun b o h=>hb.frozen (p:=⟨b,o,none⟩) h⟩
section
variable {P : Program} {ops : Array Oper} {C : World -> Prop}
theorem Cv {Q:Act->Prop} {a:Act} {o:Oper} {rest:List Oper} (hg:o.guard=none) {v:Value}
 (h1:∀w,C w->o.quietAt P a C w v) (h2:wpQuiet P ops C Q rest (a.put o.dst v)):wpQuiet P ops C Q (o::rest) a:=by
 show (if Region.wanted o (yielded ops a.tmps) then o.quiet P a C (wpQuiet P ops C Q rest) else wpQuiet P ops C Q rest (a.put o.dst undef))
 have hw:Region.wanted o (yielded ops a.tmps)=true:=by simp[Region.wanted,hg]
 rw[if_pos hw];exact⟨v,h1,h2⟩
def Cls (w0:World) (l:List (Addr×Value)) (w:World):Prop:=Below w0.heap.size w0 w/\∀x∈l,w.cell? x.1=some x.2
theorem Bj {w:World} {p:Addr} {v:Value} (h:w.cell? p=some v):p.block<w.heap.size:=by
 rcases Nat.lt_or_ge p.block w.heap.size with h1|h1
 ·exact h1
 ·simp[World.cell?,Array.getElem?_eq_none h1] at h
theorem Aq {w w2:World} {p:Addr} {v:Value} (hb:Below w.heap.size w w2) (h:w.cell? p=some v):w2.cell? p=some v :=
 (hb.cell (Bj h)).trans h
theorem Cls.call {w0 w w2:World} {l:List (Addr×Value)} (h:Cls w0 l w) (hb:Below w.heap.size w w2):Cls w0 l w2 :=
 ⟨Ao h.1 hb,fun x hx=>Aq hb (h.2 x hx)⟩
theorem Bi (w0:World) (cl:List (Addr×Value)) {id:Nat} {Q:Exit->Act->World->Prop} {a:Act} {w:World} {l:List Oper} (hm:P.follows .mixedOrders=true) (hB:Region.lexB .any l.toArray=true)
 (hC:Cls w0 cl w) (h:wpQuiet P l.toArray (Cls w0 cl) (fun a'=>∀w',Cls w0 cl w'->Q .normal a' w') l a):(Code.region id l.toArray true).wp P Q a w :=
 wp_region_quiet (C:=Cls w0 cl) hm hB ⟨⟨hC.1.os,hC.1.tape,hC.1.output,hC.1.size,hC.1.block⟩,hC.2⟩ (by simpa using h)
theorem Cg {f:FuncId} {args:Array Value} {w0 w:World} {cl:List (Addr×Value)} {v:Value} (hw:Cls w0 cl w)
 (h:Calls P f args w fun e w'=>e=.returned v/\Below w.heap.size w w'):Calls P f args w fun e w''=>e=.returned v/\Cls w0 cl w'' :=
 h.mono fun _ _ ⟨he,hb⟩=>⟨he,hw.call hb⟩
end
end
def Bo (a b c:Int×Int):Int:=wrap64 (wrap64 (wrap64 (b.1-a.1)*wrap64 (c.2-a.2))-wrap64 (wrap64 (b.2-a.2)*wrap64 (c.1-a.1)))
def Ce (M:Int) (s:Int×Int):Bool:=decide (s.1 < -M) || decide (s.1 > M) || decide (s.2 < -M) || decide (s.2 > M)
def Er (x y:Int):Int:=if x<y then -1 else if x > y then 1 else 0
def Vc (a b c d:Int×Int):Bool:=decide (IntKind.i64.wrap (Er (Bo a b c) 0*Er (Bo a b d) 0)<0)
def onW (a b p:Int×Int):Bool:=(Bo a b p == 0)&&decide (min a.1 b.1<=p.1)&&decide (p.1<=max a.1 b.1)&&decide (min a.2 b.2<=p.2)&&decide (p.2<=max a.2 b.2)
theorem Kt (ax ay bx bY cx cy:Int) (w:World) :
 Calls Tryz.prog 120 #[.agg #[.int .i64 ax,.int .i64 ay],.agg #[.int .i64 bx,.int .i64 bY],.agg #[.int .i64 cx,.int .i64 cy]] w fun e w'=>e=.returned (.int .i64 (Bo (ax,ay) (bx,bY) (cx,cy)))/\Below w.heap.size w w':=by
 go_enter Tryz.func120,Tryz.ntmps120;go_wp2;go_ret;exact⟨rfl,An (An (An (Below.refl _ _) _) _) _⟩
theorem Vd (ax ay:Int) (w:World) :
 Calls Tryz.prog 57 #[.agg #[.int .i64 ax,.int .i64 ay]] w fun e w'=>e=.returned (.bool (Ce 1048576 (ax,ay)))/\Below w.heap.size w w':=by
 go_enter Tryz.func57,Tryz.ntmps57;go_wp2;all_goals go_ret
 all_goals exact⟨Bn (by simp[Ce]<;>omega),An (Below.refl _ _) _⟩
theorem Tp (x:Int) (w:World):Calls Tryz.prog 118 #[.int .i64 x] w fun e w'=>e=.returned (.bool false)/\w=w':=by
 go_enter Tryz.func118,Tryz.ntmps118;go_wp2;all_goals go_ret
 all_goals exact⟨by simp,rfl⟩
theorem J8 (x y:Int) (w:World):Calls Tryz.prog 81 #[.int .i64 x,.int .i64 y] w fun e w'=>e=.returned (.int .i64 (Er x y))/\Below w.heap.size w w':=by
 go_enter Tryz.func81,Tryz.ntmps81
 go_wp2_with (go_at_call 118;refine(Tp _ _).mono ?_;rintro e w' ⟨rfl,rfl⟩)
 all_goals go_ret
 all_goals exact⟨Bh (by unfold Er;(repeat split)<;>omega),Below.refl _ _⟩
theorem aa (ax ay bx bY cx cy dx dy:Int) (w:World) :
 Calls Tryz.prog 122 #[.agg #[.int .i64 ax,.int .i64 ay],.agg #[.int .i64 bx,.int .i64 bY],.agg #[.int .i64 cx,.int .i64 cy],.agg #[.int .i64 dx,.int .i64 dy]] w fun e w'=>e=.returned (.bool (Vc (ax,ay) (bx,bY) (cx,cy) (dx,dy)))/\Below w.heap.size w w':=by
 go_enter Tryz.func122,Tryz.ntmps122;go_wp2_with fail;refine Bi w [(⟨w.heap.size,0,none⟩,.int .i64 ax),(⟨w.heap.size,1,none⟩,.int .i64 ay),(⟨w.heap.size+1,0,none⟩,.int .i64 bx),(⟨w.heap.size+1,1,none⟩,.int .i64 bY),(⟨w.heap.size+1+1,0,none⟩,.int .i64 cx),(⟨w.heap.size+1+1,1,none⟩,.int .i64 cy),(⟨w.heap.size+1+1+1,0,none⟩,.int .i64 dx),(⟨w.heap.size+1+1+1,1,none⟩,.int .i64 dy)] (by kernel_rfl) (by kernel_rfl) ⟨(An (An (An (An (Below.refl _ _) _) _) _) _),by simp only[List.mem_cons,List.not_mem_nil,forall_eq_or_imp,or_false,forall_eq];go_simp⟩ ?_
 repeat
  apply Cv
  ·rfl
  ·intro w1 hw1
   have hx:=hw1.2;simp only[List.mem_cons,List.not_mem_nil,forall_eq_or_imp,or_false,forall_eq] at hx
   go_simp
   first|rfl|exact Cg hw1 (Kt _ _ _ _ _ _ _)|exact Cg hw1 (J8 _ _ _)
  go_simp
 refine wpQuiet_nil ?_;intro w1 hCw1;have hb:=hCw1.1;clear hCw1;go_wp2;go_ret;exact⟨rfl,hb⟩
theorem Agn (ax ay bx bY cx cy:Int) (w:World) :
 Calls Tryz.prog 121 #[.agg #[.int .i64 ax,.int .i64 ay],.agg #[.int .i64 bx,.int .i64 bY],.agg #[.int .i64 cx,.int .i64 cy]] w fun e w'=>e=.returned (.bool (onW (ax,ay) (bx,bY) (cx,cy)))/\Below w.heap.size w w':=by
 go_enter Tryz.func121,Tryz.ntmps121
 go_wp2_with (go_at_call 120;refine(Kt _ _ _ _ _ _ _).mono ?_;rintro e w1 ⟨rfl,hb⟩;obtain⟨hc,hf⟩:=Ah9 hb)
 all_goals go_ret
 all_goals refine⟨Bn ?_,Ao (An (An (An (Below.refl _ _) _) _) _) (by assumption)⟩
 all_goals clear hb hc hf
 all_goals (rw[Bool.eq_iff_iff];simp[onW];try omega)
def J3 (a b c:Int×Int):Bool:=(Bo a b c == 0)&&decide (wrap64 (wrap64 (wrap64 (a.1-b.1)*wrap64 (c.1-b.1))+wrap64 (wrap64 (a.2-b.2)*wrap64 (c.2-b.2))) > 0)
def kq (a b c d:Int×Int):Bool:=onW a b c || onW a b d || onW c d a || onW c d b || (Vc a b c d&&Vc c d a b)
theorem dd (ax ay bx bY cx cy:Int) (w:World) :
 Calls Tryz.prog 84 #[.agg #[.int .i64 ax,.int .i64 ay],.agg #[.int .i64 bx,.int .i64 bY],.agg #[.int .i64 cx,.int .i64 cy]] w fun e w'=>e=.returned (.bool (J3 (ax,ay) (bx,bY) (cx,cy)))/\Below w.heap.size w w':=by
 go_enter Tryz.func84,Tryz.ntmps84
 go_wp2_with (go_at_call 120;refine(Kt _ _ _ _ _ _ _).mono ?_;rintro e w1 ⟨rfl,hb⟩;obtain⟨hc,hf⟩:=Ah9 hb)
 all_goals go_ret
 all_goals refine⟨Bn ?_,Ao (An (An (An (Below.refl _ _) _) _) _) (by assumption)⟩
 all_goals clear hb hc hf
 all_goals (rw[Bool.eq_iff_iff];simp[J3];try omega)
theorem x9 (ax ay bx bY cx cy dx dy:Int) (w:World) :
 Calls Tryz.prog 85 #[.agg #[.int .i64 ax,.int .i64 ay],.agg #[.int .i64 bx,.int .i64 bY],.agg #[.int .i64 cx,.int .i64 cy],.agg #[.int .i64 dx,.int .i64 dy]] w fun e w'=>e=.returned (.bool (kq (ax,ay) (bx,bY) (cx,cy) (dx,dy)))/\Below w.heap.size w w':=by
 go_enter Tryz.func85,Tryz.ntmps85
 go_wp2_with (first|(go_at_call 121;refine(Agn _ _ _ _ _ _ _).mono ?_;rintro e w1 ⟨rfl,hb⟩;(first|(have hC:=Cls.call hC hb)|(have hC:Cls w [(⟨w.heap.size,0,none⟩,.int .i64 ax),(⟨w.heap.size,1,none⟩,.int .i64 ay),(⟨w.heap.size+1,0,none⟩,.int .i64 bx),(⟨w.heap.size+1,1,none⟩,.int .i64 bY),(⟨w.heap.size+1+1,0,none⟩,.int .i64 cx),(⟨w.heap.size+1+1,1,none⟩,.int .i64 cy),(⟨w.heap.size+1+1+1,0,none⟩,.int .i64 dx),(⟨w.heap.size+1+1+1,1,none⟩,.int .i64 dy)] w1:=Cls.call ⟨(An (An (An (An (Below.refl _ _) _) _) _) _),by simp only[List.mem_cons,List.not_mem_nil,forall_eq_or_imp,or_false,forall_eq];go_simp⟩ hb));clear hb;have hx:=hC.2;simp only[List.mem_cons,List.not_mem_nil,forall_eq_or_imp,or_false,forall_eq] at hx)|(go_at_call 122;refine(aa _ _ _ _ _ _ _ _ _).mono ?_;rintro e w1 ⟨rfl,hb⟩;(first|(have hC:=Cls.call hC hb)|(have hC:Cls w [(⟨w.heap.size,0,none⟩,.int .i64 ax),(⟨w.heap.size,1,none⟩,.int .i64 ay),(⟨w.heap.size+1,0,none⟩,.int .i64 bx),(⟨w.heap.size+1,1,none⟩,.int .i64 bY),(⟨w.heap.size+1+1,0,none⟩,.int .i64 cx),(⟨w.heap.size+1+1,1,none⟩,.int .i64 cy),(⟨w.heap.size+1+1+1,0,none⟩,.int .i64 dx),(⟨w.heap.size+1+1+1,1,none⟩,.int .i64 dy)] w1:=Cls.call ⟨(An (An (An (An (Below.refl _ _) _) _) _) _),by simp only[List.mem_cons,List.not_mem_nil,forall_eq_or_imp,or_false,forall_eq];go_simp⟩ hb));clear hb;have hx:=hC.2;simp only[List.mem_cons,List.not_mem_nil,forall_eq_or_imp,or_false,forall_eq] at hx))
 all_goals go_ret
 all_goals refine⟨Bn ?_,hC.1⟩
 all_goals clear hx hC
 all_goals (rw[Bool.eq_iff_iff];simp[kq, *])
def gt (l:List (Int×Int)) (k:Nat):Int×Int:=l.getD k (0,0)
def SpS (w:World) (A:Option Addr) (n:Nat) (l:List (Int×Int)):Prop :=
 l.length=n/\(n=0\/∃b off,A=some ⟨b,off,none⟩/\∀k,k<n->w.cell? ⟨b,off+k*2,none⟩=some (.int .i64 (gt l k).1)/\w.cell? ⟨b,off+k*2+1,none⟩=some (.int .i64 (gt l k).2))
theorem SpS.at_ {w:World} {A:Option Addr} {n:Nat} {l:List (Int×Int)} (h:SpS w A n l) {k:Nat} (hk:k<n):∃b off,A=some ⟨b,off,none⟩/\b<w.heap.size/\∀k,k<n->w.cell? ⟨b,off+k*2,none⟩=some (.int .i64 (gt l k).1)/\w.cell? ⟨b,off+k*2+1,none⟩=some (.int .i64 (gt l k).2):=by
 obtain⟨h1,h⟩:=h;rcases h with rfl|⟨b,off,rfl,h⟩
 ·omega
 ·exact⟨b,off,rfl,Bj (h k hk).1,h⟩
theorem SpS.keep {w w':World} {A:Option Addr} {n:Nat} {l:List (Int×Int)} (h:SpS w A n l) (hb:Below w.heap.size w w'):SpS w' A n l:=by
 refine⟨h.1,?_⟩;obtain⟨h1,h⟩:=h;rcases h with rfl|⟨b,off,rfl,h⟩
 ·exact .inl rfl
 ·exact .inr ⟨b,off,rfl,fun k hk=>⟨Aq hb (h k hk).1,Aq hb (h k hk).2⟩⟩
theorem Aal {f:Nat->Bool} {k:Nat} (h:(List.range k).all f=true) (h2:f k=true):(List.range (k+1)).all f=true:=by
 rw[List.range_succ,List.all_append,h];simp[h2]
theorem Aez {f:Nat->Bool} {k n:Nat} (hk:k<n) (h2:f k=false):(List.range n).all f=false:=by
 rw[List.all_eq_false];exact⟨k,by simpa using hk,by simp[h2]⟩
theorem Aak {f:Nat->Bool} {k:Nat} (h:(List.range k).any f=false) (h2:f k=false):(List.range (k+1)).any f=false:=by
 rw[List.range_succ,List.any_append,h];simp[h2]
theorem Aey {f:Nat->Bool} {k n:Nat} (hk:k<n) (h2:f k=true):(List.range n).any f=true:=by
 rw[List.any_eq_true];exact⟨k,by simpa using hk,h2⟩
def Cx (f:Nat->Bool) (n:Nat):Int:=match (List.range n).find? f with|some i=>(i:Int)|none => -1
def Bq (f:Nat->Bool) (n:Nat):Bool:=(List.range n).any f
def Jq (f:Nat->Bool) (n:Nat):Bool:=(List.range n).all f
theorem Jq.zero (f:Nat->Bool):Jq f 0=true:=rfl
theorem Bq.zero (f:Nat->Bool):Bq f 0=false:=rfl
theorem Jq.succ {f:Nat->Bool} {k:Nat} (h:Jq f k=true) (h2:f k=true):Jq f (k+1)=true:=Aal h h2
theorem Jq.no {f:Nat->Bool} {k n:Nat} (hk:k<n) (h2:f k=false):Jq f n=false:=Aez hk h2
theorem Bq.succ {f:Nat->Bool} {k:Nat} (h:Bq f k=false) (h2:f k=false):Bq f (k+1)=false:=Aak h h2
theorem Bq.yes {f:Nat->Bool} {k n:Nat} (hk:k<n) (h2:f k=true):Bq f n=true:=Aey hk h2
theorem Fa {f:Nat->Bool} {n:Nat} (h:Bq f n=false):Cx f n = -1:=by
 unfold Cx
 have:(List.range n).find? f=none:=by
  rw[List.find?_eq_none];intro x hx hf;have:=(List.any_eq_false.1 h) x hx;exact this hf
 rw[this]
theorem Gv {f:Nat->Bool} {k n:Nat} (hk:k<n) (h:Bq f k=false) (h2:f k=true):Cx f n=k:=by
 unfold Cx
 have:(List.range n).find? f=some k:=by
  have e:List.range n=List.range k++(List.range' k (n-k)):=by
   have h:=List.range'_append_1 (s:=0) (m:=k) (n:=n-k);rw[List.range_eq_range',List.range_eq_range',show n=k+(n-k) by omega,<-h];simp
  rw[e,List.find?_append]
  have h3:(List.range k).find? f=none:=by
   rw[List.find?_eq_none];intro x hx hf;exact(List.any_eq_false.1 h) x hx hf
  rw[h3];obtain⟨m,hm⟩:∃m,n-k=m+1:=⟨n-k-1,by omega⟩
  rw[hm,List.range'_succ];simp[h2]
 rw[this]
theorem Hg (f:Nat->Bool) (n:Nat):decide (0<=Cx f n)=Bq f n:=by
 unfold Cx Bq;cases h:(List.range n).find? f with
 | none =>
   rw[List.find?_eq_none] at h;have:(List.range n).any f=false:=by rw[List.any_eq_false];intro x hx;simpa using h x hx
   simp[this]
 | some i =>
   have h1:=List.find?_some h;have h2:=List.mem_of_find?_eq_some h;have:(List.range n).any f=true:=List.any_eq_true.2 ⟨i,h2,h1⟩;simp[this]
theorem Jq.mono {f:Nat->Bool} {k n:Nat} (h:Jq f k=true) (hn:n<=k):Jq f n=true:=by
 unfold Jq at *
 rw[List.all_eq_true] at *
 intro x hx;exact h x (by simp at *;omega)
theorem Jq.start {f:Nat->Bool} {k:Nat} (h:∀i,i<k->f i=true):Jq f k=true:=by
 unfold Jq;rw[List.all_eq_true];intro x hx;exact h x (by simpa using hx)
theorem Jq.iff {f:Nat->Bool} {k:Nat}:Jq f k=true↔∀i,i<k->f i=true:=by
 unfold Jq;rw[List.all_eq_true];simp
theorem Bq.iff {f:Nat->Bool} {k:Nat}:Bq f k=true↔∃i,i<k/\f i=true:=by
 unfold Bq;rw[List.any_eq_true];simp
theorem ma {l:List (Int×Int)} {i k:Nat} (h:k<i):gt (l.take i) k=gt l k:=by
 unfold gt;simp[List.getD,List.getElem?_take,h]
theorem SpS.take {w:World} {A:Option Addr} {n:Nat} {l:List (Int×Int)} (h:SpS w A n l) {i:Nat} (hi:i<=n):SpS w A i (l.take i):=by
 refine⟨by rw[List.length_take,h.1];omega,?_⟩
 obtain⟨h1,h⟩:=h;rcases h with rfl|⟨b,off,rfl,h⟩
 ·exact .inl (by omega)
 ·refine .inr ⟨b,off,rfl,fun k hk=>?_⟩
  rw[ma hk];exact h k (by omega)
theorem Bq.congr {f g:Nat->Bool} {n:Nat} (h:∀i,i<n->f i=g i):Bq f n=Bq g n:=by
 rw[Bool.eq_iff_iff,Bq.iff,Bq.iff];exact⟨fun ⟨i,h1,h2⟩=>⟨i,h1,by rw[<-h i h1];exact h2⟩,fun ⟨i,h1,h2⟩=>⟨i,h1,by rw[h i h1];exact h2⟩⟩
theorem SpS.cells {w:World} {b off n:Nat} {l:List (Int×Int)} (h:SpS w (some ⟨b,off,none⟩) n l) {k:Nat} (hk:k<n):w.cell? ⟨b,off+k*2,none⟩=some (.int .i64 (gt l k).1)/\w.cell? ⟨b,off+k*2+1,none⟩=some (.int .i64 (gt l k).2):=by
 obtain⟨h1,h⟩:=h;rcases h with rfl|⟨b',off',e,h⟩
 ·omega
 ·injection e with e
  injection e with e1 e2
  subst e1 e2;exact h k hk
theorem Gx (z:Int) (h1 : -9223372036854775808<=z) (h2:z<=9223372036854775807):IntKind.i64.wrap z=z:=IntWalk.i64_in z ⟨h1,h2⟩
theorem Fe (k c:Nat) (h:k+c<=1000000000000):IntKind.i64.wrap ((k:Int)+(c:Int))=(k:Int)+(c:Int):=Gx _ (by omega) (by omega)
theorem Ah0 (k n:Nat):((k:Int)+1) % (n:Int)=(((k+1) % n:Nat):Int):=by
 rw[Int.natCast_emod];rfl
theorem X4 (z:Int) (a n:Nat) (hz:z=(a:Int)) (hn:0<n):z.tmod (n:Int)=z % (n:Int)/\0<=z % (n:Int)/\z % (n:Int)<(n:Int)/\(z % (n:Int)).toNat=a % n:=by
 subst hz;refine⟨by rw[<-Int.ofNat_tmod,Int.natCast_emod],Int.emod_nonneg _ (by omega),Int.emod_lt_of_pos _ (by omega),?_⟩
 rw[<-Int.natCast_emod,Int.toNat_natCast]
theorem Ah8 {n:Nat} (h:0<n):((n:Int) == 0)=false:=by
 rw[beq_eq_false_iff_ne];omega
def eqS (p q:Int×Int):Bool:=p.1 == q.1&&p.2 == q.2
theorem Vy (p q:Int×Int):eqS p q=true↔p=q:=by
 obtain⟨a,b⟩:=p;obtain⟨c,d⟩:=q;simp[eqS]
theorem Gw (a b c d:Int) (w:World):(Op.equalIn 10000 49 (.agg #[.int .i64 a,.int .i64 b]) (.agg #[.int .i64 c,.int .i64 d])).run Tryz.prog w=.ok (eqS (a,b) (c,d)) w:=by
 have u3:=Tryz.underlying3;have a3:=Tryz.isAgg3;have z3:=Tryz.sizeOf3;have hS:Tryz.prog.underlying 49=some (.struct (Tryz.prog.fieldsOf 49)):=by kernel_rfl
 have hp:Tryz.prog.stoodInHeld 49=false:=by kernel_rfl
 rw[show (10000:Nat)=9999+1 from rfl,run_equalIn_agg w 9999 49 _ _ hS hp]
 simp only[Program.fieldsOf,Tryz.underlying49]
 go_simp
 by_cases h1:a=c<;>by_cases h2:b=d<;>simp[h1,h2,eqS]
theorem bz (A:Option Addr) (cap n:Nat) (l:List (Int×Int)) (w:World) (hl:n<=1000000) (hs:SpS w A n l) :
 Calls Tryz.prog 82 #[.slice A n cap,.func (.func 57) #[] #[]] w fun e w'=>e=.returned (.int .i64 (Cx (fun i=>Ce 1048576 (gt l i)) n))/\Below w.heap.size w w':=by
 go_enter Tryz.func82,Tryz.ntmps82;go_wp2_with fail;go_loopw [8] (fun i wr=>∃k:Nat,k<=n/\i=.int .i64 k/\Hid (Bq (fun i=>Ce 1048576 (gt l i)) k=false)/\Below w.heap.size w wr) (fun i _=>n-(intOf i).toNat)
 case atStart=>exact⟨0,Nat.zero_le _,rfl,Bq.zero _,Below.refl _ _⟩
 case round =>
  obtain⟨k,hk,rfl,hp,hb⟩:=hrel;by_cases hlt:k<n
  ·obtain⟨b,off,rfl,hbl,hc⟩:=hs.at_ hlt
   have h1:=Aq hb (hc k hlt).1;have h2:=Aq hb (hc k hlt).2;clear hc
   go_wp2_with (go_at_call 57;refine(Vd _ _ _).mono ?_;rintro e w1 ⟨rfl,hb1⟩;have hb2:=Ao hb hb1;clear hb1)
   ·go_ret
    exact⟨Bh (Gv hlt hp.out (by assumption)).symm,hb2⟩
   ·go_roundw
    case rel=>exact⟨k+1,by omega,by go_num,Bq.succ hp.out (by simpa using ‹_›),hb2⟩
    case measure=>simp[intOf];omega
  ·obtain rfl:n=k:=by omega
   go_wp2_with fail;go_ret;exact⟨Bh (Fa hp.out).symm,hb⟩
theorem Ol (A:Option Addr) (cap n:Nat) (l:List (Int×Int)) (w:World) (hl:n<=1000000) (hs:SpS w A n l) :
 Calls Tryz.prog 56 #[.slice A n cap,.func (.func 57) #[] #[]] w fun e w'=>e=.returned (.bool (Bq (fun i=>Ce 1048576 (gt l i)) n))/\Below w.heap.size w w':=by
 go_enter Tryz.func56,Tryz.ntmps56
 go_wp2_with (go_at_call 82;refine(bz _ _ _ _ _ hl hs).mono ?_;rintro e w1 ⟨rfl,hb1⟩)
 go_ret;exact⟨Bn (Hg _ _),hb1⟩
theorem l8 (A:Option Addr) (cap n:Nat) (l:List (Int×Int)) (x y:Int) (w:World) (hl:n<=1000000) (hs:SpS w A n l) :
 Calls Tryz.prog 119 #[.slice A n cap,.agg #[.int .i64 x,.int .i64 y]] w fun e w'=>e=.returned (.int .i64 (Cx (fun i=>eqS (x,y) (gt l i)) n))/\Below w.heap.size w w':=by
 have heq:=Gw;go_enter Tryz.func119,Tryz.ntmps119;go_wp2_with fail;go_loopw [8] (fun i wr=>∃k:Nat,k<=n/\i=.int .i64 k/\Hid (Bq (fun i=>eqS (x,y) (gt l i)) k=false)/\Cls w [(⟨w.heap.size,0,none⟩,.int .i64 x),(⟨w.heap.size,1,none⟩,.int .i64 y)] wr) (fun i _=>n-(intOf i).toNat)
 case atStart=>exact⟨0,Nat.zero_le _,rfl,Bq.zero _,(An (Below.refl _ _) _),by simp only[List.mem_cons,List.not_mem_nil,forall_eq_or_imp,or_false,forall_eq];go_simp⟩
 case round =>
  obtain⟨k,hk,rfl,hp,hC⟩:=hrel;by_cases hlt:k<n
  ·obtain⟨b,off,rfl,hbl,hc⟩:=hs.at_ hlt
   have h1:=Aq hC.1 (hc k hlt).1;have h2:=Aq hC.1 (hc k hlt).2;have hx:=hC.2;simp only[List.mem_cons,List.not_mem_nil,forall_eq_or_imp,or_false,forall_eq] at hx;clear hc;go_wp2_with fail
   go_quiet (fail)
   have hC2:Cls w [(⟨w.heap.size,0,none⟩,.int .i64 x),(⟨w.heap.size,1,none⟩,.int .i64 y)] (wr.drewN nq):=⟨Bg hC.1 _,hC.2⟩;clear hC;go_wp2_with fail
   ·go_ret
    exact⟨Bh (Gv hlt hp.out (by assumption)).symm,hC2.1⟩
   ·go_roundw
    case rel=>exact⟨k+1,by omega,by go_num,Bq.succ hp.out (by simpa using ‹_›),hC2⟩
    case measure=>simp[intOf];omega
  ·obtain rfl:n=k:=by omega
   go_wp2_with fail;go_ret;exact⟨Bh (Fa hp.out).symm,hC.1⟩
theorem T7 (A:Option Addr) (cap n:Nat) (l:List (Int×Int)) (x y:Int) (w:World) (hl:n<=1000000) (hs:SpS w A n l) :
 Calls Tryz.prog 83 #[.slice A n cap,.agg #[.int .i64 x,.int .i64 y]] w fun e w'=>e=.returned (.bool (Bq (fun i=>eqS (x,y) (gt l i)) n))/\Below w.heap.size w w':=by
 go_enter Tryz.func83,Tryz.ntmps83
 go_wp2_with (go_at_call 119;refine(l8 _ _ _ _ _ _ _ hl (hs.keep (An (Below.refl _ _) _))).mono ?_;rintro e w1 ⟨rfl,hb1⟩)
 go_ret;exact⟨Bn (Hg _ _),Ao (An (Below.refl _ _) _) hb1⟩
def Aej (l:List (Int×Int)) (i:Nat):Bool:=Bq (fun j=>eqS (gt l i) (gt l j)) i
def bn (l:List (Int×Int)) (n i k:Nat):Bool:=decide (k<i+2) || decide ((k+1) % n=i) || !kq (gt l i) (gt l ((i+1) % n)) (gt l k) (gt l ((k+1) % n))
def ir (l:List (Int×Int)) (n i:Nat):Bool:=!J3 (gt l i) (gt l ((i+1) % n)) (gt l ((i+2) % n))&&Jq (bn l n i) n
def Dz (l:List (Int×Int)) (n:Nat):Bool:=Jq (fun i=>!Aej l i) n&&Jq (ir l n) n
theorem Aby {l:List (Int×Int)} {k:Nat} {r:Bool} (h:Bq (fun i=>eqS ((gt l k).1,(gt l k).2) (gt (l.take k) i)) k=r):Aej l k=r:=by
 rw[<-h];unfold Aej;exact Bq.congr fun i hi=>by rw[ma hi]
theorem il {l:List (Int×Int)} {n k:Nat} (hk:k<n) (h:Aej l k=true):Dz l n=false:=by
 unfold Dz;rw[Jq.no hk (by rw[h];rfl)];rfl
theorem Sr {l:List (Int×Int)} {n k:Nat} (hk:k<n) (h:J3 (gt l k) (gt l ((k+1) % n)) (gt l ((k+2) % n))=true):Dz l n=false:=by
 have:ir l n k=false:=by unfold ir;rw[h];rfl
 unfold Dz;rw[Jq.no (f:=ir l n) hk this,Bool.and_false]
theorem ik {l:List (Int×Int)} {n k j:Nat} (hk:k<n) (hj:j<n) (h1:k+2<=j) (h2:¬(j+1) % n=k) (h:kq (gt l k) (gt l ((k+1) % n)) (gt l j) (gt l ((j+1) % n))=true):Dz l n=false:=by
 have h3:bn l n k j=false:=by unfold bn;rw[h];simp[h2];omega
 have:ir l n k=false:=by unfold ir;rw[Jq.no hj h3,Bool.and_false]
 unfold Dz;rw[Jq.no (f:=ir l n) hk this,Bool.and_false]
theorem Af3 {l:List (Int×Int)} {n k:Nat} (hf:J3 (gt l k) (gt l ((k+1) % n)) (gt l ((k+2) % n))=false) (h:Jq (bn l n k) n=true):ir l n k=true:=by
 unfold ir;rw[hf,h];rfl
theorem yj {l:List (Int×Int)} {n k j:Nat} (h:Jq (bn l n k) j=true) (hm:kq (gt l k) (gt l ((k+1) % n)) (gt l j) (gt l ((j+1) % n))=false):Jq (bn l n k) (j+1)=true :=
 Jq.succ h (by unfold bn;rw[hm];simp)
theorem Adu {l:List (Int×Int)} {n k j:Nat} (h:Jq (bn l n k) j=true) (hj:j<n) (h1:k+2<=j) (h2:(j+1) % n=k):Jq (bn l n k) n=true:=by
 have h3:j+1=n:=by
  rcases Nat.lt_or_ge (j+1) n with h4|h4
  ·rw[Nat.mod_eq_of_lt h4] at h2;omega
  ·omega
 have h5:=Jq.succ h (show bn l n k j=true by unfold bn;simp[h2])
 rw[h3] at h5;exact h5
theorem uy {l:List (Int×Int)} {n:Nat} (h1:Jq (fun i=>!Aej l i) n=true) (h2:Jq (ir l n) n=true):Dz l n=true:=by
 unfold Dz;rw[h1,h2];rfl
theorem Zs (b off cap n:Nat) (l:List (Int×Int)) (w:World) (hl:n<=1000) (h3:3<=n) (hcap:n<=cap) (hs:SpS w (some ⟨b,off,none⟩) n l) :
 Calls Tryz.prog 58 #[.slice (some ⟨b,off,none⟩) n cap] w fun e w'=>e=.returned (.bool (Dz l n))/\Below w.heap.size w w':=by
 go_enter Tryz.func58,Tryz.ntmps58;go_wp2_with fail;go_loopw [14] (fun i wr=>∃k:Nat,k<=n/\i=.int .i64 k/\Hid (Jq (fun i=>!Aej l i) k=true)/\Below w.heap.size w wr) (fun i _=>n-(intOf i).toNat)
 case atStart=>exact⟨0,Nat.zero_le _,rfl,Jq.zero _,Below.refl _ _⟩
 case round =>
  obtain⟨k,hk,rfl,hp,hb⟩:=hrel;by_cases hlt:k<n
  ·obtain⟨h1,h2⟩:=(hs.keep hb).cells hlt
   have hkc:(k:Int)<=(cap:Int):=by omega
   go_wp2_with fail;refine Bi w [(⟨wr.heap.size,0,none⟩,.int .i64 (gt l k).1),(⟨wr.heap.size,1,none⟩,.int .i64 (gt l k).2)] (by kernel_rfl) (by kernel_rfl) ⟨An hb _,by simp only[List.mem_cons,List.not_mem_nil,forall_eq_or_imp,or_false,forall_eq];go_simp⟩ ?_
   repeat
    apply Cv
    ·rfl
    ·intro w1 hw1
     have hx:=hw1.2;simp only[List.mem_cons,List.not_mem_nil,forall_eq_or_imp,or_false,forall_eq] at hx
     go_simp
     first|rfl|exact Cg hw1 (T7 _ _ _ (l.take k) _ _ _ (by omega) ((hs.keep hw1.1).take hk))
    go_simp
   refine wpQuiet_nil ?_;intro w1 hCw1;have hb2:=hCw1.1;clear hCw1 h1 h2;go_wp2_with fail
   ·go_ret
    exact⟨Bn (il hlt (Aby ‹_›)).symm,hb2⟩
   ·go_roundw
    case rel=>exact⟨k+1,by omega,by go_num,Jq.succ hp.out (by rw[Aby (by simpa using ‹_›)];rfl),hb2⟩
    case measure=>simp[intOf];omega
  ·obtain rfl:n=k:=by omega
   have hp0:=hp;clear hp;obtain⟨wo,rfl⟩:∃wo:World,wo=wr:=⟨_,rfl⟩
   go_wp2_with fail;go_loopw [27] (fun i wr=>∃k:Nat,k<=n/\i=.int .i64 k/\Hid (Jq (ir l n) k=true)/\Below w.heap.size w wr) (fun i _=>n-(intOf i).toNat)
   case atStart=>exact⟨0,Nat.zero_le _,rfl,Jq.zero _,hb⟩
   case round =>
    clear hb;obtain⟨k,hk,rfl,hp,hb⟩:=hrel;by_cases hlt:k<n
    ·obtain⟨h1,h2⟩:=(hs.keep hb).cells hlt
     have hm1:(k+1) % n<n:=Nat.mod_lt _ (by omega)
     have hm2:(k+2) % n<n:=Nat.mod_lt _ (by omega)
     obtain⟨h3,h4⟩:=(hs.keep hb).cells hm1;obtain⟨h5,h6⟩:=(hs.keep hb).cells hm2;have hbl:b<wr.heap.size:=Bj h1;have m1:=(X4 ((k:Int)+1) (k+1) n rfl (by omega)).2
     go_wp2_with fail;have q1:IntKind.i64.wrap ((k:Int)+2)=(k:Int)+2:=Fe k 2 (by omega)
     have q2:=X4 ((k:Int)+2) (k+2) n rfl (by omega)
     have q3:¬n=0:=by omega
     refine Bi w [(⟨wr.heap.size,0,none⟩,.int .i64 (gt l k).1),(⟨wr.heap.size,1,none⟩,.int .i64 (gt l k).2),(⟨wr.heap.size+1,0,none⟩,.int .i64 (gt l ((k+1) % n)).1),(⟨wr.heap.size+1,1,none⟩,.int .i64 (gt l ((k+1) % n)).2),(⟨b,off+(k+2) % n*2,none⟩,.int .i64 (gt l ((k+2) % n)).1),(⟨b,off+(k+2) % n*2+1,none⟩,.int .i64 (gt l ((k+2) % n)).2)] (by kernel_rfl) (by kernel_rfl) ⟨An (An hb _) _,by simp only[List.mem_cons,List.not_mem_nil,forall_eq_or_imp,or_false,forall_eq];go_simp⟩ ?_
     repeat
      apply Cv
      ·rfl
      ·intro w1 hw1
       have hx:=hw1.2;simp only[List.mem_cons,List.not_mem_nil,forall_eq_or_imp,or_false,forall_eq] at hx
       go_simp
       first|rfl|exact Cg hw1 (dd _ _ _ _ _ _ _)
      go_simp
     refine wpQuiet_nil ?_;intro w1 hCw1;clear q1 q2 q3 h1 h2 h3 h4 h5 h6 hm2 hbl m1;obtain⟨B,hB⟩:∃B,B=wr.heap.size:=⟨_,rfl⟩
     rw[<-hB] at hCw1 ⊢;have hC:Cls w [(⟨B,0,none⟩,.int .i64 (gt l k).1),(⟨B,1,none⟩,.int .i64 (gt l k).2),(⟨B+1,0,none⟩,.int .i64 (gt l ((k+1) % n)).1),(⟨B+1,1,none⟩,.int .i64 (gt l ((k+1) % n)).2)] w1:=⟨hCw1.1,fun x hx=>hCw1.2 x (by simp only[List.mem_cons,List.not_mem_nil,or_false] at hx ⊢;rcases hx with h|h|h|h<;>simp[h])⟩
     clear hCw1 hB hb;go_wp2_with fail
     ·go_ret
      exact⟨Bn (Sr hlt ‹_›).symm,hC.1⟩
     ·rename_i hfold
      have hfo:=Lib.hid hfold;clear hfold;go_loopw [9] (fun i wr=>∃j:Nat,k+2<=j/\j<=n+2/\i=.int .i64 j/\Hid (Jq (bn l n k) j=true)/\Cls w [(⟨B,0,none⟩,.int .i64 (gt l k).1),(⟨B,1,none⟩,.int .i64 (gt l k).2),(⟨B+1,0,none⟩,.int .i64 (gt l ((k+1) % n)).1),(⟨B+1,1,none⟩,.int .i64 (gt l ((k+1) % n)).2)] wr) (fun i _=>n+2-(intOf i).toNat)
      case atStart=>exact⟨k+2,by omega,by omega,by go_num,Jq.start (fun i hi=>by unfold bn;simp[hi]),hC⟩
      case round =>
       clear hC;obtain⟨j,hj1,hj2,rfl,hq,hC⟩:=hrel;have hx:=hC.2;simp only[List.mem_cons,List.not_mem_nil,forall_eq_or_imp,or_false,forall_eq] at hx;by_cases hjn:j<n
       ·have hm3:(j+1) % n<n:=Nat.mod_lt _ (by omega)
        by_cases hjk:(j+1) % n=k
        ·have q1:(((j:Int)+1) % (n:Int) != (k:Int))=false:=by
          rw[show ((j:Int)+1) % (n:Int)=(((j+1) % n:Nat):Int) from Ah0 j n,hjk];simp
         have HJ:=Lib.hid hjk;clear hjk;go_wp2_with fail;exact⟨⟨k+1,by omega,by go_num,Jq.succ hp.out (Af3 (by simpa using hfo.out) (Adu hq.out hjn hj1 HJ.out)),hC.1⟩,by simp[intOf];omega⟩
        ·have q1:(((j:Int)+1) % (n:Int) != (k:Int))=true:=by
          rw[show ((j:Int)+1) % (n:Int)=(((j+1) % n:Nat):Int) from Ah0 j n,bne_iff_ne];omega
         have HJ:=Lib.hid hjk;clear hjk;obtain⟨h1,h2⟩:=(hs.keep hC.1).cells hjn;obtain⟨h5,h6⟩:=(hs.keep hC.1).cells hm3;go_wp2_with fail;have q4:IntKind.i64.wrap ((j:Int)+1)=(j:Int)+1:=Fe j 1 (by omega)
         have q2:=X4 ((j:Int)+1) (j+1) n rfl (by omega)
         have q3:¬n=0:=by omega
         refine Bi w [(⟨B,0,none⟩,.int .i64 (gt l k).1),(⟨B,1,none⟩,.int .i64 (gt l k).2),(⟨B+1,0,none⟩,.int .i64 (gt l ((k+1) % n)).1),(⟨B+1,1,none⟩,.int .i64 (gt l ((k+1) % n)).2),(⟨b,off+j*2,none⟩,.int .i64 (gt l j).1),(⟨b,off+j*2+1,none⟩,.int .i64 (gt l j).2),(⟨b,off+(j+1) % n*2,none⟩,.int .i64 (gt l ((j+1) % n)).1),(⟨b,off+(j+1) % n*2+1,none⟩,.int .i64 (gt l ((j+1) % n)).2)] (by kernel_rfl) (by kernel_rfl) ⟨hC.1,by simp only[List.mem_cons,List.not_mem_nil,forall_eq_or_imp,or_false,forall_eq];go_simp⟩ ?_
         repeat
          apply Cv
          ·rfl
          ·intro w1 hw1
           have hx:=hw1.2;simp only[List.mem_cons,List.not_mem_nil,forall_eq_or_imp,or_false,forall_eq] at hx
           go_simp
           first|rfl|exact Cg hw1 (x9 _ _ _ _ _ _ _ _ _)
          go_simp
         refine wpQuiet_nil ?_;intro w1 hCw1;clear q1 q2 q3 q4 h1 h2 h5 h6;have hC':Cls w [(⟨B,0,none⟩,.int .i64 (gt l k).1),(⟨B,1,none⟩,.int .i64 (gt l k).2),(⟨B+1,0,none⟩,.int .i64 (gt l ((k+1) % n)).1),(⟨B+1,1,none⟩,.int .i64 (gt l ((k+1) % n)).2)] w1:=⟨hCw1.1,fun x hx=>hCw1.2 x (by simp only[List.mem_cons,List.not_mem_nil,or_false] at hx ⊢;rcases hx with h|h|h|h<;>simp[h])⟩
         clear hCw1 hC hx;go_wp2_with fail
         ·go_ret
          exact⟨Bn (ik hlt hjn hj1 HJ.out ‹_›).symm,hC'.1⟩
         ·go_roundw
          case rel=>exact⟨j+1,by omega,by omega,by go_num,yj hq.out (by simpa using ‹_›),hC'⟩
          case measure=>simp[intOf];omega
       ·go_wp2_with fail
        exact⟨⟨k+1,by omega,by go_num,Jq.succ hp.out (Af3 (by simpa using hfo.out) (Jq.mono hq.out (by omega))),hC.1⟩,by simp[intOf];omega⟩
    ·obtain rfl:n=k:=by omega
     go_wp2_with fail;go_ret;exact⟨Bn (uy hp0.out hp.out).symm,hb⟩
def Bf (l:List (Int×Int)) (n:Nat):Int :=
 if n > 40 then 5 else if n<3 then 11 else if Bq (fun i=>Ce 1048576 (gt l i)) n then 3 else if Dz l n then 0 else 11
theorem J9 {l:List (Int×Int)} {n:Nat} (h:40<n):Bf l n=5:=by unfold Bf;rw[if_pos (by omega)]
theorem Mj {l:List (Int×Int)} {n:Nat} (h:n<3):Bf l n=11:=by unfold Bf;rw[if_neg (by omega),if_pos (by omega)]
theorem ec {l:List (Int×Int)} {n:Nat} (h:¬40<n) (h2:¬n<3) (h3:Bq (fun i=>Ce 1048576 (gt l i)) n=true):Bf l n=3:=by unfold Bf;rw[if_neg (by omega),if_neg (by omega),if_pos h3]
theorem ef {l:List (Int×Int)} {n:Nat} (h:¬40<n) (h2:¬n<3) (h3:Bq (fun i=>Ce 1048576 (gt l i)) n=false) (h4:Dz l n=false):Bf l n=11:=by unfold Bf;rw[if_neg (by omega),if_neg (by omega),if_neg (by rw[h3];simp),if_neg (by rw[h4];simp)]
theorem qt {l:List (Int×Int)} {n:Nat} (h:¬40<n) (h2:¬n<3) (h3:Bq (fun i=>Ce 1048576 (gt l i)) n=false) (h4:Dz l n=true):Bf l n=0:=by unfold Bf;rw[if_neg (by omega),if_neg (by omega),if_neg (by rw[h3];simp),if_pos h4]
theorem Cz (A:Option Addr) (cap n:Nat) (l:List (Int×Int)) (w:World) (hl:n<=9223372036854775807) (hcap:n<=cap) (hs:SpS w A n l) :
 Calls Tryz.prog 33 #[.slice A n cap] w fun e w'=>e=.returned (.int .i64 (Bf l n))/\Below w.heap.size w w':=by
 by_cases h1:40<n
 ·go_enter Tryz.func33,Tryz.ntmps33
  go_wp2_with fail;go_ret;exact⟨Bh (J9 h1).symm,Below.refl _ _⟩
 by_cases h2:n<3
 ·go_enter Tryz.func33,Tryz.ntmps33
  go_wp2_with fail;go_ret;exact⟨Bh (Mj h2).symm,Below.refl _ _⟩
 obtain⟨b,off,rfl,-,-⟩:=hs.at_ (k:=0) (by omega)
 go_enter Tryz.func33,Tryz.ntmps33
 go_wp2_with (first|(go_at_call 56;refine(Ol _ _ _ l _ (by omega) hs).mono ?_;rintro e w1 ⟨rfl,hb1⟩)|(go_at_call 58;refine(Zs _ _ _ _ l _ (by omega) (by omega) hcap (hs.keep hb1)).mono ?_;rintro e w2 ⟨rfl,hb2⟩))
 ·go_ret
  exact⟨Bh (ec h1 h2 ‹_›).symm,hb1⟩
 ·go_ret
  exact⟨Bh (ef h1 h2 ‹Bq _ _=false› (by simpa using ‹(!Dz l n)=true›)).symm,Ao hb1 hb2⟩
 ·go_ret
  exact⟨Bh (qt h1 h2 ‹Bq _ _=false› (by simpa using ‹(!Dz l n)=false›)).symm,Ao hb1 hb2⟩
def Ma (l:List (Int×Int)) (n:Nat):Nat->Int
 | 0=>0
 | k+1=>wrap64 (Ma l n k+wrap64 (wrap64 ((gt l k).1*(gt l ((k+1) % n)).2)-wrap64 ((gt l k).2*(gt l ((k+1) % n)).1)))
theorem Ru (A:Option Addr) (cap n:Nat) (l:List (Int×Int)) (w:World) (hl:n<=1000000) (hcap:n<=cap) (hs:SpS w A n l) :
 Calls Tryz.prog 94 #[.slice A n cap] w fun e w'=>e=.returned (.int .i64 (Ma l n n))/\Below w.heap.size w w':=by
 go_enter Tryz.func94,Tryz.ntmps94;go_wp2_with fail;go_loopw [3,9] (fun s i wr=>∃k:Nat,k<=n/\i=.int .i64 k/\s=.int .i64 (Ma l n k)/\Below w.heap.size w wr) (fun _ i _=>n-(intOf i).toNat)
 case atStart=>exact⟨0,Nat.zero_le _,rfl,rfl,Below.refl _ _⟩
 case round =>
  obtain⟨k,hk,rfl,rfl,hb⟩:=hrel;by_cases hlt:k<n
  ·have hm1:(k+1) % n<n:=Nat.mod_lt _ (by omega)
   have m1:=(X4 ((k:Int)+1) (k+1) n rfl (by omega)).2
   obtain⟨b,off,rfl,-,-⟩:=hs.at_ hlt;obtain⟨h1,h2⟩:=(hs.keep hb).cells hlt;obtain⟨h3,h4⟩:=(hs.keep hb).cells hm1;have hbl:b<wr.heap.size:=Bj h1;go_wp2_with fail;go_roundw
   case rel=>exact⟨k+1,by omega,by go_num,rfl,An (An hb _) _⟩
   case measure=>simp[intOf];omega
  ·obtain rfl:n=k:=by omega
   go_wp2_with fail;go_ret;exact⟨rfl,hb⟩
theorem Un (A:Option Addr) (cap n:Nat) (l:List (Int×Int)) (w:World) (hl:n<=9223372036854775807) (hcap:n<=cap) (hs:SpS w A n l) :
 Calls Tryz.prog 61 #[.slice A n cap] w fun e w'=>e=.returned (.int .i64 (if Bf l n=0 then Ma l n n else 0))/\Below w.heap.size w w':=by
 by_cases hc:Bf l n=0
 ·have hn:n<=40:=by
   rcases Nat.lt_or_ge 40 n with h|h
   ·rw[J9 h] at hc;omega
   ·exact h
  rw[if_pos hc];have HC:=Lib.hid hc;have q:(Bf l n != 0)=false:=by rw[hc];rfl
  clear hc;go_enter Tryz.func61,Tryz.ntmps61
  go_wp2_with (first|(go_at_call 33;refine(Cz _ _ _ l _ hl hcap hs).mono ?_;rintro e w1 ⟨rfl,hb1⟩)|(go_at_call 94;refine(Ru _ _ _ l _ (by omega) hcap (hs.keep hb1)).mono ?_;rintro e w2 ⟨rfl,hb2⟩))
  go_ret;exact⟨rfl,Ao hb1 hb2⟩
 ·rw[if_neg hc]
  have q:(Bf l n != 0)=true:=by rw[bne_iff_ne];exact hc
  clear hc;go_enter Tryz.func61,Tryz.ntmps61
  go_wp2_with (go_at_call 33;refine(Cz _ _ _ l _ hl hcap hs).mono ?_;rintro e w1 ⟨rfl,hb1⟩)
  go_ret;exact⟨rfl,hb1⟩
def Ul (l:List (Int×Int)) (n k:Nat):Int:=Bo (gt l ((k+n-1) % n)) (gt l k) (gt l ((k+1) % n))
theorem Y6 (b off cap n k:Nat) (l:List (Int×Int)) (w:World) (hl:n<=1000000) (hcap:n<=cap) (hs:SpS w (some ⟨b,off,none⟩) n l) (hk:k<n) :
 Calls Tryz.prog 123 #[.slice (some ⟨b,off,none⟩) n cap,.int .i64 k] w fun e w'=>e=.returned (.int .i64 (Ul l n k))/\Below w.heap.size w w':=by
 have hm1:(k+1) % n<n:=Nat.mod_lt _ (by omega)
 have hm2:(k+n-1) % n<n:=Nat.mod_lt _ (by omega)
 obtain⟨h1,h2⟩:=hs.cells hk;obtain⟨h3,h4⟩:=hs.cells hm1;obtain⟨h5,h6⟩:=hs.cells hm2;go_enter Tryz.func123,Tryz.ntmps123;go_wp2_with fail;have m1:=X4 ((k:Int)+1) (k+1) n rfl (by omega)
 have m2:=X4 ((k:Int)+(n:Int)-1) (k+n-1) n (by omega) (by omega)
 have q1:IntKind.i64.wrap ((k:Int)+1)=(k:Int)+1:=Fe k 1 (by omega)
 have q2:IntKind.i64.wrap ((k:Int)+(n:Int))=(k:Int)+(n:Int):=Fe k n (by omega)
 have q3:IntKind.i64.wrap ((k:Int)+(n:Int)-1)=(k:Int)+(n:Int)-1:=Gx _ (by omega) (by omega)
 have q4:¬n=0:=by omega
 refine Bi w [(⟨b,off+k*2,none⟩,.int .i64 (gt l k).1),(⟨b,off+k*2+1,none⟩,.int .i64 (gt l k).2),(⟨b,off+(k+1) % n*2,none⟩,.int .i64 (gt l ((k+1) % n)).1),(⟨b,off+(k+1) % n*2+1,none⟩,.int .i64 (gt l ((k+1) % n)).2),(⟨b,off+(k+n-1) % n*2,none⟩,.int .i64 (gt l ((k+n-1) % n)).1),(⟨b,off+(k+n-1) % n*2+1,none⟩,.int .i64 (gt l ((k+n-1) % n)).2)] (by kernel_rfl) (by kernel_rfl) ⟨Below.refl _ _,by simp only[List.mem_cons,List.not_mem_nil,forall_eq_or_imp,or_false,forall_eq];go_simp⟩ ?_
 repeat
  apply Cv
  ·rfl
  ·intro w1 hw1
   have hx:=hw1.2;simp only[List.mem_cons,List.not_mem_nil,forall_eq_or_imp,or_false,forall_eq] at hx
   go_simp
   first|rfl|exact Cg hw1 (Kt _ _ _ _ _ _ _)
  go_simp
 refine wpQuiet_nil ?_;intro w1 hCw1;have hb:=hCw1.1;clear hCw1 m1 m2 q1 q2 q3;go_wp2_with fail;go_ret;exact⟨rfl,hb⟩
end Go.Proofs.YtpbchbcdgikonaaGreat
