/- Lean texts of the claim. -/
import Derived.Test.YtboghahlhmnblaaGreatRows
import Derived.WalkKit
import Derived.WalkSpells
import Derived.WalkLawsBesides
import Derived.Lib.Hide
import Derived.Deep.QuietTactic
import Derived.BigQuiet
import Derived.IntWalk
import Derived.Laws.StructEq
import Derived.Deep.DeepCutAuto
import Derived.Maps.AppendAt
import Derived.Deep.AppendLies
import Derived.OwnWalk
import Derived.Laws.AppendOwnNone
import Derived.Lib.AppendZerosOnto
import Derived.Deep.RegionHeld3
import Derived.StillTailTactics
namespace Go.Proofs.YtboghahlhmnblaaGreat
set_option linter.all false
set_option maxRecDepth 100000
set_option maxHeartbeats 0
open Go.RowKit Go.Proofs.Tryz
variable{x:Int}{base' id k:Nat}{w w0 w2:World}
abbrev aV:=@Below.refl
abbrev aW:=@List.getElem?_eq_getElem
abbrev aZ:=@Nat.lt_of_lt_of_le
abbrev bA:=@List.length_append
abbrev bB:=@Nat.le_trans
abbrev bC:=@List.length_take
abbrev bD:=@List.mem_append
abbrev bE:=@Nat.mod_lt
abbrev bF:=@Lib.hid
abbrev bG:=@Nat.lt_or_ge
abbrev bH:=@IntKind.wrap_i64
abbrev bI:=@List.getElem?_eq_none
abbrev bJ:=@Nat.pow_le_pow_right
abbrev bK:=@Nat.eq_zero_or_pos
abbrev bL:=@List.eq_nil_of_length_eq_zero
abbrev bM:=@Nat.mul_assoc
abbrev bN:=@Nat.mul_comm
abbrev bO:=@List.mem_cons
abbrev bQ:=@Nat.mul_le_mul_right
abbrev bS:=@List.getElem?_cons_zero
abbrev bT:=@Classical.byContradiction
abbrev bU:=@Nat.add_zero
abbrev bV:=@decide_eq_true
abbrev bZ:=@Nat.pow_succ
abbrev cA:=@List.getElem?_toArray
abbrev cB:=@bodyPost_ret
abbrev cC:=@Nat.mod_eq_of_lt
abbrev cD:=@List.length_set
abbrev cE:=@List.getElem?_cons_succ
abbrev cF:=@List.getElem?_append_left
abbrev cG:=@List.take_succ_eq_append_getElem
abbrev cH:=@wpQuiet_nil
abbrev cI:=@List.getElem?_append_right
abbrev cJ:=@Nat.mul_le_mul
abbrev cK:=@Nat.mul_le_mul_left
abbrev cM:=@List.flatMap_cons
abbrev cN:=@Nat.add_mul
abbrev cO:=@Below.setCell
abbrev cQ:=@Nat.add_assoc
abbrev cR:=@Nat.mul_add
abbrev cT:=@Int.toNat_natCast
abbrev cV:=@List.cons_append
abbrev cW:=@List.take_of_length_le
abbrev cX:=@Nat.le_of_lt
abbrev cY:=@List.getElem_mem
abbrev cZ:=@Bool.eq_iff_iff
abbrev dA:=@World.grownBy.refl
abbrev dB:=@Nat.zero_add
abbrev dC:=@List.getElem?_map
abbrev dD:=@Nat.mul_lt_mul_of_pos_right
abbrev dE:=@Nat.pow_pos
abbrev dF:=@List.length_drop
abbrev dG:=@IntKind.wrap_u64
abbrev dH:=@List.flatMap_append
abbrev dI:=@World.ownsRow.stored
abbrev dJ:=@Nat.pow_add
abbrev dK:=@Nat.div_div_eq_div_mul
abbrev dM:=@Nat.mul_one
abbrev dN:=@Below.heap_setCell
abbrev dO:=@Nat.div_lt_iff_lt_mul
abbrev dP:=@List.length_cons
abbrev dQ:=@List.nil_append
abbrev dR:=@List.take_length
abbrev dS:=@Below.grown
abbrev dT:=@Int.mul_nonneg
abbrev dU:=@Nat.le_succ
abbrev dV:=@List.length_reverse
abbrev dW:=@info_parts
abbrev dZ:=@Nat.div_eq_of_lt
abbrev eA:=@Int.tdiv_eq_ediv_of_nonneg
abbrev eB:=@congrArg
abbrev eC:=@Nat.zero_mul
abbrev eD:=@Nat.mul_zero
abbrev eE:=@List.set_cons_succ
abbrev eF:=@Nat.one_mul
abbrev eG:=@Nat.lt_of_le_of_lt
abbrev eH:=@Nat.lt_irrefl
abbrev eI:=@World.news_of_block
abbrev eJ:=@Nat.mod_one
abbrev eK:=@List.getElem?_take_of_lt
abbrev eL:=@Nat.ne_of_lt
abbrev eM:=@List.append_nil
abbrev eN:=@Int.mul_nonneg_of_nonpos_of_nonpos
abbrev eO:=@Int.tmod_eq_emod_of_nonneg
abbrev eP:=@beq_eq_false_iff_ne
abbrev eQ:=@Nat.div_add_mod
abbrev eR:=@Nat.min_eq_left
abbrev eS:=@Array.getElem?_modify
abbrev eT:=@bne_iff_ne
abbrev eV:=@List.map_cons
abbrev eW:=@Int.mul_comm
abbrev eX:=@wpList_append_own_at
abbrev eY:=@List.mem_of_mem_take
abbrev eZ:=@Nat.div_lt_of_lt_mul
abbrev fA:=@List.getElem?_replicate
abbrev fB:=@List.range_succ
abbrev fC:=@Nat.le_div_iff_mul_le
abbrev fD:=@List.take_append_drop
abbrev fE:=@List.mem_or_eq_of_mem_set
abbrev fF:=@List.ext_getElem?
abbrev fH:=@List.getElem?_range
abbrev fI:=@Int.mul_le_mul_of_nonneg_right
abbrev fJ:=@Below.alloc
abbrev fL:=@Array.getElem?_eq_none
abbrev fM:=@List.find?_eq_none
abbrev fN:=@List.getElem?_take
abbrev fO:=@List.map_nil
abbrev fP:=@Nat.add_sub_cancel
abbrev fQ:=@List.mem_singleton
abbrev fR:=@Nat.mod_add_div
abbrev fS:=@Int.natCast_add
abbrev fT:=@List.any_eq_false
abbrev fU:=@List.getElem?_set
abbrev fV:=@Nat.lt_trichotomy
abbrev fX:=@List.range_eq_range'
abbrev fY:=@List.setIfInBounds_toArray
abbrev fZ:=@Int.one_mul
abbrev gA:=@Int.natCast_emod
abbrev gB:=@List.mem_flatMap
abbrev gC:=@Nat.lt_trans
abbrev gD:=@Nat.pow_zero
abbrev gE:=@Bool.not_eq_true
abbrev gF:=@List.mem_of_find?_eq_some
abbrev gG:=@Nat.add_mul_mod_self_left
abbrev gH:=@List.drop_eq_getElem_cons
abbrev gI:=@Nat.mul_right_comm
abbrev gJ:=@Int.add_mul
abbrev gK:=@Int.ofNat_tmod
abbrev gL:=@Bool.and_false
abbrev gM:=@wpList_append_own_none
abbrev gO:=@Below.heap_alloc
abbrev gQ:=@List.ext_getElem
abbrev gR:=@Nat.add_mul_div_left
abbrev gS:=@List.getD_cons_succ
abbrev gT:=@wpList_plain
abbrev gU:=@Nat.add_comm
abbrev gV:=@Nat.mod_two_eq_zero_or_one
abbrev gW:=@Nat.lt_of_mul_lt_mul_right
abbrev gX:=@Nat.lt_of_mul_lt_mul_left
abbrev gY:=@Result.andThen_ok
abbrev gZ:=@Nat.mul_pos
abbrev hJ:=@Nat.le_of_lt_succ
abbrev iA:=@Nat.mul_left_comm
abbrev iB:=@Nat.add_lt_add_iff_right
abbrev iC:=@List.eq_of_mem_replicate
abbrev iD:=@List.any_eq_true
abbrev iE:=@List.all_eq_true
abbrev iF:=@List.map_toArray
abbrev iG:=@List.drop_eq_nil_of_le
abbrev iH:=@Int.le_total
abbrev iI:=@dif_pos
abbrev iJ:=@Nat.mul_add_div
abbrev iK:=@Nat.mul_add_mod
abbrev iL:=@Int.ediv_nonneg
abbrev iM:=@List.getElem?_reverse
abbrev iN:=@Nat.mul_div_mul_right
abbrev iO:=@run_make
abbrev iP:=@Sem.run_bind
abbrev iQ:=@Sem.run_pure
variable{a p:World}{b k s z:Nat}{c:Array Value}{e:Exit->Act->World->Prop}{f:TypeId}{g q v A B C:Int}{h:Option Addr}{i:Nat->Bool}{j:Value}{l D F:Int×Int}{m:Act}{n:List (Addr×Value)}{o:Program}{r:Option Nat}{t:Addr}{u:Operand}{y:Code}{G:Bool}
theorem aA{n:Nat}:n<=n:=.refl
theorem aB{n:Nat}:0<=n:=n.zero_le
theorem aC{n k:Nat}(h:k<n:=by omega):n-(intOf (.int .i64 ((k+1:Nat):Int))).toNat<n-(intOf (.int .i64 (k:Int))).toNat:=by simp[intOf];omega
theorem aD{a b:Int}(h:(a+9223372036854775808)%18446744073709551616-9223372036854775808=b:=by omega):IntKind.i64.wrap a=b:=by rw[bH];exact h
theorem aE{n k:Nat}{R:Nat->Prop}(h:R (k+1))(b:k<n:=by omega):(∃j:Nat,j<=n/\.int .i64 ((k:Int)+1)=Value.int .i64 (j:Int)/\R j)/\n-(intOf (.int .i64 ((k:Int)+1))).toNat<n-(intOf (.int .i64 (k:Int))).toNat:=⟨⟨k+1,b,rfl,h⟩,aC b⟩
theorem aF{P:Program}{f:FuncId}{a:Array Value}{α:Type}{g:α->Value}{A B:α->World->Prop}{Q:Ending->World->Prop}(h:Calls P f a w λe x=>∃v,e=.returned (g v)/\A v x/\B v x)(k:∀x v,A v x->B v x->Q (.returned (g v)) x):Calls P f a w Q:=h.mono λ_ _ ⟨v,e,b,c⟩=>e▸k _ v b c
theorem aG{P:Program}{f:FuncId}{a:Array Value}{v:Value}{Q:Ending->World->Prop}(h:Calls P f a w λe x=>e=.returned v/\w=x)(k:Q (.returned v) w):Calls P f a w Q:=h.mono λ_ _ ⟨a,b⟩=>a▸b▸k
theorem aH{P:Program}{f:FuncId}{a:Array Value}{v:Value}{Q:Ending->World->Prop}(h:Calls P f a w λe x=>e=.returned v/\x=w)(k:Q (.returned v) w):Calls P f a w Q:=h.mono λ_ _ ⟨a,b⟩=>by rw[a,b];exact k
theorem aI{p:Prop}(h:p:=by simp[intOf];omega):p:=h
theorem aJ{p:Prop}(h:p:=by simp[intOf]):p:=h
theorem aK{p:Prop}(h:p:=by omega):p:=h
theorem aL{p:Prop}(h:p:=by simp):p:=h
theorem aM{p:Prop}(h:p:=by decide):p:=h
theorem aN{p:Prop}(h:p:=by kernel_rfl):p:=h
theorem aO{p:Prop}(h:p:=by simp;omega):p:=h
theorem aP{p:Prop}(h:p:=by go_num):p:=h
theorem aQ{p:Prop}(h:p:=by assumption):p:=h
theorem aR{p:Prop}(h:p:=by go_simp):p:=h
theorem aS{p:Prop}(h:p:=by unfold maxLen;omega):p:=h
theorem aT{p:Prop}(h:p:=by decide +kernel):p:=h
theorem aU{p:Prop}(h:p:=by grind):p:=h
theorem gN{α:Type}(a:α):∃x,a=x:=⟨_,rfl⟩
theorem rR{P:Program}{f:FuncId}{a:Array Value}{v:Value}{R:World->Prop}{Q:Ending->World->Prop}(h:Calls P f a w λe x=>e=.returned v/\R x)(k:∀x,R x->Q (.returned v) x):Calls P f a w Q:=h.mono λ_ _ ⟨a,b⟩=>a▸k _ b
theorem bR{P:Program}{f:Func}{R:Ending->World->Prop}{a:Act}{v:Value}(c:R (.returned v) w)(d:a.defers=[])(b:Sem.run P (results f a.tmps) w=.ok v w):bodyPost P f R .ret a w:=cB b d c
section
@[reducible] def sB{w:World}{S:World->Prop}(_:∀x,Below w.heap.size w x->S x):World->Prop:=S
instance:Coe Int Value:=⟨.int .i64⟩
instance:Coe Nat Value:=⟨(.int .i64 ·)⟩
instance:Coe World Nat:=⟨(·.heap.size)⟩
instance:Coe Nat Value:=⟨fun k=>.int .i64 k⟩
@[simp,reducible] def Cq(w:World)(b o:Nat)(v:Value):Prop:=w.cell? ⟨b,o,none⟩=some v
@[simp,reducible] def Be(a w:World):Prop:=Below a a w
abbrev LP:=List (Int×Int)
theorem Bn{b:Bool}(h:G=b):Ending.returned (.bool G)=.returned (.bool b):=by rw[h]
theorem Bm{k:IntKind}(h:g=q):Ending.returned (.int k g)=.returned (.int k q):=by rw[h]
theorem Ao(h:Below a a w){o:Obj}:Below a a (w.alloc o):=fJ h h.size o
theorem Aw(h:Below a a w):Below a a w.drew:=Below.drew h
theorem Bd(h:Below a a w)(n:Nat):Below a a (w.drewN n):=⟨h.os,h.tape,h.output,h.size,h.block⟩
theorem An(h:Below a a w)(b:Below w w p):Below a a p:=h.trans (b.mono h.size)
theorem Ba(h:Below a a w){p:Addr}(b:a.heap.size<=p.block){u:Value}:Below a a (w.setCell p u):=cO h b u
theorem bl0:Below b w w:=aV _ _
theorem blA{o:Obj}:Below w w (w.alloc o):=Ao bl0
theorem blD:Below w w w.drew:=Aw bl0
theorem Ar{p:Prop}(h:p):Hid p:=bF h
@[simp,reducible] def Bz(w:World)(v:Value)(e:Ending)(a:World):Prop:=e=.returned v/\Below w w a
@[reducible] def sOf{n:Nat}{w:World}{S:World->Prop}(_:∀a,Below n w a->S a):World->Prop:=S
theorem dn{R:Nat->Prop}(a:k<b)(h:R (k+1)):(∃j:Nat,j<=b/\Value.int .i64 ((k:Int)+1)=j/\R j)/\b-(intOf (.int .i64 ((k:Int)+1))).toNat<b-(intOf k).toNat:=⟨⟨k+1,a,rfl,h⟩,aI⟩
theorem Ag2{c:World}(d:Below a a c):(∀b o,b<a.heap.size->c.cell? ⟨b,o,none⟩=a.cell? ⟨b,o,none⟩)/\(∀b o,b<a.heap.size->c.frozen? ⟨b,o,none⟩=a.frozen? ⟨b,o,none⟩):=⟨λb o h=>d.cell (p:=⟨b,o,none⟩) h,λb o h=>d.frozen (p:=⟨b,o,none⟩) h⟩
section
variable {P : Program} {ops : Array Oper} {C : World -> Prop}
theorem Cx{Q:Act->Prop}{a:Act}{o:Oper}{rest:List Oper}(hg:o.guard=none){v:Value}
 (h1:∀w,C w->o.quietAt P a C w v) (h2:wpQuiet P ops C Q rest (a.put o.dst v)):wpQuiet P ops C Q (o::rest) a:=by
 show (if Region.wanted o (yielded ops a.tmps) then o.quiet P a C (wpQuiet P ops C Q rest) else wpQuiet P ops C Q rest (a.put o.dst undef))
 have hw:Region.wanted o (yielded ops a.tmps)=true:=by simp[Region.wanted,hg]
 rw[if_pos hw];exact⟨v,h1,h2⟩
@[simp] def AC(w:World):List (Addr×Value)->Prop
 | []=>True
 | x::l=>w.cell? x.1=some x.2/\AC w l
def Cls(w0:World)(l:List (Addr×Value))(w:World):Prop:=Below w0 w0 w/\AC w l
theorem Bi{p:Addr}{v:Value}(h:w.cell? p=some v):p.block<w.heap.size:=by
 rcases bG p.block w with h1|h1
 ·exact h1
 ·simp[World.cell?,fL h1] at h
theorem Aq{p:Addr}{v:Value}(hb:Below w w w2)(h:w.cell? p=some v):w2.cell? p=some v:=(hb.cell (Bi h)).trans h
theorem AC.keep(hb:Below w w w2):∀{l:List (Addr×Value)},AC w l->AC w2 l
 | [],_=>trivial
 | _::_,h=>⟨Aq hb h.1,AC.keep hb h.2⟩
theorem Cls.call{l:List (Addr×Value)}(h:Cls w0 l w)(hb:Below w w w2):Cls w0 l w2:=⟨An h.1 hb,h.2.keep hb⟩
theorem Cls.four{a b c d:Addr×Value}{l:List (Addr×Value)}(h:Cls w0 (a::b::c::d::l) w):Cls w0 [a,b,c,d] w:=⟨h.1,h.2.1,h.2.2.1,h.2.2.2.1,h.2.2.2.2.1,trivial⟩
theorem Bh(w0:World)(cl:List (Addr×Value)){Q:Exit->Act->World->Prop}{a:Act}{l:List Oper}
 (hC:Cls w0 cl w) (h:wpQuiet P l.toArray (Cls w0 cl) (fun a'=>∀w',Cls w0 cl w'->Q .normal a' w') l a) (hm:P.follows .mixedOrders=true:=by kernel_rfl) (hB:Region.lexB .any l.toArray=true:=by kernel_rfl) :(Code.region id l.toArray true).wp P Q a w :=
 wp_region_quiet (C:=Cls w0 cl) hm hB ⟨⟨hC.1.os,hC.1.tape,hC.1.output,hC.1.size,hC.1.block⟩,hC.2.keep blD⟩ (by simpa using h)
theorem Bw{f:FuncId}{args:Array Value}{cl:List (Addr×Value)}{v:Value}(hw:Cls w0 cl w)
 (h:Calls P f args w fun e w'=>e=.returned v/\Below w w w'):Calls P f args w fun e w''=>e=.returned v/\Cls w0 cl w'' :=
 h.mono fun _ _ ⟨he,hb⟩=>⟨he,hw.call hb⟩
end
end
def Bs(a b c:Int×Int):Int:=wrap64 (wrap64 (wrap64 (b.1-a.1)*wrap64 (c.2-a.2))-wrap64 (wrap64 (b.2-a.2)*wrap64 (c.1-a.1)))
def Cc(M:Int)(s:Int×Int):Bool:=decide (s.1 < -M) || decide (s.1 > M) || decide (s.2 < -M) || decide (s.2 > M)
def Ey(x y:Int):Int:=if x<y then -1 else if x > y then 1 else 0
def I8(a b c d:Int×Int):Bool:=decide (IntKind.i64.wrap (Ey (Bs a b c) 0*Ey (Bs a b d) 0)<0)
def onW(a b p:Int×Int):Bool:=(Bs a b p == 0)&&decide (min a.1 b.1<=p.1)&&decide (p.1<=max a.1 b.1)&&decide (min a.2 b.2<=p.2)&&decide (p.2<=max a.2 b.2)
theorem Li:Calls prog 155 #[.agg #[g,q],.agg #[v,A],.agg #[B,C]] w (Bz w (Bs (g,q) (v,A) (B,C))):=by
 go_in;go_wp2;go_ret;exact⟨rfl,Ao (Ao blA)⟩
theorem We:Calls prog 61 #[.agg #[g,q]] w (Bz w (.bool (Cc 1048576 (g,q)))):=by
 go_enter func61,ntmps61;go_wp2;all_goals go_ret
 all_goals exact⟨Bn (by simp[Cc]<;>omega),blA⟩
theorem Up:Calls prog 212 #[x] w λe a=>e=.returned (.bool false)/\w=a:=by
 go_in;go_wp2;go_ret;exact⟨aL,rfl⟩
theorem Kn(x y:Int):Calls prog 150 #[x,y] w (Bz w (Ey x y)):=by
 go_enter func150,ntmps150
 go_wp2_with (go_at_call 212;refine aG (Up) ?_)
 all_goals go_ret
 all_goals exact⟨Bm (by unfold Ey;(repeat split)<;>omega),bl0⟩
theorem dr{c d:Int}:Calls prog 157 #[.agg #[g,q],.agg #[v,A],.agg #[B,C],.agg #[c,d]] w (Bz w (.bool (I8 (g,q) (v,A) (B,C) (c,d)))):=by
 go_enter func157,ntmps157;go_wp2_with fail;refine Bh w [(⟨w,0,none⟩,g),(⟨w,1,none⟩,q),(⟨w+1,0,none⟩,v),(⟨w+1,1,none⟩,A),(⟨w+1+1,0,none⟩,B),(⟨w+1+1,1,none⟩,C),(⟨w+1+1+1,0,none⟩,c),(⟨w+1+1+1,1,none⟩,d)] ⟨(Ao (Ao (Ao (Ao (aV _ _))))),aR⟩ ?_
 repeat
  apply Cx
  .rfl
  .intro h b;have f:=b.2;simp only[AC]at f
   go_simp
   first|rfl|exact Bw b (Li)|exact Bw b (Kn _ _)
  go_simp
 refine cH ?_;intro h a;have e:=a.1;clear a;go_wp2;go_ret;exact⟨rfl,e⟩
theorem Aje{ax ay bx bY cx cy:Int}:Calls prog 156 #[.agg #[ax,ay],.agg #[bx,bY],.agg #[cx,cy]] w (Bz w (.bool (onW (ax,ay) (bx,bY) (cx,cy)))):=by
 go_enter func156,ntmps156
 go_wp2_with (go_at_call 155;refine(Li).mono ?_;rintro e w1 ⟨rfl,hb⟩;obtain⟨hc,hf⟩:=Ag2 hb)
 all_goals go_ret
 all_goals refine⟨Bn ?_,An (Ao (Ao blA)) aQ⟩
 all_goals clear hb hc hf
 all_goals (rw[cZ];simp[onW];try omega)
def Il(a b c:Int×Int):Bool:=(Bs a b c == 0)&&decide (wrap64 (wrap64 (wrap64 (a.1-b.1)*wrap64 (c.1-b.1))+wrap64 (wrap64 (a.2-b.2)*wrap64 (c.2-b.2))) > 0)
def Hs(a b c d:Int×Int):Bool:=onW a b c || onW a b d || onW c d a || onW c d b || (I8 a b c d&&I8 c d a b)
theorem fu(a b d c f g:Int)(w:World):Calls prog 106 #[.agg #[a,b],.agg #[d,c],.agg #[f,g]] w (Bz w (.bool (Il (a,b) (d,c) (f,g)))):=by
 go_enter func106,ntmps106
 go_wp2_with (go_at_call 155;refine rR (Li) λk h=>?_;let⟨i,j⟩:=Ag2 h)
 all_goals go_ret
 all_goals refine⟨Bn ?_,An (Ao (Ao blA)) aQ⟩
 all_goals clear h i j
 all_goals (rw[cZ];simp[Il];try omega)
theorem Aai{c d:Int}:Calls prog 107 #[.agg #[g,q],.agg #[v,A],.agg #[B,C],.agg #[c,d]] w (Bz w (.bool (Hs (g,q) (v,A) (B,C) (c,d)))):=by
 go_enter func107,ntmps107
 go_wp2_with (first|(go_at_call 156;refine rR (Aje) λh b=>?_;(first|(have a:=Cls.call a b)|(have a:Cls w [(⟨w,0,none⟩,g),(⟨w,1,none⟩,q),(⟨w+1,0,none⟩,v),(⟨w+1,1,none⟩,A),(⟨w+1+1,0,none⟩,B),(⟨w+1+1,1,none⟩,C),(⟨w+1+1+1,0,none⟩,c),(⟨w+1+1+1,1,none⟩,d)] h:=Cls.call ⟨(Ao (Ao (Ao (Ao (aV _ _))))),aR⟩ b));clear b;have f:=a.2;simp only[AC]at f)|(go_at_call 157;refine rR (dr) λh b=>?_;(first|(have a:=Cls.call a b)|(have a:Cls w [(⟨w,0,none⟩,g),(⟨w,1,none⟩,q),(⟨w+1,0,none⟩,v),(⟨w+1,1,none⟩,A),(⟨w+1+1,0,none⟩,B),(⟨w+1+1,1,none⟩,C),(⟨w+1+1+1,0,none⟩,c),(⟨w+1+1+1,1,none⟩,d)] h:=Cls.call ⟨(Ao (Ao (Ao (Ao (aV _ _))))),aR⟩ b));clear b;have f:=a.2;simp only[AC]at f))
 all_goals go_ret
 all_goals refine⟨Bn ?_,a.1⟩
 all_goals clear f a
 all_goals (rw[cZ];simp[Hs, *])
def gt(l:LP)(k:Nat):Int×Int:=l.getD k (0,0)
def SpS(w:World)(A:Option Addr)(n:Nat)(l:LP):Prop :=
 l.length=n/\(n=0\/∃b a,A=some ⟨b,a,none⟩/\∀k,k<n->Cq w b (a+k*2) (gt l k).1/\Cq w b (a+k*2+1) (gt l k).2)
theorem SpS.at_{l:LP}(d:SpS w h b l)(e:k<b):∃c a,h=some ⟨c,a,none⟩/\c<w.heap.size/\∀k,k<b->Cq w c (a+k*2) (gt l k).1/\Cq w c (a+k*2+1) (gt l k).2:=by
 obtain⟨f,d⟩:=d;rcases d with rfl|⟨c,a,rfl,d⟩
 .omega
 exact⟨c,a,rfl,Bi (d k e).1,d⟩
theorem SpS.keep{l:LP}(c:SpS w h b l)(e:Be w a):SpS a h b l:=by
 refine⟨c.1,?_⟩;obtain⟨i,c⟩:=c;rcases c with rfl|⟨g,d,rfl,c⟩
 .exact .inl rfl
 exact .inr ⟨g,d,rfl,λk f=>⟨Aq e (c k f).1,Aq e (c k f).2⟩⟩
theorem Ach(h:(List.range b).all i=true)(a:i b=true):(List.range (b+1)).all i=true:=by
 rw[fB,List.all_append,h];simp[a]
theorem Ag6(c:b<k)(a:i b=false):(List.range k).all i=false:=by
 rw[List.all_eq_false];exact⟨b,by simpa using c,by simp[a]⟩
theorem Ace(h:(List.range b).any i=false)(a:i b=false):(List.range (b+1)).any i=false:=by
 rw[fB,List.any_append,h];simp[a]
theorem Ag5(c:b<k)(a:i b=true):(List.range k).any i=true:=by
 rw[iD];exact⟨b,by simpa using c,a⟩
def Db(f:Nat->Bool)(n:Nat):Int:=match (List.range n).find? f with|some i=>(i:Int)|none => -1
def Bp(f:Nat->Bool)(n:Nat):Bool:=(List.range n).any f
def Ix(f:Nat->Bool)(n:Nat):Bool:=(List.range n).all f
theorem Ix.zero(f:Nat->Bool):Ix f 0=true:=rfl
theorem Bp.zero(f:Nat->Bool):Bp f 0=false:=rfl
theorem Ix.succ{f:Nat->Bool}(h:Ix f b=true)(a:f b=true):Ix f (b+1)=true:=Ach h a
theorem Ix.no{f:Nat->Bool}(c:b<k)(a:f b=false):Ix f k=false:=Ag6 c a
theorem Bp.succ{f:Nat->Bool}(h:Bp f b=false)(a:f b=false):Bp f (b+1)=false:=Ace h a
theorem Bp.yes{f:Nat->Bool}(c:k<b)(a:f k=true):Bp f b=true:=Ag5 c a
theorem Fy(h:Bp i b=false):Db i b = -1:=by
 unfold Db
 have:(List.range b).find? i=none:=by
  rw[fM];intro x c a;have:=(fT.1 h) x c;exact this a
 rw[this]
theorem Hf{f:Nat->Bool}(j:b<k)(h:Bp f b=false)(a:f b=true):Db f k=b:=by
 unfold Db
 have:(List.range k).find? f=some b:=by
  have e:List.range k=List.range b++(List.range' b (k-b)):=by
   have h:=List.range'_append_1 (s:=0) (m:=b) (n:=k-b);rw[fX,fX,show k=b+(k-b) by omega,<-h];simp
  rw[e,List.find?_append]
  have c:(List.range b).find? f=none:=by
   rw[fM];intro x i d;exact(fT.1 h) x i d
  rw[c];let⟨m,g⟩:∃m,k-b=m+1:=⟨k-b-1,aK⟩
  rw[g,List.range'_succ];simp[a]
 rw[this]
theorem Hy(f:Nat->Bool)(n:Nat):decide (0<=Db f n)=Bp f n:=by
 unfold Db Bp;cases h:(List.range n).find? f with
 | none =>
   rw[fM]at h;have:(List.range n).any f=false:=by rw[fT];intro x c;simpa using h x c
   simp[this]
 | some i =>
   have a:=List.find?_some h;have b:=gF h;have:(List.range n).any f=true:=iD.2 ⟨i,b,a⟩;simp[this]
theorem Ix.mono(h:Ix i b=true)(a:k<=b):Ix i k=true:=by
 unfold Ix at *
 rw[iE]at *
 intro x c;exact h x (by simp at *;omega)
theorem Ix.start(h:∀a,a<b->i a=true):Ix i b=true:=by
 unfold Ix;rw[iE];intro x c;exact h x (by simpa using c)
theorem Ix.iff:Ix i b=true↔∀a,a<b->i a=true:=by
 unfold Ix;rw[iE];simp
theorem Bp.iff:Bp i b=true↔∃a,a<b/\i a=true:=by
 unfold Bp;rw[iD];simp
theorem rj{l:LP}(h:k<b):gt (l.take b) k=gt l k:=by
 unfold gt;simp[List.getD,fN,h]
theorem SpS.take{l:LP}(a:SpS w h b l){i:Nat}(g:i<=b):SpS w h i (l.take i):=by
 refine⟨by rw[bC,a.1];omega,?_⟩;obtain⟨f,a⟩:=a;rcases a with rfl|⟨d,c,rfl,a⟩
 .exact .inl aK
 refine .inr ⟨d,c,rfl,λk e=>?_⟩;rw[rj e];exact a k aK
theorem Bp.congr{f g:Nat->Bool}{n:Nat}(h:∀i,i<n->f i=g i):Bp f n=Bp g n:=by
 rw[cZ,Bp.iff,Bp.iff];exact⟨λ⟨i,a,b⟩=>⟨i,a,by rw[<-h i a];exact b⟩,λ⟨i,a,b⟩=>⟨i,a,by rw[h i a];exact b⟩⟩
theorem Ix.congr{f g:Nat->Bool}{n:Nat}(h:∀i,i<n->f i=g i):Ix f n=Ix g n:=by
 rw[cZ,Ix.iff,Ix.iff];exact⟨λb i a=>by rw[<-h i a];exact b i a,λb i a=>by rw[h i a];exact b i a⟩
theorem SpS.cells{a n:Nat}{l:LP}(h:SpS w (some ⟨b,a,none⟩) n l)(d:k<n):Cq w b (a+k*2) (gt l k).1/\Cq w b (a+k*2+1) (gt l k).2:=by
 obtain⟨g,h⟩:=h;rcases h with rfl|⟨f,c,e,h⟩
 .omega
 injection e with e
 injection e with e1 e2
 subst e1 e2;exact h k d
theorem Fm(z:Int)(a : -9223372036854775808<=z)(b:z<=9223372036854775807):IntKind.i64.wrap z=z:=IntWalk.i64_in z ⟨a,b⟩
theorem Dx(k c:Nat)(h:k+c<=1000000000000:=by omega):IntKind.i64.wrap ((k:Int)+(c:Int))=(k:Int)+(c:Int):=Fm _ aK aK
theorem Abi(k n:Nat):((k:Int)+1) % (n:Int)=(((k+1) % n:Nat):Int):=by
 rw[gA];rfl
theorem Q6(z:Int)(a n:Nat)(hz:z=(a:Int):=by rfl)(b:0<n:=by omega):z.tmod (n:Int)=z % (n:Int)/\0<=z % (n:Int)/\z % (n:Int)<(n:Int)/\(z % (n:Int)).toNat=a % n:=by
 subst hz;refine⟨by rw[<-gK,gA],Int.emod_nonneg _ aK,Int.emod_lt_of_pos _ aK,?_⟩;rw[<-gA,cT]
theorem Aca{n:Nat}(h:0<n):((n:Int) == 0)=false:=by
 rw[eP];omega
def eqS(p q:Int×Int):Bool:=p.1 == q.1&&p.2 == q.2
theorem Ge(p q:Int×Int):eqS p q=true↔p=q:=by
 obtain⟨a,b⟩:=p;obtain⟨c,d⟩:=q;simp[eqS]
theorem Ea(a b c d:Int)(w:World):(Op.equalIn 10000 65 (.agg #[a,b]) (.agg #[c,d])).run prog w=.ok (eqS (a,b) (c,d)) w:=by
 have u3:=underlying3;have i:=Tryz.isAgg3;have j:=Tryz.sizeOf3;have g:prog.underlying 65=some (.struct (prog.fieldsOf 65)):=aN
 have h:prog.stoodInHeld 65=false:=aN
 rw[show (10000:Nat)=9999+1 from rfl,run_equalIn_agg w 9999 65 _ _ g h];simp only[Program.fieldsOf,underlying65]
 go_simp
 by_cases e:a=c<;>by_cases f:b=d<;>simp[e,f,eqS]
theorem fi(A:Option Addr)(g n:Nat)(l:LP)(w:World)(t:n<=1000000)(o:SpS w A n l):Calls prog 104 #[.slice A n g,.func (.func 61) #[] #[]] w (Bz w (Db (λi=>Cc 1048576 (gt l i)) n)):=by
 go_in;go_wp2;go_loopw [8] (λi wr=>∃k:Nat,k<=n/\i=k/\Hid (Bp (λi=>Cc 1048576 (gt l i)) k=false)/\Be w wr) λi _=>n-(intOf i).toNat
 case atStart=>exact⟨0,aB,rfl,Bp.zero _,bl0⟩
 obtain⟨k,s,rfl,j,f⟩:=hrel;by_cases a:k<n
 .obtain⟨b,p,rfl,m,h⟩:=o.at_ a;have q:=Aq f (h k a).1;have r:=Aq f (h k a).2;clear h
  go_wp2_with (go_at_call 61;refine rR (We) λu c=>?_;have d:=An f c;clear c)
  .go_ret;exact⟨Bm (Hf a j.out aQ).symm,d⟩
  go_roundw
  case rel=>exact⟨k+1,aK,aP,Bp.succ j.out (by simpa using ‹_›),d⟩
  case measure=>simp[intOf];omega
 obtain rfl:n=k:=aK
 go_wp2;go_ret;exact⟨Bm (Fy j.out).symm,f⟩
theorem Pp(l:LP)(c:k<=1000000)(d:SpS w h k l):Calls prog 60 #[.slice h k b,.func (.func 61) #[] #[]] w (Bz w (.bool (Bp (λi=>Cc 1048576 (gt l i)) k))):=by
 go_in
 go_wp2_with (go_at_call 104;refine rR (fi _ _ _ _ _ c d) λf a=>?_)
 go_ret;exact⟨Bn (Hy _ _),a⟩
theorem re{l:LP}(v:k<=1000000)(o:SpS w h k l):Calls prog 154 #[.slice h k b,.agg #[x,g]] w (Bz w (Db (λi=>eqS (x,g) (gt l i)) k)):=by
 have n:=Ea;go_enter func154,ntmps154;go_wp2;go_loopw [8] (λi wr=>∃c:Nat,c<=k/\i=c/\Hid (Bp (λi=>eqS (x,g) (gt l i)) c=false)/\Cls w [(⟨w,0,none⟩,x),(⟨w,1,none⟩,g)] wr) λi _=>k-(intOf i).toNat
 case atStart=>exact⟨0,aB,rfl,Bp.zero _,(Ao (aV _ _)),aR⟩
 obtain⟨c,u,rfl,j,d⟩:=hrel;by_cases a:c<k
 .obtain⟨r,q,rfl,m,f⟩:=o.at_ a;have s:=Aq d.1 (f c a).1;have t:=Aq d.1 (f c a).2;have p:=d.2;simp only[AC]at p;clear f;go_wp2;go_quiet (fail);have e:Cls w [(⟨w,0,none⟩,x),(⟨w,1,none⟩,g)] (wr.drewN nq):=⟨Bd d.1 _,d.2⟩;clear d;go_wp2
  .go_ret;exact⟨Bm (Hf a j.out aQ).symm,e.1⟩
  go_roundw
  case rel=>exact⟨c+1,aK,aP,Bp.succ j.out (by simpa using ‹_›),e⟩
  case measure=>simp[intOf];omega
 obtain rfl:k=c:=aK
 go_wp2;go_ret;exact⟨Bm (Fy j.out).symm,d.1⟩
theorem Uz(l:LP)(c:k<=1000000)(d:SpS w h k l):Calls prog 105 #[.slice h k b,.agg #[x,g]] w (Bz w (.bool (Bp (λi=>eqS (x,g) (gt l i)) k))):=by
 go_in
 go_wp2_with (go_at_call 154;refine rR (re c (d.keep blA)) λf a=>?_)
 go_ret;exact⟨Bn (Hy _ _),An blA a⟩
def tp(l:LP)(i:Nat):Bool:=Bp (λj=>eqS (gt l i) (gt l j)) i
def Pc(l:LP)(n i k:Nat):Bool:=decide (k<i+2) || decide ((k+1) % n=i) || !Hs (gt l i) (gt l ((i+1) % n)) (gt l k) (gt l ((k+1) % n))
def ao(l:LP)(n i:Nat):Bool:=!Il (gt l i) (gt l ((i+1) % n)) (gt l ((i+2) % n))&&Ix (Pc l n i) n
def C8(l:LP)(n:Nat):Bool:=Ix (λi=>!tp l i) n&&Ix (ao l n) n
theorem Ad9{l:LP}(h:Bp (λi=>eqS ((gt l b).1,(gt l b).2) (gt (l.take b) i)) b=G):tp l b=G:=by
 rw[<-h];unfold tp;exact Bp.congr λi a=>by rw[rj a]
theorem km{l:LP}(a:k<b)(h:tp l k=true):C8 l b=false:=by
 unfold C8;rw[Ix.no a (by rw[h];rfl)];rfl
theorem kj{l:LP}(a:k<b)(h:Il (gt l k) (gt l ((k+1) % b)) (gt l ((k+2) % b))=true):C8 l b=false:=by
 have:ao l b k=false:=by unfold ao;rw[h];rfl
 unfold C8;rw[Ix.no (f:=ao l b) a this,gL]
theorem ki{l:LP}(e:k<b)(d:s<b)(g:k+2<=s)(a:¬(s+1) % b=k)(h:Hs (gt l k) (gt l ((k+1) % b)) (gt l s) (gt l ((s+1) % b))=true):C8 l b=false:=by
 have c:Pc l b k s=false:=by unfold Pc;rw[h];simp[a];omega
 have:ao l b k=false:=by unfold ao;rw[Ix.no d c,gL]
 unfold C8;rw[Ix.no (f:=ao l b) e this,gL]
theorem Ait{l:LP}(a:Il (gt l k) (gt l ((k+1) % b)) (gt l ((k+2) % b))=false)(h:Ix (Pc l b k) b=true):ao l b k=true:=by
 unfold ao;rw[a,h];rfl
theorem Za{l:LP}(h:Ix (Pc l b k) s=true)(a:Hs (gt l k) (gt l ((k+1) % b)) (gt l s) (gt l ((s+1) % b))=false):Ix (Pc l b k) (s+1)=true:=Ix.succ h (by unfold Pc;rw[a];simp)
theorem Af8{l:LP}(h:Ix (Pc l b k) s=true)(g:s<b)(f:k+2<=s)(a:(s+1) % b=k):Ix (Pc l b k) b=true:=by
 have e:s+1=b:=by
  rcases bG (s+1) b with c|c
  .rw[cC c]at a;omega
  omega
 have d:=Ix.succ h (show Pc l b k s=true by unfold Pc;simp[a]);rw[e]at d;exact d
theorem yl{l:LP}(a:Ix (λi=>!tp l i) b=true)(c:Ix (ao l b) b=true):C8 l b=true:=by
 unfold C8;rw[a,c];rfl
theorem an(l:LP)(Y:z<=1000)(N:3<=z)(P:z<=s)(q:SpS w (some ⟨b,k,none⟩) z l):Calls prog 62 #[.slice (some ⟨b,k,none⟩) z s] w (Bz w (.bool (C8 l z))):=by
 go_enter func62,ntmps62;go_wp2;go_loopw [14] (λi wr=>∃a:Nat,a<=z/\i=a/\Hid (Ix (λi=>!tp l i) a=true)/\Be w wr) λi _=>z-(intOf i).toNat
 case atStart=>exact⟨0,aB,rfl,Ix.zero _,bl0⟩
 obtain⟨a,Q,rfl,p,g⟩:=hrel;by_cases e:a<z
 .obtain⟨r,t⟩:=(q.keep g).cells e;have V:(a:Int)<=(s:Int):=aK
  go_wp2_with fail;refine Bh w [(⟨wr,0,none⟩,(gt l a).1),(⟨wr,1,none⟩,(gt l a).2)] ⟨Ao g,aR⟩ ?_
  repeat
   apply Cx
   .rfl
   .intro C d;have n:=d.2;simp only[AC]at n
    go_simp
    first|rfl|exact Bw d (Uz (l.take a) aK ((q.keep d.1).take Q))
   go_simp
  refine cH ?_;intro C c;have v:=c.1;clear c r t;go_wp2
  .go_ret;exact⟨Bn (km e (Ad9 ‹_›)).symm,v⟩
  go_roundw
  case rel=>exact⟨a+1,aK,aP,Ix.succ p.out (by rw[Ad9 (by simpa using ‹_›)];rfl),v⟩
  case measure=>simp[intOf];omega
 obtain rfl:z=a:=aK
 have K:=p;clear p;obtain⟨R,rfl⟩:∃R:World,R=wr:=⟨_,rfl⟩
 go_wp2;go_loopw [27] (λi wr=>∃a:Nat,a<=z/\i=a/\Hid (Ix (ao l z) a=true)/\Be w wr) λi _=>z-(intOf i).toNat
 case atStart=>exact⟨0,aB,rfl,Ix.zero _,g⟩
 clear g;obtain⟨a,Q,rfl,p,g⟩:=hrel;by_cases e:a<z
 .obtain⟨r,t⟩:=(q.keep g).cells e;have I:(a+1) % z<z:=bE _ aK;have A:(a+2) % z<z:=bE _ aK;let⟨N,S⟩:=(q.keep g).cells I;let⟨F,G⟩:=(q.keep g).cells A;have H:b<wr.heap.size:=Bi r;have W:=(Q6 ((a:Int)+1) (a+1) z).2
  go_wp2_with fail;have D:IntKind.i64.wrap ((a:Int)+2)=(a:Int)+2:=Dx a 2
  have L:=Q6 ((a:Int)+2) (a+2) z;have M:¬z=0:=aK
  refine Bh w [(⟨wr,0,none⟩,(gt l a).1),(⟨wr,1,none⟩,(gt l a).2),(⟨wr+1,0,none⟩,(gt l ((a+1) % z)).1),(⟨wr+1,1,none⟩,(gt l ((a+1) % z)).2),(⟨b,k+(a+2) % z*2,none⟩,(gt l ((a+2) % z)).1),(⟨b,k+(a+2) % z*2+1,none⟩,(gt l ((a+2) % z)).2)] ⟨Ao (Ao g),aR⟩ ?_
  repeat
   apply Cx
   .rfl
   .intro C d;have n:=d.2;simp only[AC]at n
    go_simp
    first|rfl|exact Bw d (fu _ _ _ _ _ _ _)
   go_simp
  refine cH ?_;intro C c;clear D L M r t N S F G A H W;let⟨B,O⟩:∃B,B=wr.heap.size:=⟨_,rfl⟩
  rw[<-O]at c ⊢;have f:=Cls.four c;clear c O g;go_wp2
  .go_ret;exact⟨Bn (kj e ‹_›).symm,f.1⟩
  rename_i h;have x:=Ar h;clear h;go_loopw [9] (λi wr=>∃j:Nat,a+2<=j/\j<=z+2/\i=j/\Hid (Ix (Pc l z a) j=true)/\Cls w [(⟨B,0,none⟩,(gt l a).1),(⟨B,1,none⟩,(gt l a).2),(⟨B+1,0,none⟩,(gt l ((a+1) % z)).1),(⟨B+1,1,none⟩,(gt l ((a+1) % z)).2)] wr) λi _=>z+2-(intOf i).toNat
  case atStart=>exact⟨a+2,aK,aK,aP,Ix.start λi T=>by unfold Pc;simp[T],f⟩
  clear f;obtain⟨j,y,U,rfl,hq,f⟩:=hrel;have n:=f.2;simp only[AC]at n;by_cases o:j<z
  .have J:(j+1) % z<z:=bE _ aK;by_cases m:(j+1) % z=a
   .have D:(((j:Int)+1) % (z:Int) != (a:Int))=false:=by
     rw[show ((j:Int)+1) % (z:Int)=(((j+1) % z:Nat):Int) from Abi j z,m];simp
    have E:=Ar m;clear m;go_wp2_with fail;exact aE ⟨Ix.succ p.out (Ait (by simpa using x.out) (Af8 hq.out o y E.out)),f.1⟩
   have D:(((j:Int)+1) % (z:Int) != (a:Int))=true:=by
    rw[show ((j:Int)+1) % (z:Int)=(((j+1) % z:Nat):Int) from Abi j z,eT];omega
   have E:=Ar m;clear m;let⟨r,t⟩:=(q.keep f.1).cells o;let⟨F,G⟩:=(q.keep f.1).cells J;go_wp2_with fail;have X:IntKind.i64.wrap ((j:Int)+1)=(j:Int)+1:=Dx j 1;have L:=Q6 ((j:Int)+1) (j+1) z;have M:¬z=0:=aK
   refine Bh w [(⟨B,0,none⟩,(gt l a).1),(⟨B,1,none⟩,(gt l a).2),(⟨B+1,0,none⟩,(gt l ((a+1) % z)).1),(⟨B+1,1,none⟩,(gt l ((a+1) % z)).2),(⟨b,k+j*2,none⟩,(gt l j).1),(⟨b,k+j*2+1,none⟩,(gt l j).2),(⟨b,k+(j+1) % z*2,none⟩,(gt l ((j+1) % z)).1),(⟨b,k+(j+1) % z*2+1,none⟩,(gt l ((j+1) % z)).2)] ⟨f.1,aR⟩ ?_
   repeat
    apply Cx
    .rfl
    .intro C d;have n:=d.2;simp only[AC]at n
     go_simp
     first|rfl|exact Bw d (Aai)
    go_simp
   refine cH ?_;intro C c;clear D L M X r t F G;have u:=Cls.four c;clear c f n;go_wp2
   .go_ret;exact⟨Bn (ki e o y E.out ‹_›).symm,u.1⟩
   go_roundw
   case rel=>exact⟨j+1,aK,aK,aP,Za hq.out (by simpa using ‹_›),u⟩
   case measure=>simp[intOf];omega
  go_wp2_with fail
  exact aE ⟨Ix.succ p.out (Ait (by simpa using x.out) (Ix.mono hq.out aK)),f.1⟩
 obtain rfl:z=a:=aK
 go_wp2;go_ret;exact⟨Bn (yl K.out p.out).symm,g⟩
def Bg(l:LP)(n:Nat):Int :=
 if n > 40 then 5 else if n<3 then 11 else if Bp (λi=>Cc 1048576 (gt l i)) n then 3 else if C8 l n then 0 else 11
theorem Ir{l:LP}(h:40<b):Bg l b=5:=by unfold Bg;rw[if_pos aK]
theorem Jf{l:LP}(h:b<3):Bg l b=11:=by unfold Bg;rw[if_neg aK,if_pos aK]
theorem Rh{l:LP}(h:¬40<b)(c:¬b<3)(a:Bp (λi=>Cc 1048576 (gt l i)) b=true):Bg l b=3:=by unfold Bg;rw[if_neg aK,if_neg aK,if_pos a]
theorem Ri{l:LP}(h:¬40<b)(d:¬b<3)(a:Bp (λi=>Cc 1048576 (gt l i)) b=false)(c:C8 l b=false):Bg l b=11:=by unfold Bg;rw[if_neg aK,if_neg aK,if_neg (by rw[a];simp),if_neg (by rw[c];simp)]
theorem U9{l:LP}(h:¬40<b)(d:¬b<3)(a:Bp (λi=>Cc 1048576 (gt l i)) b=false)(c:C8 l b=true):Bg l b=0:=by unfold Bg;rw[if_neg aK,if_neg aK,if_neg (by rw[a];simp),if_pos c]
theorem Dc(A:Option Addr)(c n:Nat)(l:LP)(f:n<=c)(i:SpS w A n l)(hl:n<=9223372036854775807:=by omega):Calls prog 39 #[.slice A n c] w (Bz w (Bg l n)):=by
 by_cases g:40<n
 .go_in;go_wp2;go_ret;exact⟨Bm (Ir g).symm,bl0⟩
 by_cases h:n<3
 .go_in;go_wp2;go_ret;exact⟨Bm (Jf h).symm,bl0⟩
 obtain⟨b,j,rfl,-,-⟩:=i.at_ (k:=0) aK;go_in
 go_wp2_with (first|(go_at_call 60;refine rR (Pp l aK i) λm a=>?_)|(go_at_call 62;refine rR (an l aK aK f (i.keep a)) λo d=>?_))
 .go_ret;exact⟨Bm (Rh g h ‹_›).symm,a⟩
 .go_ret;exact⟨Bm (Ri g h ‹Bp _ _=false› (by simpa using ‹(!C8 l n)=true›)).symm,An a d⟩
 go_ret;exact⟨Bm (U9 g h ‹Bp _ _=false› (by simpa using ‹(!C8 l n)=false›)).symm,An a d⟩
def F4(l:LP)(n:Nat):Nat->Int
 | 0=>0
 | k+1=>wrap64 (F4 l n k+wrap64 (wrap64 ((gt l k).1*(gt l ((k+1) % n)).2)-wrap64 ((gt l k).2*(gt l ((k+1) % n)).1)))
theorem S4(l:LP)(g:k<=b)(f:SpS w h k l)(u:k<=1000000:=by omega):Calls prog 74 #[.slice h k b] w (Bz w (F4 l k k)):=by
 go_in;go_wp2;go_loopw [3,9] (λs i wr=>∃a:Nat,a<=k/\i=a/\s=(F4 l k a)/\Be w wr) λ_ i _=>k-(intOf i).toNat
 case atStart=>exact⟨0,aB,rfl,rfl,bl0⟩
 obtain⟨a,t,rfl,rfl,d⟩:=hrel;by_cases c:a<k
 .have e:(a+1) % k<k:=bE _ aK;have v:=(Q6 ((a:Int)+1) (a+1) k).2;obtain⟨j,o,rfl,-,-⟩:=f.at_ c;let⟨m,p⟩:=(f.keep d).cells c;let⟨q,r⟩:=(f.keep d).cells e;have n:j<wr.heap.size:=Bi m;go_wp2;go_roundw
  case rel=>exact⟨a+1,aK,aP,rfl,Ao (Ao d)⟩
  case measure=>simp[intOf];omega
 obtain rfl:k=a:=aK
 go_wp2;go_ret;exact⟨rfl,d⟩
theorem Vg(A:Option Addr)(d n:Nat)(l:LP)(f:n<=9223372036854775807)(a:n<=d)(i:SpS w A n l):Calls prog 45 #[.slice A n d] w (Bz w (if Bg l n=0 then F4 l n n else 0:Int)):=by
 by_cases c:Bg l n=0
 .have m:n<=40:=by
   rcases bG 40 n with h|h
   .rw[Ir h]at c;omega
   exact h
  rw[if_pos c];have k:=Ar c;have q:(Bg l n != 0)=false:=by rw[c];rfl
  clear c;go_in
  go_wp2_with (first|(go_at_call 39;refine rR (Dc _ _ _ l (hl:=f) a i) λj b=>?_)|(go_at_call 74;refine rR (S4 l a (i.keep b)) λo g=>?_))
  go_ret;exact⟨rfl,An b g⟩
 rw[if_neg c];have q:(Bg l n != 0)=true:=by rw[eT];exact c
 clear c;go_in
 go_wp2_with (go_at_call 39;refine rR (Dc _ _ _ l (hl:=f) a i) λj b=>?_)
 go_ret;exact⟨rfl,b⟩
def Vf(l:LP)(n k:Nat):Int:=Bs (gt l ((k+n-1) % n)) (gt l k) (gt l ((k+1) % n))
theorem Z0(a:Nat)(l:LP)(h:z<=s)(g:SpS w (some ⟨b,k,none⟩) z l)(j:a<z)(C:z<=1000000:=by omega):Calls prog 343 #[.slice (some ⟨b,k,none⟩) z s,a] w (Bz w (Vf l z a)):=by
 have e:(a+1) % z<z:=bE _ aK;have f:(a+z-1) % z<z:=bE _ aK;let⟨u,v⟩:=g.cells j;let⟨x,y⟩:=g.cells e;let⟨A,B⟩:=g.cells f;go_enter func343,ntmps343;go_wp2_with fail;have n:=Q6 ((a:Int)+1) (a+1) z;have o:=Q6 ((a:Int)+(z:Int)-1) (a+z-1) z (hz:=aK);have p:IntKind.i64.wrap ((a:Int)+1)=(a:Int)+1:=Dx a 1;have q:IntKind.i64.wrap ((a:Int)+(z:Int))=(a:Int)+(z:Int):=Dx a z;have r:IntKind.i64.wrap ((a:Int)+(z:Int)-1)=(a:Int)+(z:Int)-1:=Fm _ aK aK;have D:¬z=0:=aK
 refine Bh w [(⟨b,k+a*2,none⟩,(gt l a).1),(⟨b,k+a*2+1,none⟩,(gt l a).2),(⟨b,k+(a+1) % z*2,none⟩,(gt l ((a+1) % z)).1),(⟨b,k+(a+1) % z*2+1,none⟩,(gt l ((a+1) % z)).2),(⟨b,k+(a+z-1) % z*2,none⟩,(gt l ((a+z-1) % z)).1),(⟨b,k+(a+z-1) % z*2+1,none⟩,(gt l ((a+z-1) % z)).2)] ⟨bl0,aR⟩ ?_
 repeat
  apply Cx
  .rfl
  .intro t d;have m:=d.2;simp only[AC]at m
   go_simp
   first|rfl|exact Bw d (Li)
  go_simp
 refine cH ?_;intro t c;have i:=c.1;clear c n o p q r;go_wp2;go_ret;exact⟨rfl,i⟩
def loX(l:LP):Nat->Int|0=>(gt l 0).1|k+1=>if (gt l k).1<loX l k then (gt l k).1 else loX l k
def loY(l:LP):Nat->Int|0=>(gt l 0).2|k+1=>if (gt l k).2<loY l k then (gt l k).2 else loY l k
def hiX(l:LP):Nat->Int|0=>(gt l 0).1|k+1=>if hiX l k<(gt l k).1 then (gt l k).1 else hiX l k
def hiY(l:LP):Nat->Int|0=>(gt l 0).2|k+1=>if hiY l k<(gt l k).2 then (gt l k).2 else hiY l k
def Bf(w:World)(g:Nat)(t:TypeId)(a:Array Value):Prop:=w.heap[g]? = some (.cells a t (0,0))
theorem Bf.cell(h:Bf w b f c)(i:Nat):w.cell? ⟨b,i,none⟩=c[i]? := cell_of_row w b i c f (0,0) h
theorem Bf.frozen(h:Bf w b f c)(i:Nat):w.frozen? ⟨b,i,none⟩=false:=by
 unfold Bf at h;simp[World.frozen?,h]
theorem Bf.lt(h:Bf w b f c):b<w.heap.size:=by
 rcases bG b w with d|a
 .exact d
 unfold Bf at h;rw[fL a]at h;cases h
theorem Bf.pair{u v:Value}(h:Bf w b f #[u,v]):Cq w b 0 u/\Cq w b 1 v/\w.frozen? ⟨b,0,none⟩=false/\w.frozen? ⟨b,1,none⟩=false/\b<w.heap.size:=⟨(h.cell 0).trans rfl,(h.cell 1).trans rfl,h.frozen 0,h.frozen 1,h.lt⟩
theorem Bf.alloc(h:Bf w b f c)(o:Obj):Bf (w.alloc o) b f c:=(gO w o b h.lt).trans h
theorem Bf.new(w:World)(t:TypeId)(a:Array Value):Bf (w.alloc (.cells a t)) w t a:=heap_alloc_new w _
theorem Bf.new2(w:World)(o:Obj)(t:TypeId)(a:Array Value):Bf ((w.alloc o).alloc (.cells a t)) (w+1) t a:=by
 have h:=Bf.new (w.alloc o) t a;simpa using h
theorem Bf.new3(w:World)(o b:Obj)(t:TypeId)(a:Array Value):Bf (((w.alloc o).alloc b).alloc (.cells a t)) (w+1+1) t a:=by
 have h:=Bf.new ((w.alloc o).alloc b) t a;simpa using h
theorem Bq{P:Program}(h:∀X,Be w X->Bf X w f c->y.wp P e m X):y.wp P e m (w.alloc (.cells c f)):=h _ blA (Bf.new _ _ _)
theorem Eo{P:Program}{u:TypeId}{a:Array Value}(h:∀X,Be w X->Bf X w f c->Bf X (w+1) u a->y.wp P e m X):y.wp P e m ((w.alloc (.cells c f)).alloc (.cells a u)):=h _ (Ao blA) ((Bf.new _ _ _).alloc _) (Bf.new2 _ _ _ _)
theorem Jy{P:Program}{u v:TypeId}{a b:Array Value}(h:∀X,Be w X->Bf X w f c->Bf X (w+1) u a->Bf X (w+1+1) v b->y.wp P e m X):y.wp P e m (((w.alloc (.cells c f)).alloc (.cells a u)).alloc (.cells b v)):=h _ (Ao (Ao blA)) (((Bf.new _ _ _).alloc _).alloc _) ((Bf.new2 _ _ _ _).alloc _) (Bf.new3 _ _ _ _ _)
theorem Bf.drew(h:Bf w b f c):Bf w.drew b f c:=h
theorem Bf.drewN(h:Bf w b f c)(n:Nat):Bf (w.drewN n) b f c:=h
theorem Bf.set_(h:Bf w b f c)(i:Nat)(u:Value):Bf (w.setCell ⟨b,i,none⟩ u) b f (c.setIfInBounds i u):=by
 unfold Bf at h ⊢;simp[World.setCell,eS,h]
theorem Bf.far(h:Bf w b f c){p:Addr}(a:b≠p.block)(u:Value):Bf (w.setCell p u) b f c:=(dN w p u b a).trans h
theorem Bf.keep(h:Bf w b f c)(d:Be w a):Bf a b f c:=(d.block b h.lt).trans h
theorem Bf.grown(h:Bf w b f c)(e:w.grownBy a r)(d:some b≠r):Bf a b f c:=(e.block b h.lt d).trans h
theorem Aec(l:LP)(F:z<=s)(N:SpS w (some ⟨b,k,none⟩) z l)(K:Bg l z=0)(hl:z<=1000000:=by omega)(h0:0<z:=by omega):Calls prog 96 #[.slice (some ⟨b,k,none⟩) z s] w (Bz w (.tuple #[.agg #[(loX l z),(loY l z),(wrap64 (hiX l z-loX l z)),(wrap64 (hiY l z-loY l z))],.int .i64 0])):=by
 have HC:=Ar K;have q:(Bg l z != 0)=false:=by rw[K];rfl
 clear K;let⟨I,J⟩:=N.cells h0;simp only[eC,bU]at I J;go_enter func96,ntmps96
 go_upto_region 4 with (go_at_call 39;refine rR (Dc _ _ _ l F (N.keep blA)) λu r=>?_)
 have h:=An blA r;have E:=Aq h I;have L:=Aq h J;have D:b<u.heap.size:=Bi E;have G:Bf u w 158 #[.int .i64 0,.int .i64 0,.int .i64 0,.int .i64 0]:=(Bf.new w _ _).keep r;have t:w.heap.size<u.heap.size:=G.lt;clear I J r;go_cut [5,6] (λs5 s6 H=>∃a c:Nat,s5=.pointer (some ⟨a,0,none⟩)/\s6=.pointer (some ⟨c,0,none⟩)/\a≠c/\w.heap.size<a/\w.heap.size<c/\Bf H a 65 #[(gt l 0).1,(gt l 0).2]/\Bf H c 65 #[(gt l 0).1,(gt l 0).2]/\Bf H w 158 #[.int .i64 0,.int .i64 0,.int .i64 0,.int .i64 0]/\Be w H)
 case first =>
  go_region;all_goals go_wp2
  all_goals go_meet
  .exact⟨u,u+1,rfl,rfl,aK,t,aK,((Bf.new _ _ _).alloc _).drew,(Bf.new2 _ _ _ _).drew,((G.alloc _).alloc _).drew,Aw (Ao (Ao h))⟩
  exact⟨u+1,u,rfl,rfl,aK,aK,t,(Bf.new2 _ _ _ _).drew,((Bf.new _ _ _).alloc _).drew,((G.alloc _).alloc _).drew,Aw (Ao (Ao h))⟩
 clear E L D G t h;obtain⟨a,c,rfl,rfl,o,m,n,f,g,d,x⟩:=hcut;go_wp2;go_loopw [23] (λi wr=>∃j:Nat,j<=z/\i=j/\Bf wr a 65 #[(loX l j),(loY l j)]/\Bf wr c 65 #[(hiX l j),(hiY l j)]/\Bf wr w 158 #[.int .i64 0,.int .i64 0,.int .i64 0,.int .i64 0]/\Be w wr) λi _=>z-(intOf i).toNat
 case atStart=>exact⟨0,aB,rfl,f,g,d,x⟩
 clear f g d x;obtain⟨j,hk,rfl,f,g,d,x⟩:=hrel;let⟨O,P,S,T,l5⟩:=f.pair;let⟨Q,R,U,V,l6⟩:=g.pair;by_cases M:j<z
 .obtain⟨h1,h2⟩:=(N.keep x).cells M;have D:b<wr.heap.size:=Bi h1;go_wp2_with fail;exact aE ⟨((((f.set_ 0 _).set_ 1 _).far (p:=⟨c,0,none⟩) o _).far (p:=⟨c,1,none⟩) o _).alloc _,((((g.far (p:=⟨a,0,none⟩) o.symm _).far (p:=⟨a,1,none⟩) o.symm _).set_ 0 _).set_ 1 _).alloc _,((((d.far (p:=⟨a,0,none⟩) (eL m) _).far (p:=⟨a,1,none⟩) (eL m) _).far (p:=⟨c,0,none⟩) (eL n) _).far (p:=⟨c,1,none⟩) (eL n) _).alloc _,Ao (Ba (Ba (Ba (Ba x (p:=⟨a,0,none⟩) (cX m)) (p:=⟨a,1,none⟩) (cX m)) (p:=⟨c,0,none⟩) (cX n)) (p:=⟨c,1,none⟩) (cX n))⟩
 obtain rfl:z=j:=aK
 have y:=d.cell 0;have A:=d.cell 1;have B:=d.cell 2;have C:=d.cell 3;have W:=d.frozen 0;have X:=d.frozen 1;have Y:=d.frozen 2;have Z:=d.frozen 3;simp only[cA,bS,cE]at y A B C;go_wp2_with fail;exact bR ⟨rfl,Ba (Ba (Ba (Ba x (p:=⟨w,0,none⟩) aA) (p:=⟨w,1,none⟩) aA) (p:=⟨w,2,none⟩) aA) (p:=⟨w,3,none⟩) aA⟩ rfl (by simp[results,results96,go_sem,y,A,B,C])
theorem Ag1(l:LP)(n:k<=9223372036854775807)(j:k<=b)(u:SpS w h k l)(m:¬Bg l k=0):Calls prog 96 #[.slice h k b] w (Bz w (.tuple #[.agg #[.int .i64 0,.int .i64 0,.int .i64 0,.int .i64 0],(Bg l k)])):=by
 have q:(Bg l k != 0)=true:=by rw[eT];exact m
 clear m;go_enter func96,ntmps96
 go_wp2_with (go_at_call 39;refine rR (Dc _ _ _ l (hl:=n) j (u.keep blA)) λx i=>?_;have a:Bf x w 158 #[.int .i64 0,.int .i64 0,.int .i64 0,.int .i64 0]:=(Bf.new w _ _).keep i;have c:=a.cell 0;have d:=a.cell 1;have f:=a.cell 2;have g:=a.cell 3;have o:=a.frozen 0;have r:=a.frozen 1;have s:=a.frozen 2;have t:=a.frozen 3;simp only[cA,bS,cE]at c d f g)
 exact bR ⟨rfl,Ba (Ba (Ba (Ba (An blA i) (p:=⟨w,0,none⟩) aA) (p:=⟨w,1,none⟩) aA) (p:=⟨w,2,none⟩) aA) (p:=⟨w,3,none⟩) aA⟩ rfl (by simp[results,results96,go_sem,c,d,f,g])
section
def OwG{d:Type}(e:TypeId)(b:Nat)(c:d->List Value)(w:World)(a:Nat)(v:Value)(l:List d):Prop:=w.ownsRow a e b v l.length (l.flatMap c)
section
variable {α : Type} {e : TypeId} {size : Nat} {enc : α -> List Value} {w w' : World} {base : Nat} {v : Value} {l : List α}
theorem Cz(henc:∀x,(enc x).length=size)(l:List α):(l.flatMap enc).length=l.length*size:=by
 induction l with
 | nil=>simp
 | cons a l ih=>rw[cM,bA,ih,henc,dP,cN];omega
theorem OwG.nil:OwG e size enc w base (.slice none 0 0) ([]:List α):=World.ownsRow_nil w base e size
theorem OwG.alloc(h:OwG e size enc w base v l)(o:Obj):OwG e size enc (w.alloc o) base v l:=World.ownsRow.alloc h o
theorem OwG.keep(h:OwG e size enc w base v l)(hb:Be w w'):OwG e size enc w' base v l:=World.ownsRow.kept (row:=none) h ⟨hb.os,hb.tape,hb.output,hb.size,fun k hk _=>hb.block k hk⟩ (by cases h':v.ownBlock<;>simp)
theorem OwG.far(h:OwG e size enc w base v l){p:Addr}(hp:v.ownBlock≠some p.block)(u:Value):OwG e size enc (w.setCell p u) base v l:=by
 obtain⟨h1,h2⟩:=h;refine⟨h1,?_⟩;rcases h2 with h2|⟨g,cap,cur,hv,hg,hh,r⟩
 ·exact Or.inl h2
 ·refine Or.inr ⟨g,cap,cur,hv,hg,?_,r⟩
  rw[dN _ _ _ _ (by rintro rfl;exact hp (by rw[hv];rfl))];exact hh
theorem OwG.lt(h:OwG e size enc w base v l):∀k,v.ownBlock=some k->base<=k/\k<w.heap.size:=World.ownsRow.lt h
theorem OwG.lower(h:OwG e size enc w base v l)(hb:base'<=base):OwG e size enc w base' v l:=by
 obtain⟨h1,h2⟩:=h;refine⟨h1,?_⟩;rcases h2 with h2|⟨g,cap,cur,hv,hg,r⟩
 ·exact Or.inl h2
 ·exact Or.inr ⟨g,cap,cur,hv,bB hb hg,r⟩
theorem OwG.form(h:OwG e size enc w base v l):(v=.slice none 0 0/\l=[])\/∃g cap,v=.slice (some ⟨g,0,none⟩) l.length cap/\base<=g/\g<w.heap.size/\l.length<=cap/\cap<=maxLen:=by
 rcases h.2 with ⟨h1,h2⟩|⟨g,cap,cur,hv,hg,hh,h1,h2,_⟩
 ·exact Or.inl ⟨h1,bL h2⟩
 ·refine Or.inr ⟨g,cap,hv,hg,?_,h1,h2⟩
  rcases bG g w with hlt|hge
  ·exact hlt
  ·rw[fL hge] at hh;cases hh
theorem OwG.form2(h:OwG e size enc w base v l):∃A cap,v=.slice A l.length cap/\l.length<=cap/\cap<=maxLen/\(0<l.length->∃g,A=some ⟨g,0,none⟩/\base<=g/\g<w.heap.size):=by
 rcases h.form with ⟨rfl,rfl⟩|⟨g,cap,rfl,h1,h2,h3,h4⟩
 ·exact⟨none,0,rfl,aA,aB,fun h=>absurd h aL⟩
 ·exact⟨_,cap,rfl,h3,h4,fun _=>⟨g,rfl,h1,h2⟩⟩
theorem OwG.cells{g cap:Nat}(h:OwG e size enc w base (.slice (some ⟨g,0,none⟩) l.length cap) l)(j:Nat)(hj:j<l.length*size):w.cell? ⟨g,j,none⟩=(l.flatMap enc)[j]? := World.ownsRow.cellAt h j hj
end
theorem Bu{e:Type}{d:e->List Value}(c:∀x,(d x).length=b):∀(l:List e) (k i:Nat) (x:e),l[k]? = some x->i<b->(l.flatMap d)[k*b+i]? = (d x)[i]? := by
 intro l;induction l with
 | nil=>intro k i x h;simp at h
 | cons a l ih =>
   intro k i x h f;rw[cM];cases k with
   | zero =>
     simp at h;subst h;rw[eC,dB,cF (by rw[c];exact f)]
   | succ k =>
     rw[cI (by rw[c,cN];omega),c,show (k+1)*b+i-b=k*b+i by rw[cN];omega];exact ih k i x (by simpa using h) f
theorem Co{P:Program}{D:Array Oper}{g:List Oper}{o:Oper}{s x:Operand}(t:TypeId)
 (T:o.op=.call { callee:=.builtin .append,args:=#[s,x],argTypes:=#[t,t] })
 {O:Type} (b:O->List Value) (f:Nat) (q:TypeId) (z:Value) (a d:Nat) (U:P.underlying t=some (.slice q)) (y:(P.info? q).map (λi=>(i.zero,i.size,i.bytes))=some (some z,a,d))
   (r:∀x,(b x).length=a) (G:∀x,∀u∈b x,u.oneCell'=true)
 {v:Value} (l:List O)  (C:OwG q a b w f v l)
 (F c:Nat) (p:O) (tb:TypeId)  (A:Bf w F tb (b p).toArray)
   (k:f<=w.heap.size)
 (h:∀n E,OwG q a b E f n (l++[p])->w.grownBy E v.ownBlock->(n.ownBlock=v.ownBlock\/n.ownBlock=some w)->wpList P D e g (m.put o.dst n) E)  (hgd:o.guard=none:=by rfl) (N:z.cells.size=a:=by rfl) (J:0<a:=by omega) (hs:m.eval s=v:=by rfl) (hx:m.eval x=.slice (some ⟨F,0,none⟩) 1 c:=by rfl) (hlen:l.length+1<=maxLen:=by unfold maxLen;omega) (hbytes:(l.length+1)*d<=140737488355328:=by omega) :
 wpList P D e (o::g) m w:=by
 let⟨i,R,K,L,M⟩:=dW y;refine eX (P:=P) w hgd s x t T f q i z a d U R K L M N J v l.length (l.flatMap b) hs C ⟨F,0,none⟩ 1 c (b p) hx (by rw[r];omega) ?_ (G p) hlen hbytes k ?_
 .intro j u S;have:=eI (w:=w) (B:=F) (cs:=(b p).toArray) (t:=tb) (fr:=(0,0)) A j u (by simpa using S);exact this
 intro n E I Q _ H;refine h n E ?_ Q H;unfold OwG;rw[bA,dH];simpa using I
theorem Bk{e:Type}{c:e->List Value}{l:List e}(d:Be a w)(h:OwG f b c w a j l)(g:w.grownBy p j.ownBlock):Be a p:=dS d g d.size λk i=>(h.lt k i).1
def enS(p:Int×Int):List Value:=[p.1,p.2]
theorem Cm(p:Int×Int):(enS p).length=2:=rfl
theorem Io(p:Int×Int):∀u∈enS p,u.oneCell'=true:=by
 intro u a;simp[enS]at a;rcases a with rfl|rfl<;>rfl
def OwS(w:World)(a:Nat)(v:Value)(l:LP):Prop:=OwG 65 2 enS w a v l
theorem Si:(prog.info? 65).map (λi=>(i.zero,i.size,i.bytes))=some (some (.agg #[.int .i64 0,.int .i64 0]),2,16):=aN
theorem G3{l:LP}(h:b<l.length):l[b]? = some (gt l b):=by
 unfold gt;rw[List.getD,aW h];rfl
theorem OwS.sps{l:LP}(h:OwS w b j l):∃A a,j=.slice A l.length a/\l.length<=a/\SpS w A l.length l/\(0<l.length->∃g,A=some ⟨g,0,none⟩/\b<=g/\g<w.heap.size):=by
 rcases OwG.form h with⟨rfl,rfl⟩|⟨g,a,rfl,m,n,o,p⟩
 .exact⟨none,0,rfl,aA,⟨rfl,.inl rfl⟩,λh=>absurd h aL⟩
 refine⟨_,a,rfl,o,⟨rfl,.inr ⟨g,0,rfl,λk f=>?_⟩⟩,λ_=>⟨g,rfl,m,n⟩⟩;have c:=OwG.cells h (k*2) aK;have d:=OwG.cells h (k*2+1) aK;have e:=Bu Cm l k 0 _ (G3 f) aK;have i:=Bu Cm l k 1 _ (G3 f) aK;rw[bU]at e;rw[e]at c;rw[i]at d;rw[dB];exact⟨c,d⟩
theorem Dl{k:Array Oper}{b:List Oper}{o:Oper}{x:Operand}
 (y:o.op=.call { callee:=.builtin .append,args:=#[u,x],argTypes:=#[48,48] })
 (a:Nat)  (l:LP)  (i:OwS w a j l)
 (q c:Nat) (p:Int×Int) (tb:TypeId)  (g:Bf w q tb #[p.1,p.2])
 (s:l.length<=1000000) (d:a<=w.heap.size)
 (h:∀n r,OwS r a n (l++[p])->w.grownBy r j.ownBlock->(n.ownBlock=j.ownBlock\/n.ownBlock=some w)->wpList prog k e b (m.put o.dst n) r)  (f:o.guard=none:=by rfl) (t:m.eval u=j:=by rfl) (v:m.eval x=.slice (some ⟨q,0,none⟩) 1 c:=by rfl) :
 wpList prog k e (o::b) m w :=
 Co (hgd:=f) (s:=u) (x:=x) 48 y enS a 65 (.agg #[.int .i64 0,.int .i64 0]) 2 16 underlying48 Si Cm Io (v:=j) l (hs:=t) i q c p tb (hx:=v) g d h
end
theorem OwG.frozen{c:Type}{a:c->List Value}{l:List c}(h:OwG f b a w k (.slice (some ⟨s,0,none⟩) l.length z) l)(j:Nat):w.frozen? ⟨s,j,none⟩=false:=World.ownsRow.frozenAt h j
theorem OwS.cells{g a n:Nat}{l:LP}(h:OwS w b (.slice (some ⟨g,0,none⟩) n a) l)(f:l.length=n)(d:k<n):Cq w g (k*2) (gt l k).1/\Cq w g (k*2+1) (gt l k).2/\w.frozen? ⟨g,k*2,none⟩=false/\w.frozen? ⟨g,k*2+1,none⟩=false:=by
 subst f;let⟨A,c,e,_,i,_⟩:=h.sps;injection e with e1 e2 e3
 subst e1;have:=i.cells d;rw[dB]at this;exact⟨this.1,this.2,OwG.frozen h _,OwG.frozen h _⟩
theorem Aa8{l:LP}(x y:Int):((l.flatMap enS).set (b*2) x).set (b*2+1) y=(l.set b (x,y)).flatMap enS:=by
 induction l generalizing b with
 | nil=>simp
 | cons a l ih =>
   cases b with
   | zero=>simp[enS,cM]
   | succ b =>
     rw[eE,cM,cM,<-ih];simp only[enS,cV,dQ];rw[show (b+1)*2=b*2+1+1 by omega];simp
theorem OwS.store{g a n:Nat}{l:LP}(h:OwS w b (.slice (some ⟨g,0,none⟩) n a) l)(e:l.length=n)(f:k<n)(x y:Int):OwS ((w.setCell ⟨g,k*2,none⟩ x).setCell ⟨g,k*2+1,none⟩ y) b (.slice (some ⟨g,0,none⟩) n a) (l.set k (x,y)):=by
 subst e;have d:=(dI h (k*2) x).1;have c:=(dI d (k*2+1) y).1;rw[Aa8]at c;unfold OwS OwG;rw[cD];exact c
theorem Gb.set(h:a.grownBy w (some b))(i:Nat)(u:Value):a.grownBy (w.setCell ⟨b,i,none⟩ u) (some b):=⟨h.os,h.tape,h.output,by simpa[World.setCell] using h.size,λj d c=>(dN w ⟨b,i,none⟩ u j λe=>c (by rw[e])).trans (h.block j d c)⟩
theorem Gb.drew(h:a.grownBy w r):a.grownBy w.drew r:=⟨h.os,h.tape,h.output,h.size,h.block⟩
theorem Gb.drewN(h:a.grownBy w r)(n:Nat):a.grownBy (w.drewN n) r:=⟨h.os,h.tape,h.output,h.size,h.block⟩
theorem OwS.drew{l:LP}(h:OwS w b j l):OwS w.drew b j l:=h
theorem OwS.drewN{l:LP}(h:OwS w b j l)(n:Nat):OwS (w.drewN n) b j l:=h
def Kg(l:LP)(k:Nat):LP:=(List.range l.length).map λp=>if p<k\/l.length-k<=p then gt l (l.length-1-p) else gt l p
theorem Dq(l:LP)(k:Nat):(Kg l k).length=l.length:=by simp[Kg]
theorem Jm{l:LP}(a:k<l.length):gt (Kg l b) k=if k<b\/l.length-b<=k then gt l (l.length-1-k) else gt l k:=by
 unfold gt Kg;rw[List.getD,dC,fH a];rfl
theorem Gn{l b:LP}(h:l.length=b.length)(c:∀k,k<l.length->gt l k=gt b k):l=b:=by
 apply fF;intro i;rcases bG i l.length with a|a
 .rw[G3 a,G3 aK,c i a]
 rw[bI a,bI aK]
theorem Lg{l:LP}{x:Int×Int}(a:b<l.length):gt (l.set b x) k=if b=k then x else gt l k:=by
 unfold gt;rw[List.getD,fU];by_cases h:b=k
 .subst h;simp[a]
 simp[h,List.getD]
theorem bj(l:LP):Kg l 0=l:=by
 apply Gn (Dq _ _);intro k a;rw[Dq]at a;rw[Jm a,if_neg aK]
theorem lz{l:LP}(h:l.length<=2*k+1):Kg l k=l.reverse:=by
 apply Gn (by rw[Dq,dV]);intro p a;rw[Dq]at a;rw[Jm a]
 have:gt l.reverse p=gt l (l.length-1-p):=by
  unfold gt;rw[List.getD,iM a];rfl
 rw[this];by_cases b:p<k\/l.length-k<=p
 .rw[if_pos b]
 rw[if_neg b];congr 1;omega
theorem bk{l:LP}(h:k<l.length-1-k):((Kg l k).set k (gt (Kg l k) (l.length-1-k))).set (l.length-1-k) (gt (Kg l k) k)=Kg l (k+1):=by
 apply Gn (by simp[Dq]);intro p a;simp[Dq]at a;rw[Lg (by rw[cD,Dq];omega),Lg (by rw[Dq];omega),Jm aK,Jm aK,Jm a,Jm a];by_cases b:l.length-1-k=p
 .rw[if_pos b,if_neg aK,if_pos aK];congr 1;omega
 rw[if_neg b];by_cases c:k=p
 .rw[if_pos c,if_neg aK,if_pos aK];congr 1;omega
 rw[if_neg c];by_cases d:p<k\/l.length-k<=p
 .rw[if_pos d,if_pos aK]
 rw[if_neg d,if_neg aK]
theorem Oh(a:Nat)(l:LP)(v:l.length<=1000000)(f:OwS w a j l):Calls prog 344 #[j] w λe t=>e=.returned (.tuple #[])/\OwS t a j l.reverse/\w.grownBy t j.ownBlock:=by
 let⟨n,o⟩:=gN l.length
 rcases OwG.form f with⟨rfl,rfl⟩|⟨g,h,rfl,I,J,u,K⟩
 .go_in;go_wp2
  go_loop [2,3] (λi q=>i=.int .i64 0/\q=.int .i64 (-1)) λ_ _=>0
  case atStart=>exact⟨rfl,rfl⟩
  obtain⟨rfl,rfl⟩:=hrel;go_wp2
  go_end0
  exact⟨rfl,f,dA _ _⟩
 rw[o]at f v u ⊢;have b:=Ar o;clear o;go_in;go_wp2;go_loopw [2,3] (λi q wr=>∃k:Nat,2*k<=n/\i=k/\q=.int .i64 ((n:Int)-1-k)/\OwS wr a (.slice (some ⟨g,0,none⟩) n h) (Kg l k)/\w.grownBy wr (some g)) λi _ _=>n-(intOf i).toNat
 case atStart=>exact⟨0,aK,rfl,aL,by rw[bj];exact f,dA _ _⟩
 obtain⟨k,L,rfl,rfl,d,r⟩:=hrel;by_cases m:k<n-1-k
 .have s:n-1-k<n:=aK
  let⟨z,A,E,F⟩:=d.cells ((Dq _ _).trans b.out) (k:=k) aK;let⟨B,C,G,H⟩:=d.cells ((Dq _ _).trans b.out) s;have D:((n:Int)-1-(k:Int)).toNat=n-1-k:=aK
  have x:0<=(n:Int)-1-(k:Int):=aK
  have y:(n:Int)-1-(k:Int)<(n:Int):=aK
  go_wp2;go_region;go_wp2;have p:=((d.store ((Dq _ _).trans b.out) (k:=k) aK (gt (Kg l k) (n-1-k)).1 (gt (Kg l k) (n-1-k)).2).store (by rw[cD,Dq];exact b.out) s (gt (Kg l k) k).1 (gt (Kg l k) k).2).drew;have c:=bk (l:=l) (k:=k) (by rw[b.out];exact m);rw[b.out]at c;exact⟨⟨k+1,aK,aP,by congr 1;omega,by rw[<-c];exact p,Gb.drew (Gb.set (Gb.set (Gb.set (Gb.set r _ _) _ _) _ _) _ _)⟩,aI⟩
 go_wp2
 go_end0
 exact⟨rfl,by rw[<-lz (k:=k) (by rw[b.out];omega)];exact d,r⟩
theorem Ij{l:LP}(h:SpS w (some t) b l):∀j u,(l.flatMap enS)[j]? = some u->w.cell? (t.add j)=some u:=by
 intro j u m;have g:=Cz Cm l
 have n:j<(l.flatMap enS).length:=by
  rcases bG j (l.flatMap enS).length with k|k
  .exact k
  rw[bI k]at m;cases m
 rw[g,h.1]at n;have o:j / 2<b:=aK
 obtain⟨p,a,e,-,r⟩:=h.at_ o;injection e with e
 subst e;have c:=Bu Cm l (j / 2) (j % 2) _ (G3 (by rw[h.1];exact o)) aK;rw[show j / 2*2+j % 2=j by omega,m]at c;have f:=r (j / 2) o
 have q:(⟨p,a,none⟩:Addr).add j=⟨p,a+j,none⟩:=by
  unfold Addr.add;by_cases d:j=0
  .subst d;simp
  simp[d]
 rw[q];rcases gV j with d|d
 .rw[d]at c;have i:a+j=a+j / 2*2:=aK
  rw[i,f.1,c];rfl
 rw[d]at c;have i:a+j=a+j / 2*2+1:=aK
 rw[i,f.2,c];rfl
theorem Et{r:Array Oper}{d:List Oper}{o:Oper}{x:Operand}
 (I:o.op=.call { callee:=.builtin .append,args:=#[u,x],argTypes:=#[48,48] })
 (a:Nat) {v:Value} (l:LP)  (b:OwS w a v l)
 (A:Option Addr) (g c:Nat) (t:LP)  (q:SpS w A g t) (n:A=none->c=0)
 (H:l.length+g<=1000000) (f:a<=w.heap.size)
 (h:∀j s,OwS s a j (l++t)->w.grownBy s v.ownBlock->(j.ownBlock=v.ownBlock\/j.ownBlock=some w)->wpList prog r e d (m.put o.dst j) s)  (k:o.guard=none:=by rfl) (J:m.eval u=v:=by rfl) (hx:m.eval x=.slice A g c:=by rfl) :
 wpList prog r e (o::d) m w:=by
 let⟨i,G,D,E,F⟩:=dW Si;cases A with
 | none =>
   have L:=n rfl;subst L
   have N:g=0:=by
    rcases bK g with y|y
    .exact y
    let⟨_,_,K,_⟩:=q.at_ y;cases K
   subst N;have B:t=[]:=bL q.1;subst B;refine gM k u x 48 I a 65 i 2 underlying48 G v l.length (l.flatMap enS) J b hx ?_;exact h v w (by rw[eM];exact b) (dA _ _) (Or.inl rfl)
 | some ad =>
   refine eX (P:=prog) w k u x 48 I a 65 i (.agg #[.int .i64 0,.int .i64 0]) 2 16 underlying48 G D E F rfl (by omega) v l.length (l.flatMap enS) J b ad g c (t.flatMap enS) hx (by rw[Cz Cm,q.1]) (Ij q) ?_ (by unfold maxLen;omega) (by omega) f ?_
   .intro R Q;let⟨p,_,O⟩:=gB.1 Q;exact Io p R O
   intro j s C M _ z;refine h j s ?_ M z;unfold OwS OwG;rw[bA,dH,q.1];exact C
def Vi(w:World)(l:LP)(e:Ending)(a:World):Prop:=∃v,e=.returned v/\OwS a w v l/\Be w a
theorem zv(a:b<=w.heap.size)(d:k<=maxLen)(e:c.size=k*2):OwS (w.alloc (.cells c 65)) b (.slice (some ⟨w,0,none⟩) 0 k) []:=World.ownsRow_made w c k a d e
theorem Ls{P:Program}{c:Array Oper}{b:List Oper}{o:Oper}(d:o.guard=none){x:Operand}{g:TypeId}{i vx:Value}
 (l:o.op=.call { callee:=.builtin .append,args:=#[u,x],argTypes:=#[f,g] }) (p:m.eval u=i) (q:m.eval x=vx)
 (n:∀r,(Builtin.append_ #[f,g] r #[i,vx]).run P w=.ok j a) (h:wpList P c e b (m.put o.dst j) a):wpList P c e (o::b) m w:=by
 refine gT d λK k=>?_
 unfold Oper.wp execOp;simp only[l,resolve,invoke,builtin,iP,iQ,gY,iF,eV,fO,p,q,n];exact k _ _ h
theorem Aaz(s:0<=g)(d:g<=1000000):Calls prog 366 #[.slice none 0 0,g] w (Vi w []):=by
 obtain⟨n,rfl⟩:∃n:Nat,g=n:=⟨g.toNat,aK⟩
 have r:n<=1000000:=aK
 by_cases q:0<n
 .obtain⟨i,m,f,l,d⟩:=dW Si;have b:(Builtin.firstCells i.size 0 (.slice none 0 0)).run prog w.drew=.ok #[] w.drew:=run_firstCells_none w.drew i.size 0 0 0;have a:=λj=>Lib.run_append_grow_zeros (P:=prog) w 48 3 j 65 i (.agg #[.int .i64 0,.int .i64 0]) .i64 .i64 underlying48 underlying3 m f none 0 0 [] b n aK aK aK aK (by rw[d];omega) (by rw[d];exact growslice_fits aK aK)
  let⟨G,c,e,p,k,a⟩:∃(G:Nat) (c:Array Value),c.size=G*2/\n<=G/\G<=9223372036854775807/\∀j,(Builtin.append_ #[48,3] j #[.slice none 0 0,n]).run prog w=.ok (.slice (some ⟨w,0,none⟩) n G) (w.alloc (.cells c 65)).drew:=by
   refine⟨grownCap w (0+n) 0 65,#[]++Builtin.zeroCells (Value.agg #[Value.int IntKind.i64 0,Value.int IntKind.i64 0]).cells n++Builtin.zeroCells (Value.agg #[Value.int IntKind.i64 0,Value.int IntKind.i64 0]).cells (grownCap w (0+n) 0 65-(0+n)),?_,?_,?_,λj=>?_⟩
   .have h:=grownCap_ge w (0+n) 0 65;rw[Array.size_append,Array.size_append,size_zeroCells,size_zeroCells];simp only[Value.cells];simp at h ⊢;omega
   .have h:=grownCap_ge w (0+n) 0 65;omega
   .have h:=grownCap_le_maxLen w (0+n) 0 65 aS;unfold maxLen at h;exact h
   have h:=a j;rw[dB]at h ⊢;exact h
  clear b m f l;have o:=Ar a;clear a;go_in
  go_wp2_with (at_builtin;refine Ls rfl rfl rfl rfl o.out ?_)
  go_ret;exact⟨_,rfl,OwS.drew (zv aA (by unfold maxLen;exact k) e),Aw blA⟩
 obtain rfl:n=0:=aK
 go_in;go_wp2;go_ret;exact⟨_,rfl,OwG.nil,bl0⟩
theorem Mn(r:Nat)(o p:Option Addr)(f n t u v:Nat)(d q:LP)(w:World)(H:f<=100000)(I:n<=100000)(m:SpS w o f d)(x:SpS w p n q)(y:o=none->t=0)(z:p=none->u=0)
 (A:Cq w r 0 (.slice o f t)) (C:Cq w r 1 (.slice p n u)) :
 Calls prog 345 #[.slice (some ⟨r,0,none⟩) 2 v] w (Vi w (d++q)):=by
 go_in;go_wp2
 go_loop [3,11] (λs i=>∃k:Nat,k<=2/\i=k/\s=.int .i64 (if k=0 then 0 else if k=1 then (f:Int) else (f:Int)+n)) λ_ i=>2-(intOf i).toNat
 case atStart=>exact⟨0,by omega,rfl,rfl⟩
 obtain⟨k,E,rfl,rfl⟩:=hrel;rcases(show k=0\/k=1\/k=2 by omega) with rfl|rfl|rfl
 .go_wp2;exact⟨⟨1,by omega,by simp,by simp⟩,by simp[intOf]⟩
 .go_wp2;exact⟨⟨2,by omega,by simp,by simp⟩,by simp[intOf]⟩
 go_wp2_with (go_at_call 366;refine aF (Aaz (by omega) (by omega)) λK J l h=>?_)
 go_loopw [6,27] (λs i wr=>∃k:Nat,k<=2/\i=k/\OwS wr w s (if k=0 then [] else if k=1 then d else d++q)/\Be w wr) λ_ i _=>2-(intOf i).toNat
 case atStart=>exact⟨0,by omega,rfl,l,h⟩
 clear l h;obtain⟨k,E,rfl,j,a⟩:=hrel;have B:=Aq a A;have D:=Aq a C;rcases(show k=0\/k=1\/k=2 by omega) with rfl|rfl|rfl
 .go_wp2_with (at_builtin;refine Et rfl w [] j o f t d (m.keep a) y (by simp;omega) a.size ?_;intro F G c b g)
  exact⟨⟨1,by omega,by simp,by simpa using c,Bk a j b⟩,by simp[intOf]⟩
 .go_wp2_with (at_builtin;refine Et rfl w d j p n u q (x.keep a) z (by rw[m.1];omega) a.size ?_;intro F G c b g)
  exact⟨⟨2,by omega,by simp,by simpa using c,Bk a j b⟩,by simp[intOf]⟩
 go_wp2;go_ret;exact⟨_,rfl,j,a⟩
def Qg(l:LP)(n:Nat):Nat->LP
 | 0=>[]
 | k+1=>if Vf l n k != 0 then Qg l n k++[gt l k] else Qg l n k
def G0(p q:Int×Int):Bool:=decide (p.1<q.1) || (decide (p.1=q.1)&&decide (p.2<q.2))
def Fg(c:LP):Nat->Nat
 | 0=>0
 | k+1=>if G0 (gt c k) (gt c (Fg c k)) then k else Fg c k
def Km(l:LP)(n:Nat):LP:=if F4 l n n<0 then (Qg l n n).reverse else Qg l n n
def rot(c:LP)(f:Nat):LP:=c.drop f++c.take f
def Ct(l:LP)(n:Nat):LP:=rot (Km l n) (Fg (Km l n) (Km l n).length)
theorem Lj(l:LP)(n:Nat):∀k,(Qg l n k).length<=k
 | 0=>aA
 | k+1=>by
   have:=Lj l n k;unfold Qg;split
   .rw[bA];simp;omega
   omega
theorem Po(l:LP)(n:Nat):(Km l n).length<=n:=by
 unfold Km;split
 .rw[dV];exact Lj l n n
 exact Lj l n n
theorem Pj(c:LP):∀k,Fg c k<=k
 | 0=>aA
 | k+1=>by
   have:=Pj c k;unfold Fg;split<;>omega
theorem ru(c:LP):∀k,0<k->Fg c k<k
 | 0,h=>absurd h (by omega)
 | k+1,_=>by
   have:=Pj c k;unfold Fg;split<;>omega
theorem Abq{l:LP}(h:(Vf l b k != 0)=true):Qg l b k++[gt l k]=Qg l b (k+1):=by
 rw[show Qg l b (k+1)=if Vf l b k != 0 then Qg l b k++[gt l k] else Qg l b k from rfl,if_pos h]
theorem Agx{l:LP}(h:(Vf l b k != 0)=false):Qg l b k=Qg l b (k+1):=by
 rw[show Qg l b (k+1)=if Vf l b k != 0 then Qg l b k++[gt l k] else Qg l b k from rfl,if_neg (by rw[h];simp)]
theorem Agd{l:LP}:gt (l.drop b) k=gt l (b+k):=by
 unfold gt;simp[List.getD,List.getElem?_drop]
theorem SpS.drop{l:LP}(h:SpS w (some ⟨b,k,none⟩) s l){i:Nat}(d:i<=s):SpS w (some ⟨b,k+i*2,none⟩) (s-i) (l.drop i):=by
 refine⟨by rw[dF,h.1],?_⟩;rcases bK (s-i) with c|c
 .exact .inl c
 refine .inr ⟨b,k+i*2,rfl,λa e=>?_⟩;rw[Agd];have:=h.cells (k:=i+a) aK;rw[show k+(i+a)*2=k+i*2+a*2 by omega]at this;exact this
theorem OwS.spsg{l:LP}(h:OwS w b (.slice (some ⟨k,0,none⟩) z s) l)(c:l.length=z):SpS w (some ⟨k,0,none⟩) z l:=by
 subst c;let⟨A,a,e,_,d,_⟩:=h.sps;injection e with e1 e2 e3
 subst e1;exact d
theorem F0{tb:TypeId}{c:Addr}{i a:Nat}(f g:LP)(j:Bf w b tb #[.slice (some t) k z,.slice (some c) s i])(d:SpS w (some t) k f)(e:SpS w (some c) s g)(l:k<=100000)(m:s<=100000):Calls prog 345 #[.slice (some ⟨b,0,none⟩) 2 a] w (Vi w (f++g)) :=
 Mn b (some t) (some c) k s z i a f g w l m d e (λh=>by cases h) (λh=>by cases h) (j.cell 0) (j.cell 1)
theorem ml{c:LP}:Fg c (b+1)=if (gt c b).1<(gt c (Fg c b)).1\/(gt c b).1=(gt c (Fg c b)).1/\(gt c b).2<(gt c (Fg c b)).2 then b else Fg c b:=by rw[Fg,G0];simp
theorem M4(h:b=k):Value.int .i64 (b:Int)=.int .i64 (k:Int):=by rw[h]
theorem pg(b U I n:Nat)(l:LP)(w:World)(hl:n<=1000)(f:n<=I)(G:SpS w (some ⟨b,U,none⟩) n l)(Z:Bg l n=0):Calls prog 279 #[.slice (some ⟨b,U,none⟩) n I] w λe w'=>∃v,e=.returned (.tuple #[v,.int .i64 0])/\OwS w' w v (Ct l n)/\Be w w':=by
 have HC:=Ar Z;have q:(Bg l n != 0)=false:=by rw[Z];rfl
 clear Z;go_enter func279,ntmps279
 go_wp2_with (go_at_call 39;refine rR (Dc _ _ _ l f G) λw1 K=>?_)
 go_loopw [5,19] (λs i wr=>∃k:Nat,k<=n/\i=k/\OwS wr w s (Qg l n k)/\Be w wr) λ_ i _=>n-(intOf i).toNat
 case atStart=>exact⟨0,aB,rfl,OwG.nil,K⟩
 clear K;obtain⟨k,hk,rfl,D,r⟩:=hrel;by_cases o:k<n
 .obtain⟨Y,h2⟩:=(G.keep r).cells o;have x:=Lj l n k;by_cases E:(Vf l n k != 0)=true
  .go_wp2_with (first|(go_at_call 343;refine rR (Z0 k l f (G.keep (Ao r)) o) λF a=>?_;have hB:=(Bf.new wr 65 #[(gt l k).1,(gt l k).2]).keep a;have c0:=hB.cell 0;have c1:=hB.cell 1;simp only[cA,bS,cE]at c0 c1)|(at_builtin;refine Dl rfl w (Qg l n k) (((D.alloc _).keep a).alloc _) F 1 (gt l k) 65 (Bf.new _ _ _) aK (bB (Ao (An (Ao r) a)).size aA) ?_;intro v' w' a8 a1 b2))
   exact aE ⟨by rw[<-Abq E];exact a8,Bk (Ao (An (Ao r) a)) (((D.alloc _).keep a).alloc _) a1⟩
  have L:(Vf l n k != 0)=false:=by simpa using E
  clear E
  go_wp2_with (go_at_call 343;refine rR (Z0 k l f (G.keep (Ao r)) o) λF a=>?_)
  exact aE ⟨by rw[<-Agx L];exact(D.alloc _).keep a,An (Ao r) a⟩
 obtain rfl:n=k:=aK
 by_cases ha:F4 l n n<0
 case' pos =>
  have J:Km l n=(Qg l n n).reverse:=by unfold Km;rw[if_pos ha]
  go_upto_region 13 with (first|(go_at_call 74;refine rR (S4 l f (G.keep r)) λF a=>?_)|(go_at_call 344;refine rR (Oh w (Qg l n n) (by have:=Lj l n n;omega) (D.keep a)) λw3⟨R,Q⟩=>?_))
  have A:OwS w3 w u5 (Km l n):=by rw[J];exact R
  have h:Be w w3:=Bk (An r a) (D.keep a) Q;clear J D r a R Q;obtain⟨B,rfl⟩:∃B:World,B=w3:=⟨_,rfl⟩
 case' neg =>
  have J:Km l n=Qg l n n:=by unfold Km;rw[if_neg ha]
  go_upto_region 13 with (go_at_call 74;refine rR (S4 l f (G.keep r)) λF a=>?_)
  have A:OwS F w u5 (Km l n):=by rw[J];exact D.keep a
  have h:Be w F:=An r a;clear J D r a;obtain⟨B,rfl⟩:∃B:World,B=F:=⟨_,rfl⟩
 all_goals
  rcases OwG.form A with⟨rfl,N⟩|⟨g,W,rfl,-,-,O,-⟩
  .have y:Ct l n=[]:=by unfold Ct;rw[N];rfl
   have t:=Ar y;clear y N A;go_wp2;go_loopw [8,40] (λs i wr=>i=.int .i64 0/\s=.int .i64 0/\wr=B) λ_ _ _=>0
   case atStart=>exact⟨rfl,rfl,rfl⟩
   obtain⟨rfl,rfl,rfl⟩:=hrel;go_wp2_with fail
   go_region_with (go_at_call 345;refine aF (Mn _ none none 0 0 0 0 _ [] [] _ aK aK ⟨rfl,.inl rfl⟩ ⟨rfl,.inl rfl⟩ (λ_=>rfl) (λ_=>rfl) aL aL) λw4 V z u=>?_)
   go_wp2
   go_ret2
   exact⟨V,rfl,by rw[t.out];exact OwG.lower z (bB h.size aL),An (Aw (Ao h)) u⟩
  have p:=A.spsg rfl;have x:=Po l n;let⟨c,j⟩:∃c,c=Km l n:=⟨_,rfl⟩
  rw[<-j]at O p x ⊢;have X:=Ar j;clear j;let⟨m,hm⟩:=gN c.length
  rw[hm]at O p x ⊢;have HM:=Ar hm;clear hm A;go_wp2;go_loopw [8,40] (λs i wr=>∃k:Nat,k<=m/\i=k/\s=(Fg c k)/\Be B wr) λ_ i _=>m-(intOf i).toNat
  case atStart=>exact⟨0,aB,rfl,rfl,bl0⟩
  obtain⟨k,hk,rfl,rfl,d⟩:=hrel;by_cases o:k<m
  .have hf:Fg c k<m:=by have:=Pj c k;omega
   let⟨Y,h2⟩:=(p.keep d).cells o;let⟨h3,h4⟩:=(p.keep d).cells hf;have ba:g<wr.heap.size:=Bi Y;simp only[dB]at Y h2 h3 h4;go_wp2_with fail;all_goals exact dn o ⟨M4 (by rw[ml];split<;>first|rfl|(exfalso;omega)),Ao (Ao d)⟩
  obtain rfl:m=k:=aK
  have y:Ct l n=rot c (Fg c m):=by unfold Ct;rw[<-X.out,HM.out]
  have t:=Ar y;clear y;by_cases a7:0<m
  .have hf:=ru c m a7;have bb:(Fg c m:Int)<=(W:Int):=aK
   have bc:(Fg c m:Int)<=(m:Int):=aK
   have bd:¬W=Fg c m:=aK
   have bl:(m:Int)<=(W:Int):=aK
   have S:SpS B (some ⟨g,Fg c m*2,none⟩) (m-Fg c m) (c.drop (Fg c m)):=by simpa using p.drop (i:=Fg c m) aK
   have T:=p.take (i:=Fg c m) aK;have ad:m-Fg c m<=100000:=aK
   have hq2:Fg c m<=100000:=aK
   go_wp2_with fail
   go_region_with (go_at_call 345;refine aF (F0 (c.drop (Fg c m)) (c.take (Fg c m)) (Bf.drew (Bf.new _ _ _)) (S.keep (Aw (Ao d))) (T.keep (Aw (Ao d))) ad hq2) λw4 V z u=>?_)
   go_wp2
   go_ret2
   exact⟨V,rfl,by rw[t.out];exact OwG.lower z (bB (An h d).size aL),An (Aw (Ao (An h d))) u⟩
  obtain rfl:m=0:=aK
  have M:c=[]:=bL HM.out;have f0:Fg c 0=0:=rfl;have C:Ct l n=[]:=by rw[t.out,M];rfl
  have H:=Ar C;clear C t M;have z1:SpS B (some ⟨g,0,none⟩) 0 []:=⟨rfl,.inl rfl⟩;by_cases P:W=0
  case' pos=>subst P
  all_goals
   go_wp2_with fail
   go_region_with (go_at_call 345;refine aF (F0 [] [] (Bf.drew (Bf.new _ _ _)) (z1.keep (Aw (Ao d))) (z1.keep (Aw (Ao d))) aB aB) λw4 V z u=>?_)
   go_wp2
   go_ret2
   exact⟨V,rfl,by rw[H.out];exact OwG.lower z (bB (An h d).size aL),An (Aw (Ao (An h d))) u⟩
theorem Ev:Calls prog 282 #[.agg #[g,q],.agg #[v,A],.agg #[B,C]] w λe a=>e=.returned (Bs (g,q) (v,A) (B,C))/\Below w w a:=by
 go_enter func282,ntmps282;go_wp2;go_ret;exact⟨rfl,Ao (Ao (Ao (aV _ _)))⟩
theorem Mp:Calls prog 387 #[.agg #[g,q],.agg #[v,A],.agg #[B,C]] w λe a=>e=.returned (Bs (g,q) (v,A) (B,C))/\Below w w a:=by
 go_enter func387,ntmps387;go_wp2;go_ret;exact⟨rfl,Ao (Ao (Ao (aV _ _)))⟩
theorem xv:Calls prog 346 #[.agg #[g,q]] w λe a=>e=.returned (.bool (Cc 1048576 (g,q)))/\Below w w a:=by
 go_enter func346,ntmps346;go_wp2;all_goals go_ret
 all_goals exact⟨Bn (by simp[Cc]<;>omega),Ao (aV _ _)⟩
theorem Abp:Calls prog 363 #[.agg #[g,q]] w λe a=>e=.returned (.bool (Cc 4194304 (g,q)))/\Below w w a:=by
 go_enter func363,ntmps363;go_wp2;all_goals go_ret
 all_goals exact⟨Bn (by simp[Cc]<;>omega),Ao (aV _ _)⟩
theorem G5:Calls prog 208 #[.agg #[g,q]] w λe a=>e=.returned (.bool (Cc 1048576 (g,q)))/\Below w w a:=by
 go_enter func208,ntmps208;go_wp2;all_goals go_ret
 all_goals exact⟨Bn (by simp[Cc]<;>omega),Ao (aV _ _)⟩
theorem Dz:Calls prog 38 #[.agg #[g,q]] w λe a=>e=.returned (.bool (Cc 1048576 (g,q)))/\Below w w a:=by
 go_enter func38,ntmps38;go_wp2;all_goals go_ret
 all_goals exact⟨Bn (by simp[Cc]<;>omega),Ao (aV _ _)⟩
def Adt(x y z:Int):Int:=if z<(if y<x then y else x) then z else if y<x then y else x
def yq(m:Int):Int:=if 0<m then 1 else if m=0 then 0 else -1
def Hz(a b c q:Int×Int):Int :=
 if Cc 1048576 q || Cc 1048576 a || Cc 1048576 b || Cc 1048576 c then -1
 else if Bs a b c=0 then -1
 else if Bs a b c<0 then yq (Adt (Bs a c q) (Bs c b q) (Bs b a q))
 else yq (Adt (Bs a b q) (Bs b c q) (Bs c a q))
theorem Wq{q:Int×Int}(h:(Cc 1048576 q || Cc 1048576 l || Cc 1048576 D || Cc 1048576 F)=false)(a:Bs l D F=0):Hz l D F q = -1:=by
 unfold Hz;rw[if_neg (by rw[h];simp),if_pos a]
theorem fm{q:Int×Int}(h:(Cc 1048576 q || Cc 1048576 l || Cc 1048576 D || Cc 1048576 F)=false)(a:¬Bs l D F=0)(b:Bs l D F<0):Hz l D F q=yq (Adt (Bs l F q) (Bs F D q) (Bs D l q)):=by
 unfold Hz;rw[if_neg (by rw[h];simp),if_neg a,if_pos b]
theorem fk{q:Int×Int}(h:(Cc 1048576 q || Cc 1048576 l || Cc 1048576 D || Cc 1048576 F)=false)(a:¬Bs l D F=0)(b:¬Bs l D F<0):Hz l D F q=yq (Adt (Bs l D q) (Bs D F q) (Bs F l q)):=by
 unfold Hz;rw[if_neg (by rw[h];simp),if_neg a,if_neg b]
theorem Aiw(h:g=yq q)(b:v=q)(a:0<v):1=g:=by
 subst b;rw[h];unfold yq;rw[if_pos a]
theorem Aix(h:g=yq q)(c:v=q)(a:(v == 0)=true):0=g:=by
 subst c;have b:v=0:=by simpa using a
 rw[h,b];rfl
theorem Aiv(h:g=yq q)(c:v=q)(d:v<=0)(a:(v == 0)=false): -1=g:=by
 subst c;have b:¬v=0:=by simpa using a
 rw[h];unfold yq;rw[if_neg aK,if_neg b]
theorem fj{q:Int×Int}(a:Cc 1048576 q=false)(b:Cc 1048576 l=false)(c:Cc 1048576 D=false)(d:Cc 1048576 F=false):(Cc 1048576 q || Cc 1048576 l || Cc 1048576 D || Cc 1048576 F)=false:=by
 rw[a,b,c,d];rfl
theorem Jr{q:Int×Int}(h:(Cc 1048576 q || Cc 1048576 l || Cc 1048576 D || Cc 1048576 F)=true):Hz l D F q = -1:=by
 unfold Hz;rw[if_pos h]
theorem ri(b f P:Nat)(l:LP)(x y:Int)(w:World)(b2:3<=P)(X:SpS w (some ⟨b,f,none⟩) 3 l):Calls prog 284 #[.slice (some ⟨b,f,none⟩) 3 P,.agg #[x,y]] w (Bz w (Hz (gt l 0) (gt l 1) (gt l 2) (x,y))):=by
 let⟨p0,p1⟩:=X.cells (k:=0) aK;let⟨p2,p3⟩:=X.cells (k:=1) aK;let⟨p4,p5⟩:=X.cells (k:=2) aK;simp only[eC,bU,eF,Nat.reduceMul]at p0 p1 p2 p3 p4 p5;generalize gt l 0=P0 at *
 generalize gt l 1=P1 at *
 generalize gt l 2=P2 at *
 obtain⟨j,m⟩:=P0;obtain⟨n,o⟩:=P1;obtain⟨r,s⟩:=P2;have a8:b<w.heap.size:=Bi p0;clear X;go_enter func284,ntmps284
 go_upto_region 3 with (go_at_call 346;refine rR (xv) λD hb=>?_;(first|(have i:=Cls.call i hb)|(have i:Cls w [(⟨w,0,none⟩,x),(⟨w,1,none⟩,y),(⟨b,f,none⟩,j),(⟨b,f+1,none⟩,m),(⟨b,f+2,none⟩,n),(⟨b,f+2+1,none⟩,o),(⟨b,f+4,none⟩,r),(⟨b,f+4+1,none⟩,s)] D:=Cls.call ⟨(Ao (aV _ _)),aR⟩ hb));clear hb;have H:=i.2;simp only[AC]at H)
 .go_ret;exact⟨Bm (Jr (by simp[*])).symm,i.1⟩
 .go_ret;exact⟨Bm (Jr (by simp[*])).symm,i.1⟩
 .go_ret;exact⟨Bm (Jr (by simp[*])).symm,i.1⟩
 .go_ret;exact⟨Bm (Jr (by simp[*])).symm,i.1⟩
 have Z:=Ar (fj (by simpa using ‹¬Cc 1048576 (x,y)=true›) (by simpa using ‹¬Cc 1048576 (j,m)=true›) (by simpa using ‹¬Cc 1048576 (n,o)=true›) ‹Cc 1048576 (r,s)=false›);clear p0 p1 p2 p3 p4 p5;have l0:w.heap.size<D.heap.size:=Bi H.1;have l1:b<D.heap.size:=aZ a8 i.1.size;have l2:b<D.heap.size+1:=aK
 have l3:b<D.heap.size+1+1:=aK
 obtain⟨x0,x1,y0,y1,y2,y3,y4,y5⟩:=H;go_cut [5,6,7] (λs5 s6 s7 Y=>∃A t u:Nat,s5=.pointer (some ⟨A,0,none⟩)/\s6=.pointer (some ⟨t,0,none⟩)/\s7=.pointer (some ⟨u,0,none⟩)/\A≠t/\A≠u/\t≠u/\w.heap.size<A/\w.heap.size<t/\w.heap.size<u/\Bf Y A 65 #[j,m]/\Bf Y t 65 #[n,o]/\Bf Y u 65 #[r,s]/\Cls w [(⟨w,0,none⟩,x),(⟨w,1,none⟩,y)] Y)
 case first =>
  go_region;all_goals go_wp2
  all_goals go_meet
  all_goals exact⟨_,_,_,rfl,rfl,rfl,aK,aK,aK,aK,aK,aK,by first|exact(((Bf.new _ _ _).alloc _).alloc _).drew|exact((Bf.new2 _ _ _ _).alloc _).drew|exact(Bf.new3 _ _ _ _ _).drew,by first|exact(((Bf.new _ _ _).alloc _).alloc _).drew|exact((Bf.new2 _ _ _ _).alloc _).drew|exact(Bf.new3 _ _ _ _ _).drew,by first|exact(((Bf.new _ _ _).alloc _).alloc _).drew|exact((Bf.new2 _ _ _ _).alloc _).drew|exact(Bf.new3 _ _ _ _ _).drew,Cls.call ⟨i.1,⟨x0,x1,trivial⟩⟩ (Aw (Ao (Ao blA)))⟩
 clear x0 x1 y0 y1 y2 y3 y4 y5 l0 l1 l2 l3 i;obtain⟨A,t,u,rfl,rfl,rfl,c3,c4,c5,g5,g6,g7,a6,U,V,i⟩:=hcut;obtain⟨I,J,-⟩:=a6.pair;obtain⟨K,L,-⟩:=U.pair;obtain⟨N,O,-⟩:=V.pair;by_cases d:Bs (j,m) (n,o) (r,s)=0
 .have C:=Ar (Wq (q:=(x,y)) Z.out d);have q1:(Bs (j,m) (n,o) (r,s) == 0)=true:=by rw[d];rfl
  clear d
  go_wp2_with (go_at_call 282;refine rR (Ev) λw2 a=>?_)
  go_ret;exact⟨Bm C.out.symm,An i.1 a⟩
 have q1:(Bs (j,m) (n,o) (r,s) == 0)=false:=by rw[eP];exact d
 by_cases W:Bs (j,m) (n,o) (r,s)<0
 .have C:=Ar (fm (q:=(x,y)) Z.out d W);clear d
  go_upto_region 9 with (go_at_call 282;refine rR (Ev) λw2 a=>?_;have d6:=U.keep a;have d7:=V.keep a;have Q:=Aq a K;have R:=Aq a L;have S:=Aq a N;have T:=Aq a O;have bl:=d6.frozen 0;have bm:=d6.frozen 1;have bp:=d7.frozen 0;have bq:=d7.frozen 1)
  have g:=(i.call a);have z:=g.2;simp only[AC]at z;have F:=Aq a I;have G:=Aq a J;refine Bh w [(⟨w,0,none⟩,x),(⟨w,1,none⟩,y),(⟨A,0,none⟩,j),(⟨A,1,none⟩,m),(⟨t,0,none⟩,r),(⟨t,1,none⟩,s),(⟨u,0,none⟩,n),(⟨u,1,none⟩,o)] ⟨Ba (Ba (Ba (Ba g.1 (p:=⟨t,0,none⟩) (cX g6)) (p:=⟨t,1,none⟩) (cX g6)) (p:=⟨u,0,none⟩) (cX g7)) (p:=⟨u,1,none⟩) (cX g7),aR⟩ ?_
  repeat
   apply Cx
   .rfl
   .intro D v;have H:=v.2;simp only[AC]at H
    go_simp
    first|rfl|exact Bw v (Ev)
   go_simp
  refine cH ?_;intro D c;have h:=c.1;clear c z F G g;let⟨M,B⟩:∃M,M=Adt (Bs (j,m) (r,s) (x,y)) (Bs (r,s) (n,o) (x,y)) (Bs (n,o) (j,m) (x,y)):=⟨_,rfl⟩
  have E:=Ar B;unfold Adt at B;rw[<-B];clear B;go_wp2
  .go_ret;exact⟨Bm (Aiw C.out E.out aQ),h⟩
  .go_ret;exact⟨Bm (Aix C.out E.out aQ),h⟩
  go_ret;exact⟨Bm (Aiv C.out E.out aQ aQ),h⟩
 have C:=Ar (fk (q:=(x,y)) Z.out d W);clear d
 go_upto_region 9 with (go_at_call 282;refine rR (Ev) λw2 a=>?_)
 have g:=i.call a;have z:=g.2;simp only[AC]at z;have F:=Aq a I;have G:=Aq a J;have Q:=Aq a K;have R:=Aq a L;have S:=Aq a N;have T:=Aq a O;refine Bh w [(⟨w,0,none⟩,x),(⟨w,1,none⟩,y),(⟨A,0,none⟩,j),(⟨A,1,none⟩,m),(⟨t,0,none⟩,n),(⟨t,1,none⟩,o),(⟨u,0,none⟩,r),(⟨u,1,none⟩,s)] ⟨g.1,aR⟩ ?_
 repeat
  apply Cx
  .rfl
  .intro D v;have H:=v.2;simp only[AC]at H
   go_simp
   first|rfl|exact Bw v (Ev)
  go_simp
 refine cH ?_;intro D c;have h:=c.1;clear c z F G Q R S T g;let⟨M,B⟩:∃M,M=Adt (Bs (j,m) (n,o) (x,y)) (Bs (n,o) (r,s) (x,y)) (Bs (r,s) (j,m) (x,y)):=⟨_,rfl⟩
 have E:=Ar B;unfold Adt at B;rw[<-B];clear B;go_wp2
 .go_ret;exact⟨Bm (Aiw C.out E.out aQ),h⟩
 .go_ret;exact⟨Bm (Aix C.out E.out aQ),h⟩
 go_ret;exact⟨Bm (Aiv C.out E.out aQ aQ),h⟩
end Go.Proofs.YtboghahlhmnblaaGreat
