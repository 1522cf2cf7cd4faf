/- Lean texts of the claim. -/
import Derived.Test.YtpbchbcdgikonaaGreatQ00
import Derived.Deep.DeepCutAuto
import Derived.Maps.AppendAt
import Derived.Deep.AppendLies
import Derived.OwnWalk
import Derived.Laws.AppendOwnNone
import Derived.Lib.AppendZerosOnto
namespace Go.Proofs.YtpbchbcdgikonaaGreat
set_option linter.unusedVariables false
set_option linter.unusedSimpArgs false
set_option maxRecDepth 100000
set_option maxHeartbeats 4000000
open Go.RowKit
def loX (l:List (Int×Int)):Nat->Int|0=>(gt l 0).1|k+1=>if (gt l k).1<loX l k then (gt l k).1 else loX l k
def loY (l:List (Int×Int)):Nat->Int|0=>(gt l 0).2|k+1=>if (gt l k).2<loY l k then (gt l k).2 else loY l k
def hiX (l:List (Int×Int)):Nat->Int|0=>(gt l 0).1|k+1=>if hiX l k<(gt l k).1 then (gt l k).1 else hiX l k
def hiY (l:List (Int×Int)):Nat->Int|0=>(gt l 0).2|k+1=>if hiY l k<(gt l k).2 then (gt l k).2 else hiY l k
def Bb (w:World) (g:Nat) (t:TypeId) (cs:Array Value):Prop:=w.heap[g]? = some (.cells cs t (0,0))
theorem Bb.cell {w:World} {g:Nat} {t:TypeId} {cs:Array Value} (h:Bb w g t cs) (i:Nat):w.cell? ⟨g,i,none⟩=cs[i]? := cell_of_row w g i cs t (0,0) h
theorem Bb.frozen {w:World} {g:Nat} {t:TypeId} {cs:Array Value} (h:Bb w g t cs) (i:Nat):w.frozen? ⟨g,i,none⟩=false:=by
 unfold Bb at h;simp[World.frozen?,h]
theorem Bb.lt {w:World} {g:Nat} {t:TypeId} {cs:Array Value} (h:Bb w g t cs):g<w.heap.size:=by
 rcases Nat.lt_or_ge g w.heap.size with hlt|hge
 ·exact hlt
 ·unfold Bb at h;rw[Array.getElem?_eq_none hge] at h;cases h
theorem Bb.alloc {w:World} {g:Nat} {t:TypeId} {cs:Array Value} (h:Bb w g t cs) (o:Obj):Bb (w.alloc o) g t cs:=(Below.heap_alloc w o g h.lt).trans h
theorem Bb.new (w:World) (t:TypeId) (cs:Array Value):Bb (w.alloc (.cells cs t)) w.heap.size t cs:=heap_alloc_new w _
theorem Bb.new2 (w:World) (o:Obj) (t:TypeId) (cs:Array Value):Bb ((w.alloc o).alloc (.cells cs t)) (w.heap.size+1) t cs:=by
 have h:=Bb.new (w.alloc o) t cs;simpa using h
theorem Bb.drew {w:World} {g:Nat} {t:TypeId} {cs:Array Value} (h:Bb w g t cs):Bb w.drew g t cs:=h
theorem Bb.drewN {w:World} {g:Nat} {t:TypeId} {cs:Array Value} (h:Bb w g t cs) (n:Nat):Bb (w.drewN n) g t cs:=h
theorem Bb.set_ {w:World} {g:Nat} {t:TypeId} {cs:Array Value} (h:Bb w g t cs) (i:Nat) (u:Value):Bb (w.setCell ⟨g,i,none⟩ u) g t (cs.setIfInBounds i u):=by
 unfold Bb at h ⊢;simp[World.setCell,Array.getElem?_modify,h]
theorem Bb.far {w:World} {g:Nat} {t:TypeId} {cs:Array Value} (h:Bb w g t cs) {p:Addr} (hp:g≠p.block) (u:Value):Bb (w.setCell p u) g t cs:=(Below.heap_setCell w p u g hp).trans h
theorem Bb.keep {w w':World} {g:Nat} {t:TypeId} {cs:Array Value} (h:Bb w g t cs) (hb:Below w.heap.size w w'):Bb w' g t cs:=(hb.block g h.lt).trans h
theorem Ab0 (b off cap n:Nat) (l:List (Int×Int)) (w:World) (hl:n<=1000000) (hcap:n<=cap) (hs:SpS w (some ⟨b,off,none⟩) n l) (hc:Bf l n=0) (h0:0<n) :
 Calls Tryz.prog 17 #[.slice (some ⟨b,off,none⟩) n cap] w fun e w'=>e=.returned (.tuple #[.agg #[.int .i64 (loX l n),.int .i64 (loY l n),.int .i64 (wrap64 (hiX l n-loX l n)),.int .i64 (wrap64 (hiY l n-loY l n))],.int .i64 0])/\Below w.heap.size w w':=by
 have HC:=Lib.hid hc;have q:(Bf l n != 0)=false:=by rw[hc];rfl
 clear hc;obtain⟨g1,g2⟩:=hs.cells h0;simp only[Nat.zero_mul,Nat.add_zero] at g1 g2;go_enter Tryz.func17,Tryz.ntmps17
 go_upto_region 4 with (go_at_call 33;refine(Cz _ _ _ l _ (by omega) hcap (hs.keep (An (Below.refl _ _) _))).mono ?_;rintro e w1 ⟨rfl,hb1⟩)
 have hb2:=Ao (An (Below.refl _ _) _) hb1;have hc1:=Aq hb2 g1;have hc2:=Aq hb2 g2;have hbl:b<w1.heap.size:=Bj hc1;have hr:Bb w1 w.heap.size 66 #[.int .i64 0,.int .i64 0,.int .i64 0,.int .i64 0]:=(Bb.new w _ _).keep hb1;have hw1:w.heap.size<w1.heap.size:=hr.lt;clear g1 g2 hb1;go_cut [5,6] (fun s5 s6 wx=>∃b5 b6:Nat,s5=.pointer (some ⟨b5,0,none⟩)/\s6=.pointer (some ⟨b6,0,none⟩)/\b5≠b6/\w.heap.size<b5/\w.heap.size<b6/\Bb wx b5 49 #[.int .i64 (gt l 0).1,.int .i64 (gt l 0).2]/\Bb wx b6 49 #[.int .i64 (gt l 0).1,.int .i64 (gt l 0).2]/\Bb wx w.heap.size 66 #[.int .i64 0,.int .i64 0,.int .i64 0,.int .i64 0]/\Below w.heap.size w wx)
 case first =>
  go_region
  all_goals go_wp2_with fail
  all_goals go_meet
  ·exact⟨w1.heap.size,w1.heap.size+1,rfl,rfl,by omega,hw1,by omega,((Bb.new _ _ _).alloc _).drew,(Bb.new2 _ _ _ _).drew,((hr.alloc _).alloc _).drew,Aw (An (An hb2 _) _)⟩
  ·exact⟨w1.heap.size+1,w1.heap.size,rfl,rfl,by omega,by omega,hw1,(Bb.new2 _ _ _ _).drew,((Bb.new _ _ _).alloc _).drew,((hr.alloc _).alloc _).drew,Aw (An (An hb2 _) _)⟩
 case rest =>
  clear hc1 hc2 hbl hr hw1 hb2;obtain⟨b5,b6,rfl,rfl,hne,hg5,hg6,hB5,hB6,hR,hb⟩:=hcut;go_wp2_with fail;go_loopw [23] (fun i wr=>∃k:Nat,k<=n/\i=.int .i64 k/\Bb wr b5 49 #[.int .i64 (loX l k),.int .i64 (loY l k)]/\Bb wr b6 49 #[.int .i64 (hiX l k),.int .i64 (hiY l k)]/\Bb wr w.heap.size 66 #[.int .i64 0,.int .i64 0,.int .i64 0,.int .i64 0]/\Below w.heap.size w wr) (fun i _=>n-(intOf i).toNat)
  case atStart=>exact⟨0,Nat.zero_le _,rfl,hB5,hB6,hR,hb⟩
  case round =>
   clear hB5 hB6 hR hb;obtain⟨k,hk,rfl,hB5,hB6,hR,hb⟩:=hrel;have c50:=hB5.cell 0;have c51:=hB5.cell 1;have c60:=hB6.cell 0;have c61:=hB6.cell 1;have f50:=hB5.frozen 0;have f51:=hB5.frozen 1;have f60:=hB6.frozen 0;have f61:=hB6.frozen 1;have l5:=hB5.lt;have l6:=hB6.lt;simp only[List.getElem?_toArray,List.getElem?_cons_zero,List.getElem?_cons_succ] at c50 c51 c60 c61;by_cases hlt:k<n
   ·obtain⟨h1,h2⟩:=(hs.keep hb).cells hlt
    have hbl:b<wr.heap.size:=Bj h1;go_wp2_with fail;exact⟨⟨k+1,by omega,by go_num,((((hB5.set_ 0 _).set_ 1 _).far (p:=⟨b6,0,none⟩) hne _).far (p:=⟨b6,1,none⟩) hne _).alloc _,((((hB6.far (p:=⟨b5,0,none⟩) hne.symm _).far (p:=⟨b5,1,none⟩) hne.symm _).set_ 0 _).set_ 1 _).alloc _,((((hR.far (p:=⟨b5,0,none⟩) (Nat.ne_of_lt hg5) _).far (p:=⟨b5,1,none⟩) (Nat.ne_of_lt hg5) _).far (p:=⟨b6,0,none⟩) (Nat.ne_of_lt hg6) _).far (p:=⟨b6,1,none⟩) (Nat.ne_of_lt hg6) _).alloc _,An (Bc (Bc (Bc (Bc hb (p:=⟨b5,0,none⟩) (Nat.le_of_lt hg5) _) (p:=⟨b5,1,none⟩) (Nat.le_of_lt hg5) _) (p:=⟨b6,0,none⟩) (Nat.le_of_lt hg6) _) (p:=⟨b6,1,none⟩) (Nat.le_of_lt hg6) _) _⟩,by simp[intOf];omega⟩
   ·obtain rfl:n=k:=by omega
    have cR0:=hR.cell 0;have cR1:=hR.cell 1;have cR2:=hR.cell 2;have cR3:=hR.cell 3;have fR0:=hR.frozen 0;have fR1:=hR.frozen 1;have fR2:=hR.frozen 2;have fR3:=hR.frozen 3;simp only[List.getElem?_toArray,List.getElem?_cons_zero,List.getElem?_cons_succ] at cR0 cR1 cR2 cR3;go_wp2_with fail;exact bodyPost_ret (v:=.tuple #[.agg #[.int .i64 (loX l n),.int .i64 (loY l n),.int .i64 (wrap64 (hiX l n-loX l n)),.int .i64 (wrap64 (hiY l n-loY l n))],.int .i64 0]) (by simp[results,Tryz.results17,go_sem,cR0,cR1,cR2,cR3]) rfl ⟨rfl,Bc (Bc (Bc (Bc hb (p:=⟨w.heap.size,0,none⟩) (Nat.le_refl _) _) (p:=⟨w.heap.size,1,none⟩) (Nat.le_refl _) _) (p:=⟨w.heap.size,2,none⟩) (Nat.le_refl _) _) (p:=⟨w.heap.size,3,none⟩) (Nat.le_refl _) _⟩
theorem Aev (A:Option Addr) (cap n:Nat) (l:List (Int×Int)) (w:World) (hl:n<=9223372036854775807) (hcap:n<=cap) (hs:SpS w A n l) (hc:¬Bf l n=0) :
 Calls Tryz.prog 17 #[.slice A n cap] w fun e w'=>e=.returned (.tuple #[.agg #[.int .i64 0,.int .i64 0,.int .i64 0,.int .i64 0],.int .i64 (Bf l n)])/\Below w.heap.size w w':=by
 have q:(Bf l n != 0)=true:=by rw[bne_iff_ne];exact hc
 clear hc;go_enter Tryz.func17,Tryz.ntmps17
 go_wp2_with (go_at_call 33;refine(Cz _ _ _ l _ hl hcap (hs.keep (An (Below.refl _ _) _))).mono ?_;rintro e w1 ⟨rfl,hb1⟩;have hr:Bb w1 w.heap.size 66 #[.int .i64 0,.int .i64 0,.int .i64 0,.int .i64 0]:=(Bb.new w _ _).keep hb1;have cR0:=hr.cell 0;have cR1:=hr.cell 1;have cR2:=hr.cell 2;have cR3:=hr.cell 3;have fR0:=hr.frozen 0;have fR1:=hr.frozen 1;have fR2:=hr.frozen 2;have fR3:=hr.frozen 3;simp only[List.getElem?_toArray,List.getElem?_cons_zero,List.getElem?_cons_succ] at cR0 cR1 cR2 cR3)
 exact bodyPost_ret (v:=.tuple #[.agg #[.int .i64 0,.int .i64 0,.int .i64 0,.int .i64 0],.int .i64 (Bf l n)]) (by simp[results,Tryz.results17,go_sem,cR0,cR1,cR2,cR3]) rfl ⟨rfl,Bc (Bc (Bc (Bc (Ao (An (Below.refl _ _) _) hb1) (p:=⟨w.heap.size,0,none⟩) (Nat.le_refl _) _) (p:=⟨w.heap.size,1,none⟩) (Nat.le_refl _) _) (p:=⟨w.heap.size,2,none⟩) (Nat.le_refl _) _) (p:=⟨w.heap.size,3,none⟩) (Nat.le_refl _) _⟩
section
def OwG {α:Type} (e:TypeId) (size:Nat) (enc:α->List Value) (w:World) (base:Nat) (v:Value) (l:List α):Prop:=w.ownsRow base e size v l.length (l.flatMap enc)
section
variable {α : Type} {e : TypeId} {size : Nat} {enc : α -> List Value} {w w' : World} {base : Nat} {v : Value} {l : List α}
theorem Cy (henc:∀x,(enc x).length=size) (l:List α):(l.flatMap enc).length=l.length*size:=by
 induction l with
 | nil=>simp
 | cons a l ih=>rw[List.flatMap_cons,List.length_append,ih,henc,List.length_cons,Nat.add_mul];omega
theorem OwG.nil:OwG e size enc w base (.slice none 0 0) ([]:List α):=World.ownsRow_nil w base e size
theorem OwG.alloc (h:OwG e size enc w base v l) (o:Obj):OwG e size enc (w.alloc o) base v l:=World.ownsRow.alloc h o
theorem OwG.keep (h:OwG e size enc w base v l) (hb:Below w.heap.size w w'):OwG e size enc w' base v l :=
 World.ownsRow.kept (row:=none) h ⟨hb.os,hb.tape,hb.output,hb.size,fun k hk _=>hb.block k hk⟩ (by cases h':v.ownBlock<;>simp)
theorem OwG.far (h:OwG e size enc w base v l) {p:Addr} (hp:v.ownBlock≠some p.block) (u:Value):OwG e size enc (w.setCell p u) base v l:=by
 obtain⟨h1,h2⟩:=h;refine⟨h1,?_⟩;rcases h2 with h2|⟨g,cap,cur,hv,hg,hh,r⟩
 ·exact Or.inl h2
 ·refine Or.inr ⟨g,cap,cur,hv,hg,?_,r⟩
  rw[Below.heap_setCell _ _ _ _ (by rintro rfl;exact hp (by rw[hv];rfl))];exact hh
theorem OwG.lt (h:OwG e size enc w base v l):∀k,v.ownBlock=some k->base<=k/\k<w.heap.size:=World.ownsRow.lt h
theorem OwG.lower {base':Nat} (h:OwG e size enc w base v l) (hb:base'<=base):OwG e size enc w base' v l:=by
 obtain⟨h1,h2⟩:=h;refine⟨h1,?_⟩;rcases h2 with h2|⟨g,cap,cur,hv,hg,r⟩
 ·exact Or.inl h2
 ·exact Or.inr ⟨g,cap,cur,hv,Nat.le_trans hb hg,r⟩
theorem OwG.form (h:OwG e size enc w base v l):(v=.slice none 0 0/\l=[])\/∃g cap,v=.slice (some ⟨g,0,none⟩) l.length cap/\base<=g/\g<w.heap.size/\l.length<=cap/\cap<=maxLen:=by
 rcases h.2 with ⟨h1,h2⟩|⟨g,cap,cur,hv,hg,hh,h1,h2,_⟩
 ·exact Or.inl ⟨h1,List.eq_nil_of_length_eq_zero h2⟩
 ·refine Or.inr ⟨g,cap,hv,hg,?_,h1,h2⟩
  rcases Nat.lt_or_ge g w.heap.size with hlt|hge
  ·exact hlt
  ·rw[Array.getElem?_eq_none hge] at hh;cases hh
theorem OwG.form2 (h:OwG e size enc w base v l):∃A cap,v=.slice A l.length cap/\l.length<=cap/\cap<=maxLen/\(0<l.length->∃g,A=some ⟨g,0,none⟩/\base<=g/\g<w.heap.size):=by
 rcases h.form with ⟨rfl,rfl⟩|⟨g,cap,rfl,h1,h2,h3,h4⟩
 ·exact⟨none,0,rfl,Nat.le_refl _,Nat.zero_le _,fun h=>absurd h (by simp)⟩
 ·exact⟨_,cap,rfl,h3,h4,fun _=>⟨g,rfl,h1,h2⟩⟩
theorem OwG.cells {g cap:Nat} (h:OwG e size enc w base (.slice (some ⟨g,0,none⟩) l.length cap) l) (j:Nat) (hj:j<l.length*size):w.cell? ⟨g,j,none⟩=(l.flatMap enc)[j]? := World.ownsRow.cellAt h j hj
end
theorem Bp {α:Type} {enc:α->List Value} {size:Nat} (henc:∀x,(enc x).length=size):∀(l:List α) (k i:Nat) (x:α),l[k]? = some x->i<size->(l.flatMap enc)[k*size+i]? = (enc x)[i]? := by
 intro l;induction l with
 | nil=>intro k i x h;simp at h
 | cons a l ih =>
   intro k i x h hi;rw[List.flatMap_cons];cases k with
   | zero =>
     simp at h;subst h;rw[Nat.zero_mul,Nat.zero_add,List.getElem?_append_left (by rw[henc];exact hi)]
   | succ k =>
     rw[List.getElem?_append_right (by rw[henc,Nat.add_mul];omega),henc,show (k+1)*size+i-size=k*size+i by rw[Nat.add_mul];omega]
     exact ih k i x (by simpa using h) hi
theorem Cr {P:Program} {w:World} {ops:Array Oper} {rest:List Oper} {o:Oper} {a:Act} {Q:Exit->Act->World->Prop} (hgd:o.guard=none) (s x:Operand) (t:TypeId)
 (ho:o.op=.call { callee:=.builtin .append,args:=#[s,x],argTypes:=#[t,t] })
 {α:Type} (enc:α->List Value) (base:Nat) (e:TypeId) (z:Value) (size bytes:Nat) (ht:P.underlying t=some (.slice e)) (hinf:(P.info? e).map (fun i=>(i.zero,i.size,i.bytes))=some (some z,size,bytes))
 (hzs:z.cells.size=size) (hsz:0<size) (henc:∀x,(enc x).length=size) (h1c:∀x,∀u∈enc x,u.oneCell'=true)
 (v:Value) (l:List α) (hs:a.eval s=v) (hown:OwG e size enc w base v l)
 (bx c:Nat) (p:α) (tb:TypeId) (hx:a.eval x=.slice (some ⟨bx,0,none⟩) 1 c) (hnew:Bb w bx tb (enc p).toArray)
 (hlen:l.length+1<=maxLen) (hbytes:(l.length+1)*bytes<=140737488355328) (hbase:base<=w.heap.size)
 (h:∀v' w',OwG e size enc w' base v' (l++[p])->w.grownBy w' v.ownBlock->(v'.ownBlock=v.ownBlock\/v'.ownBlock=some w.heap.size)->wpList P ops Q rest (a.put o.dst v') w') :
 wpList P ops Q (o::rest) a w:=by
 obtain⟨i,hi,hz0,hz1,hz2⟩:=info_parts hinf;refine wpList_append_own_at (P:=P) w hgd s x t ho base e i z size bytes ht hi hz0 hz1 hz2 hzs hsz v l.length (l.flatMap enc) hs hown ⟨bx,0,none⟩ 1 c (enc p) hx (by rw[henc];omega) ?_ (h1c p) hlen hbytes hbase ?_
 ·intro j u hj
  have:=World.news_of_block (w:=w) (B:=bx) (cs:=(enc p).toArray) (t:=tb) (fr:=(0,0)) hnew j u (by simpa using hj)
  exact this
 ·intro v' w' ho' hg _ hat
  refine h v' w' ?_ hg hat;unfold OwG;rw[List.length_append,List.flatMap_append];simpa using ho'
theorem Bm {w0 w w':World} {v:Value} {α:Type} {e:TypeId} {size:Nat} {enc:α->List Value} {l:List α} (hb:Below w0.heap.size w0 w) (h:OwG e size enc w w0.heap.size v l) (hg:w.grownBy w' v.ownBlock):Below w0.heap.size w0 w' :=
 Below.grown hb hg hb.size (fun k hk=>(h.lt k hk).1)
def enS (p:Int×Int):List Value:=[.int .i64 p.1,.int .i64 p.2]
theorem Ci (p:Int×Int):(enS p).length=2:=rfl
theorem J5 (p:Int×Int):∀u∈enS p,u.oneCell'=true:=by
 intro u hu;simp[enS] at hu;rcases hu with rfl|rfl<;>rfl
def OwS (w:World) (base:Nat) (v:Value) (l:List (Int×Int)):Prop:=OwG 49 2 enS w base v l
theorem Vq:(Tryz.prog.info? 49).map (fun i=>(i.zero,i.size,i.bytes))=some (some (.agg #[.int .i64 0,.int .i64 0]),2,16):=by kernel_rfl
theorem Gh {l:List (Int×Int)} {k:Nat} (h:k<l.length):l[k]? = some (gt l k):=by
 unfold gt;rw[List.getD,List.getElem?_eq_getElem h];rfl
theorem OwS.sps {w:World} {base:Nat} {v:Value} {l:List (Int×Int)} (h:OwS w base v l):∃A cap,v=.slice A l.length cap/\l.length<=cap/\SpS w A l.length l/\(0<l.length->∃g,A=some ⟨g,0,none⟩/\base<=g/\g<w.heap.size):=by
 rcases OwG.form h with ⟨rfl,rfl⟩|⟨g,cap,rfl,h1,h2,h3,h4⟩
 ·exact⟨none,0,rfl,Nat.le_refl _,⟨rfl,.inl rfl⟩,fun h=>absurd h (by simp)⟩
 ·refine⟨_,cap,rfl,h3,⟨rfl,.inr ⟨g,0,rfl,fun k hk=>?_⟩⟩,fun _=>⟨g,rfl,h1,h2⟩⟩
  have c0:=OwG.cells h (k*2) (by omega)
  have c1:=OwG.cells h (k*2+1) (by omega)
  have f0:=Bp Ci l k 0 _ (Gh hk) (by omega)
  have f1:=Bp Ci l k 1 _ (Gh hk) (by omega)
  rw[Nat.add_zero] at f0;rw[f0] at c0;rw[f1] at c1;rw[Nat.zero_add];exact⟨c0,c1⟩
theorem Ec {w:World} {ops:Array Oper} {rest:List Oper} {o:Oper} {a:Act} {Q:Exit->Act->World->Prop} (hgd:o.guard=none) (s x:Operand)
 (ho:o.op=.call { callee:=.builtin .append,args:=#[s,x],argTypes:=#[54,54] })
 (base:Nat) (v:Value) (l:List (Int×Int)) (hs:a.eval s=v) (hown:OwS w base v l)
 (bx c:Nat) (p:Int×Int) (tb:TypeId) (hx:a.eval x=.slice (some ⟨bx,0,none⟩) 1 c) (hnew:Bb w bx tb #[.int .i64 p.1,.int .i64 p.2])
 (hlen:l.length<=1000000) (hbase:base<=w.heap.size)
 (h:∀v' w',OwS w' base v' (l++[p])->w.grownBy w' v.ownBlock->(v'.ownBlock=v.ownBlock\/v'.ownBlock=some w.heap.size)->wpList Tryz.prog ops Q rest (a.put o.dst v') w') :
 wpList Tryz.prog ops Q (o::rest) a w :=
 Cr hgd s x 54 ho enS base 49 (.agg #[.int .i64 0,.int .i64 0]) 2 16 Tryz.underlying54 Vq rfl (by omega) Ci J5 v l hs hown bx c p tb hx hnew (by unfold maxLen;omega) (by omega) hbase h
end
theorem OwG.frozen {α:Type} {e:TypeId} {size:Nat} {enc:α->List Value} {w:World} {base g cap:Nat} {l:List α} (h:OwG e size enc w base (.slice (some ⟨g,0,none⟩) l.length cap) l) (j:Nat):w.frozen? ⟨g,j,none⟩=false:=World.ownsRow.frozenAt h j
theorem OwS.cells {w:World} {base g cap n:Nat} {l:List (Int×Int)} (h:OwS w base (.slice (some ⟨g,0,none⟩) n cap) l) (hn:l.length=n) {k:Nat} (hk:k<n):w.cell? ⟨g,k*2,none⟩=some (.int .i64 (gt l k).1)/\w.cell? ⟨g,k*2+1,none⟩=some (.int .i64 (gt l k).2)/\w.frozen? ⟨g,k*2,none⟩=false/\w.frozen? ⟨g,k*2+1,none⟩=false:=by
 subst hn;obtain⟨A,cap',e,_,hs,_⟩:=h.sps;injection e with e1 e2 e3
 subst e1;have:=hs.cells hk;rw[Nat.zero_add] at this;exact⟨this.1,this.2,OwG.frozen h _,OwG.frozen h _⟩
theorem yt {l:List (Int×Int)} {k:Nat} (x y:Int):((l.flatMap enS).set (k*2) (.int .i64 x)).set (k*2+1) (.int .i64 y)=(l.set k (x,y)).flatMap enS:=by
 induction l generalizing k with
 | nil=>simp
 | cons a l ih =>
   cases k with
   | zero=>simp[enS,List.flatMap_cons]
   | succ k =>
     rw[List.set_cons_succ,List.flatMap_cons,List.flatMap_cons,<-ih];simp only[enS,List.cons_append,List.nil_append];rw[show (k+1)*2=k*2+1+1 by omega]
     simp
theorem OwS.store {w:World} {base g cap n:Nat} {l:List (Int×Int)} (h:OwS w base (.slice (some ⟨g,0,none⟩) n cap) l) (hn:l.length=n) {k:Nat} (hk:k<n) (x y:Int):OwS ((w.setCell ⟨g,k*2,none⟩ (.int .i64 x)).setCell ⟨g,k*2+1,none⟩ (.int .i64 y)) base (.slice (some ⟨g,0,none⟩) n cap) (l.set k (x,y)):=by
 subst hn;have h1:=(World.ownsRow.stored h (k*2) (.int .i64 x)).1;have h2:=(World.ownsRow.stored h1 (k*2+1) (.int .i64 y)).1;rw[yt] at h2;unfold OwS OwG;rw[List.length_set];exact h2
theorem Gb.set {a w:World} {g:Nat} (h:a.grownBy w (some g)) (i:Nat) (u:Value):a.grownBy (w.setCell ⟨g,i,none⟩ u) (some g) :=
 ⟨h.os,h.tape,h.output,by simpa[World.setCell] using h.size,fun j hj hne=>(Below.heap_setCell w ⟨g,i,none⟩ u j (fun e=>hne (by rw[e]))).trans (h.block j hj hne)⟩
theorem Gb.drew {a w:World} {row:Option Nat} (h:a.grownBy w row):a.grownBy w.drew row:=⟨h.os,h.tape,h.output,h.size,h.block⟩
theorem Gb.drewN {a w:World} {row:Option Nat} (h:a.grownBy w row) (n:Nat):a.grownBy (w.drewN n) row:=⟨h.os,h.tape,h.output,h.size,h.block⟩
theorem OwS.drew {w:World} {base:Nat} {v:Value} {l:List (Int×Int)} (h:OwS w base v l):OwS w.drew base v l:=h
theorem OwS.drewN {w:World} {base:Nat} {v:Value} {l:List (Int×Int)} (h:OwS w base v l) (n:Nat):OwS (w.drewN n) base v l:=h
def Jv (l:List (Int×Int)) (k:Nat):List (Int×Int):=(List.range l.length).map fun p=>if p<k\/l.length-k<=p then gt l (l.length-1-p) else gt l p
theorem Df (l:List (Int×Int)) (k:Nat):(Jv l k).length=l.length:=by simp[Jv]
theorem I9 {l:List (Int×Int)} {k p:Nat} (hp:p<l.length):gt (Jv l k) p=if p<k\/l.length-k<=p then gt l (l.length-1-p) else gt l p:=by
 unfold gt Jv;rw[List.getD,List.getElem?_map,List.getElem?_range hp];rfl
theorem Fz {l l':List (Int×Int)} (h:l.length=l'.length) (h2:∀k,k<l.length->gt l k=gt l' k):l=l':=by
 apply List.ext_getElem?;intro i;rcases Nat.lt_or_ge i l.length with hi|hi
 ·rw[Gh hi,Gh (by omega),h2 i hi]
 ·rw[List.getElem?_eq_none hi,List.getElem?_eq_none (by omega)]
theorem Kq {l:List (Int×Int)} {k j:Nat} {x:Int×Int} (hk:k<l.length):gt (l.set k x) j=if k=j then x else gt l j:=by
 unfold gt;rw[List.getD,List.getElem?_set];by_cases h:k=j
 ·subst h;simp[hk]
 ·simp[h,List.getD]
theorem Zv (l:List (Int×Int)):Jv l 0=l:=by
 apply Fz (Df _ _);intro k hk;rw[Df] at hk;rw[I9 hk,if_neg (by omega)]
theorem jg {l:List (Int×Int)} {k:Nat} (h:l.length<=2*k+1):Jv l k=l.reverse:=by
 apply Fz (by rw[Df,List.length_reverse])
 intro p hp;rw[Df] at hp;rw[I9 hp]
 have:gt l.reverse p=gt l (l.length-1-p):=by
  unfold gt;rw[List.getD,List.getElem?_reverse hp];rfl
 rw[this];by_cases h2:p<k\/l.length-k<=p
 ·rw[if_pos h2]
 ·rw[if_neg h2];congr 1;omega
theorem Zw {l:List (Int×Int)} {k:Nat} (h:k<l.length-1-k):((Jv l k).set k (gt (Jv l k) (l.length-1-k))).set (l.length-1-k) (gt (Jv l k) k)=Jv l (k+1):=by
 apply Fz (by simp[Df])
 intro p hp;simp[Df] at hp;rw[Kq (by rw[List.length_set,Df];omega),Kq (by rw[Df];omega),I9 (by omega),I9 (by omega),I9 hp,I9 hp]
 by_cases h1:l.length-1-k=p
 ·rw[if_pos h1,if_neg (by omega),if_pos (by omega)];congr 1;omega
 ·rw[if_neg h1]
  by_cases h2:k=p
  ·rw[if_pos h2,if_neg (by omega),if_pos (by omega)];congr 1;omega
  ·rw[if_neg h2]
   by_cases h3:p<k\/l.length-k<=p
   ·rw[if_pos h3,if_pos (by omega)]
   ·rw[if_neg h3,if_neg (by omega)]
theorem Nj (v:Value) (base:Nat) (l:List (Int×Int)) (w:World) (hl:l.length<=1000000) (hs:OwS w base v l) :
 Calls Tryz.prog 124 #[v] w fun e w'=>e=.returned (.tuple #[])/\OwS w' base v l.reverse/\w.grownBy w' v.ownBlock:=by
 obtain⟨n,hn⟩:∃n,l.length=n:=⟨_,rfl⟩
 rcases OwG.form hs with ⟨rfl,rfl⟩|⟨g,cap,rfl,h1,h2,h3,h4⟩
 ·go_enter Tryz.func124,Tryz.ntmps124
  go_wp2_with fail
  go_loop [2,3] (fun i j=>i=.int .i64 0/\j=.int .i64 (-1)) (fun _ _=>0)
  case atStart=>exact⟨rfl,rfl⟩
  case round =>
   obtain⟨rfl,rfl⟩:=hrel;go_wp2_with fail
   go_end0
   exact⟨rfl,hs,World.grownBy.refl _ _⟩
 ·rw[hn] at hs hl h3 ⊢
  have HN:=Lib.hid hn;clear hn;go_enter Tryz.func124,Tryz.ntmps124;go_wp2_with fail;go_loopw [2,3] (fun i j wr=>∃k:Nat,2*k<=n/\i=.int .i64 k/\j=.int .i64 ((n:Int)-1-k)/\OwS wr base (.slice (some ⟨g,0,none⟩) n cap) (Jv l k)/\w.grownBy wr (some g)) (fun i _ _=>n-(intOf i).toNat)
  case atStart=>exact⟨0,by omega,rfl,by simp,by rw[Zv];exact hs,World.grownBy.refl _ _⟩
  case round =>
   obtain⟨k,hk,rfl,rfl,ho,hg⟩:=hrel;by_cases hlt:k<n-1-k
   ·have hj:n-1-k<n:=by omega
    obtain⟨c1,c2,f1,f2⟩:=ho.cells ((Df _ _).trans HN.out) (k:=k) (by omega)
    obtain⟨c3,c4,f3,f4⟩:=ho.cells ((Df _ _).trans HN.out) hj;have e1:((n:Int)-1-(k:Int)).toNat=n-1-k:=by omega
    have b1:0<=(n:Int)-1-(k:Int):=by omega
    have b2:(n:Int)-1-(k:Int)<(n:Int):=by omega
    go_wp2_with fail
    go_region
    go_wp2_with fail;have hst:=((ho.store ((Df _ _).trans HN.out) (k:=k) (by omega) (gt (Jv l k) (n-1-k)).1 (gt (Jv l k) (n-1-k)).2).store (by rw[List.length_set,Df];exact HN.out) hj (gt (Jv l k) k).1 (gt (Jv l k) k).2).drew
    have hre:=Zw (l:=l) (k:=k) (by rw[HN.out];exact hlt)
    rw[HN.out] at hre;exact⟨⟨k+1,by omega,by go_num,by congr 1;omega,by rw[<-hre];exact hst,Gb.drew (Gb.set (Gb.set (Gb.set (Gb.set hg _ _) _ _) _ _) _ _)⟩,by simp[intOf];omega⟩
   ·go_wp2_with fail
    go_end0
    exact⟨rfl,by rw[<-jg (k:=k) (by rw[HN.out];omega)];exact ho,hg⟩
theorem Jy {w:World} {ad:Addr} {m:Nat} {l:List (Int×Int)} (h:SpS w (some ad) m l):∀j u,(l.flatMap enS)[j]? = some u->w.cell? (ad.add j)=some u:=by
 intro j u hj;have hlen:=Cy Ci l
 have hjl:j<(l.flatMap enS).length:=by
  rcases Nat.lt_or_ge j (l.flatMap enS).length with h1|h1
  ·exact h1
  ·rw[List.getElem?_eq_none h1] at hj;cases hj
 rw[hlen,h.1] at hjl;have hk:j / 2<m:=by omega
 obtain⟨b,off,e,-,hc⟩:=h.at_ hk;injection e with e
 subst e;have hf0:=Bp Ci l (j / 2) (j % 2) _ (Gh (by rw[h.1];exact hk)) (by omega)
 rw[show j / 2*2+j % 2=j by omega,hj] at hf0
 have hcc:=hc (j / 2) hk
 have ea:(⟨b,off,none⟩:Addr).add j=⟨b,off+j,none⟩:=by
  unfold Addr.add;by_cases h0:j=0
  ·subst h0;simp
  ·simp[h0]
 rw[ea];rcases Nat.mod_two_eq_zero_or_one j with h0|h0
 ·rw[h0] at hf0
  have e2:off+j=off+j / 2*2:=by omega
  rw[e2,hcc.1,hf0];rfl
 ·rw[h0] at hf0
  have e2:off+j=off+j / 2*2+1:=by omega
  rw[e2,hcc.2,hf0];rfl
theorem Ff {w:World} {ops:Array Oper} {rest:List Oper} {o:Oper} {a:Act} {Q:Exit->Act->World->Prop} (hgd:o.guard=none) (s x:Operand)
 (ho:o.op=.call { callee:=.builtin .append,args:=#[s,x],argTypes:=#[54,54] })
 (base:Nat) (v:Value) (l:List (Int×Int)) (hs:a.eval s=v) (hown:OwS w base v l)
 (A:Option Addr) (m c:Nat) (l2:List (Int×Int)) (hx:a.eval x=.slice A m c) (hr:SpS w A m l2) (hnil:A=none->c=0)
 (hlen:l.length+m<=1000000) (hbase:base<=w.heap.size)
 (h:∀v' w',OwS w' base v' (l++l2)->w.grownBy w' v.ownBlock->(v'.ownBlock=v.ownBlock\/v'.ownBlock=some w.heap.size)->wpList Tryz.prog ops Q rest (a.put o.dst v') w') :
 wpList Tryz.prog ops Q (o::rest) a w:=by
 obtain⟨i,hi,hz0,hz1,hz2⟩:=info_parts Vq;cases A with
 | none =>
   have h0:=hnil rfl;subst h0
   have hm:m=0:=by
    rcases Nat.eq_zero_or_pos m with h1|h1
    ·exact h1
    ·obtain⟨_,_,e,_⟩:=hr.at_ h1;cases e
   subst hm;have hl2:l2=[]:=List.eq_nil_of_length_eq_zero hr.1;subst hl2;refine wpList_append_own_none hgd s x 54 ho base 49 i 2 Tryz.underlying54 hi v l.length (l.flatMap enS) hs hown hx ?_;exact h v w (by rw[List.append_nil];exact hown) (World.grownBy.refl _ _) (Or.inl rfl)
 | some ad =>
   refine wpList_append_own_at (P:=Tryz.prog) w hgd s x 54 ho base 49 i (.agg #[.int .i64 0,.int .i64 0]) 2 16 Tryz.underlying54 hi hz0 hz1 hz2 rfl (by omega) v l.length (l.flatMap enS) hs hown ad m c (l2.flatMap enS) hx (by rw[Cy Ci,hr.1]) (Jy hr) ?_ (by unfold maxLen;omega) (by omega) hbase ?_
   ·intro u hu
    obtain⟨p,_,hp⟩:=List.mem_flatMap.1 hu;exact J5 p u hp
   ·intro v' w' ho' hg _ hat
    refine h v' w' ?_ hg hat;unfold OwS OwG;rw[List.length_append,List.flatMap_append,hr.1];exact ho'
def Zk (w:World) (l:List (Int×Int)) (e:Ending) (w':World):Prop:=∃v,e=.returned v/\OwS w' w.heap.size v l/\Below w.heap.size w w'
theorem xo {w:World} {base:Nat} {cur:Array Value} {cap:Nat} (hb:base<=w.heap.size) (hm:cap<=maxLen) (hs:cur.size=cap*2):OwS (w.alloc (.cells cur 49)) base (.slice (some ⟨w.heap.size,0,none⟩) 0 cap) [] :=
 World.ownsRow_made w cur cap hb hm hs
theorem Le {P:Program} {w w':World} {ops:Array Oper} {rest:List Oper} {o:Oper} {a:Act} {Q:Exit->Act->World->Prop} (hgd:o.guard=none) (s x:Operand) (t t2:TypeId) {v vs vx:Value}
 (ho:o.op=.call { callee:=.builtin .append,args:=#[s,x],argTypes:=#[t,t2] }) (hs:a.eval s=vs) (hx:a.eval x=vx)
 (hr:∀ty,(Builtin.append_ #[t,t2] ty #[vs,vx]).run P w=.ok v w') (h:wpList P ops Q rest (a.put o.dst v) w'):wpList P ops Q (o::rest) a w:=by
 refine wpList_plain hgd fun K hK=>?_
 unfold Oper.wp execOp;simp only[ho,resolve,invoke,builtin,Sem.run_bind,Sem.run_pure,Result.andThen_ok,List.map_toArray,List.map_cons,List.map_nil,hs,hx,hr];exact hK _ _ h
theorem ym (z:Int) (w:World) (hz:0<=z) (hz2:z<=1000000) :
 Calls Tryz.prog 153 #[.slice none 0 0,.int .i64 z] w (Zk w []):=by
 obtain⟨n,rfl⟩:∃n:Nat,z=n:=⟨z.toNat,by omega⟩
 have hn:n<=1000000:=by omega
 by_cases h0:0<n
 ·obtain⟨i,hi,hz0,hz1,hz2⟩:=info_parts Vq
  have hold:(Builtin.firstCells i.size 0 (.slice none 0 0)).run Tryz.prog w.drew=.ok #[] w.drew:=run_firstCells_none w.drew i.size 0 0 0;have hrz:=fun ty=>Lib.run_append_grow_zeros (P:=Tryz.prog) w 54 3 ty 49 i (.agg #[.int .i64 0,.int .i64 0]) .i64 .i64 Tryz.underlying54 Tryz.underlying3 hi hz0 none 0 0 [] hold n (by omega) (by omega) (by omega) (by omega) (by rw[hz2];omega) (by rw[hz2];exact growslice_fits (by omega) (by omega))
  obtain⟨G,cur,hcur,hGn,hGm,hrz⟩:∃(G:Nat) (cur:Array Value),cur.size=G*2/\n<=G/\G<=9223372036854775807/\∀ty,(Builtin.append_ #[54,3] ty #[.slice none 0 0,.int .i64 n]).run Tryz.prog w=.ok (.slice (some ⟨w.heap.size,0,none⟩) n G) (w.alloc (.cells cur 49)).drew:=by
   refine⟨grownCap w (0+n) 0 49,#[]++Builtin.zeroCells (Value.agg #[Value.int IntKind.i64 0,Value.int IntKind.i64 0]).cells n++Builtin.zeroCells (Value.agg #[Value.int IntKind.i64 0,Value.int IntKind.i64 0]).cells (grownCap w (0+n) 0 49-(0+n)),?_,?_,?_,fun ty=>?_⟩
   ·have h:=grownCap_ge w (0+n) 0 49
    rw[Array.size_append,Array.size_append,size_zeroCells,size_zeroCells];simp only[Value.cells];simp at h ⊢;omega
   ·have h:=grownCap_ge w (0+n) 0 49
    omega
   ·have h:=grownCap_le_maxLen w (0+n) 0 49 (by unfold maxLen;omega)
    unfold maxLen at h;exact h
   ·have h:=hrz ty
    rw[Nat.zero_add] at h ⊢;exact h
  clear hold hi hz0 hz1;have HR:=Lib.hid hrz;clear hrz;go_enter Tryz.func153,Tryz.ntmps153
  go_wp2_with (at_builtin;refine Le rfl _ _ _ _ rfl rfl rfl HR.out ?_)
  go_ret;exact⟨_,rfl,OwS.drew (xo (Nat.le_refl _) (by unfold maxLen;exact hGm) hcur),Aw (An (Below.refl _ _) _)⟩
 ·obtain rfl:n=0:=by omega
  go_enter Tryz.func153,Tryz.ntmps153;go_wp2_with fail;go_ret;exact⟨_,rfl,OwG.nil,Below.refl _ _⟩
theorem L4 (bx:Nat) (A1 A2:Option Addr) (n1 n2 c1 c2 cap:Nat) (l1 l2:List (Int×Int)) (w:World) (h1:n1<=100000) (h2:n2<=100000) (hs1:SpS w A1 n1 l1) (hs2:SpS w A2 n2 l2) (hz1:A1=none->c1=0) (hz2:A2=none->c2=0)
 (g1:w.cell? ⟨bx,0,none⟩=some (.slice A1 n1 c1)) (g2:w.cell? ⟨bx,1,none⟩=some (.slice A2 n2 c2)) :
 Calls Tryz.prog 125 #[.slice (some ⟨bx,0,none⟩) 2 cap] w (Zk w (l1++l2)):=by
 go_enter Tryz.func125,Tryz.ntmps125;go_wp2_with fail
 go_loop [3,11] (fun s i=>∃k:Nat,k<=2/\i=.int .i64 k/\s=.int .i64 (if k=0 then 0 else if k=1 then (n1:Int) else (n1:Int)+n2)) (fun _ i=>2-(intOf i).toNat)
 case atStart=>exact⟨0,by omega,rfl,rfl⟩
 case round =>
  obtain⟨k,hk,rfl,rfl⟩:=hrel;rcases(show k=0\/k=1\/k=2 by omega) with rfl|rfl|rfl
  ·go_wp2_with fail
   exact⟨⟨1,by omega,by simp,by simp⟩,by simp[intOf]⟩
  ·go_wp2_with fail
   exact⟨⟨2,by omega,by simp,by simp⟩,by simp[intOf]⟩
  ·go_wp2_with (go_at_call 153;refine(ym _ _ (by omega) (by omega)).mono ?_;rintro e w1 ⟨v1,rfl,ho1,hb1⟩)
   go_loopw [6,27] (fun s i wr=>∃k:Nat,k<=2/\i=.int .i64 k/\OwS wr w.heap.size s (if k=0 then [] else if k=1 then l1 else l1++l2)/\Below w.heap.size w wr) (fun _ i _=>2-(intOf i).toNat)
   case atStart=>exact⟨0,by omega,rfl,ho1,hb1⟩
   case round =>
    clear ho1 hb1;obtain⟨k,hk,rfl,ho,hb⟩:=hrel;have g1':=Aq hb g1;have g2':=Aq hb g2;rcases(show k=0\/k=1\/k=2 by omega) with rfl|rfl|rfl
    ·go_wp2_with (at_builtin;refine Ff rfl _ _ rfl w.heap.size _ [] rfl ho A1 n1 c1 l1 rfl (hs1.keep hb) hz1 (by simp;omega) hb.size ?_;intro v' w' ho' hg' hat')
     exact⟨⟨1,by omega,by simp,by simpa using ho',Bm hb ho hg'⟩,by simp[intOf]⟩
    ·go_wp2_with (at_builtin;refine Ff rfl _ _ rfl w.heap.size _ l1 rfl ho A2 n2 c2 l2 rfl (hs2.keep hb) hz2 (by rw[hs1.1];omega) hb.size ?_;intro v' w' ho' hg' hat')
     exact⟨⟨2,by omega,by simp,by simpa using ho',Bm hb ho hg'⟩,by simp[intOf]⟩
    ·go_wp2_with fail
     go_ret;exact⟨_,rfl,ho,hb⟩
end Go.Proofs.YtpbchbcdgikonaaGreat
