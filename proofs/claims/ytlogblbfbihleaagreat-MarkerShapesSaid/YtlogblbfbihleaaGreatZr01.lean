/- Lean texts of the claim. -/
import Derived.Test.YtlogblbfbihleaaGreatZr00
import Derived.Deep.DeepCutAuto
import Derived.Maps.AppendAt
import Derived.Deep.AppendLies
import Derived.OwnWalk
import Derived.Laws.AppendOwnNone
import Derived.Lib.AppendZerosOnto
import Derived.Deep.RegionHeld3
import Derived.StillTailTactics
namespace Go.Proofs.YtlogblbfbihleaaGreat
set_option linter.all false
set_option maxRecDepth 100000
set_option maxHeartbeats 0
open Go.RowKit
variable{a r:World}{b m t v:Nat}{e:Array Value}{f:Exit->Act->World->Prop}{g:TypeId}{h n s:Int×Int}{i:LP}{j:Value}{k:Program}{l:Act}{o:Code}{p:Int}{q:Option Nat}{u:Addr}
def loX (l:LP):Nat->Int|0=>(gt l 0).1|k+1=>if (gt l k).1<loX l k then (gt l k).1 else loX l k
def loY (l:LP):Nat->Int|0=>(gt l 0).2|k+1=>if (gt l k).2<loY l k then (gt l k).2 else loY l k
def hiX (l:LP):Nat->Int|0=>(gt l 0).1|k+1=>if hiX l k<(gt l k).1 then (gt l k).1 else hiX l k
def hiY (l:LP):Nat->Int|0=>(gt l 0).2|k+1=>if hiY l k<(gt l k).2 then (gt l k).2 else hiY l k
def Bf (w:World) (g:Nat) (t:TypeId) (a:Array Value):Prop:=w.heap[g]? = some (.cells a t (0,0))
theorem Bf.cell{w:World}    (h:Bf w b g e) (i:Nat):w.cell? ⟨b,i,none⟩=e[i]? := cell_of_row w b i e g (0,0) h
theorem Bf.frozen{w:World}    (h:Bf w b g e) (i:Nat):w.frozen? ⟨b,i,none⟩=false:=by
 unfold Bf at h;simp[World.frozen?,h]
theorem Bf.lt{w:World}    (h:Bf w b g e):b<w.heap.size:=by
 rcases Nat.lt_or_ge b w.heap.size with c|a
 .exact c
 unfold Bf at h;rw[Array.getElem?_eq_none a]at h;cases h
theorem Bf.alloc{w:World}    (h:Bf w b g e) (o:Obj):Bf (w.alloc o) b g e:=(Below.heap_alloc w o b h.lt).trans h
theorem Bf.new(w:World) (t:TypeId) (a:Array Value):Bf (w.alloc (.cells a t)) w.heap.size t a:=heap_alloc_new w _
theorem Bf.new2(w:World) (o:Obj) (t:TypeId) (a:Array Value):Bf ((w.alloc o).alloc (.cells a t)) (w.heap.size+1) t a:=by
 have h:=Bf.new (w.alloc o) t a;simpa using h
theorem Bf.new3(w:World) (o b:Obj) (t:TypeId) (a:Array Value):Bf (((w.alloc o).alloc b).alloc (.cells a t)) (w.heap.size+1+1) t a:=by
 have h:=Bf.new ((w.alloc o).alloc b) t a;simpa using h
theorem Bq{c:Code} {Q:Exit->Act->World->Prop}  {w:World}   (h:∀X,Be w X->Bf X w.heap.size g e->c.wp k Q l X):c.wp k Q l (w.alloc (.cells e g)):=h _ blA (Bf.new _ _ _)
theorem Eo{c:Code} {Q:Exit->Act->World->Prop}  {w:World} {u:TypeId} {a:Array Value} (h:∀X,Be w X->Bf X w.heap.size g e->Bf X (w.heap.size+1) u a->c.wp k Q l X):c.wp k Q l ((w.alloc (.cells e g)).alloc (.cells a u)):=h _ (Ao blA _) ((Bf.new _ _ _).alloc _) (Bf.new2 _ _ _ _)
theorem Jy{c:Code} {Q:Exit->Act->World->Prop}  {w:World} {u v:TypeId} {a b:Array Value} (h:∀X,Be w X->Bf X w.heap.size g e->Bf X (w.heap.size+1) u a->Bf X (w.heap.size+1+1) v b->c.wp k Q l X):c.wp k Q l (((w.alloc (.cells e g)).alloc (.cells a u)).alloc (.cells b v)) :=
 h _ (Ao (Ao blA _) _) (((Bf.new _ _ _).alloc _).alloc _) ((Bf.new2 _ _ _ _).alloc _) (Bf.new3 _ _ _ _ _)
theorem Bf.drew{w:World}    (h:Bf w b g e):Bf w.drew b g e:=h
theorem Bf.drewN{w:World}    (h:Bf w b g e) (n:Nat):Bf (w.drewN n) b g e:=h
theorem Bf.set_{w:World}    (h:Bf w b g e) (i:Nat) (u:Value):Bf (w.setCell ⟨b,i,none⟩ u) b g (e.setIfInBounds i u):=by
 unfold Bf at h ⊢;simp[World.setCell,Array.getElem?_modify,h]
theorem Bf.far{w:World}    (h:Bf w b g e) {p:Addr} (a:b≠p.block) (u:Value):Bf (w.setCell p u) b g e:=(Below.heap_setCell w p u b a).trans h
theorem Bf.keep{w:World}    (h:Bf w b g e) (c:Be w a):Bf a b g e:=(c.block b h.lt).trans h
theorem Aec(b F B n:Nat) (l:LP) (w:World) (hl:n<=1000000) (E:n<=B) (R:SpS w (some ⟨b,F,none⟩) n l) (O:Bg l n=0) (h0:0<n) :
 Calls Tryz.prog 84 #[.slice (some ⟨b,F,none⟩) n B] w (Bz w (.tuple #[.agg #[(loX l n),(loY l n),(wrap64 (hiX l n-loX l n)),(wrap64 (hiY l n-loY l n))],.int .i64 0])):=by
 have HC:=Ar O;have q:(Bg l n != 0)=false:=by rw[O];rfl
 clear O;let⟨M,N⟩:=R.cells h0;simp only[Nat.zero_mul,Nat.add_zero]at M N;go_enter Tryz.func84,Tryz.ntmps84
 go_upto_region 4 with (go_at_call 57;refine rR (Dc _ _ _ l _ (by omega) E (R.keep blA)) λt r=>?_)
 have h:=An blA r;have D:=Aq h M;have P:=Aq h N;have C:b<t.heap.size:=Bi D;have G:Bf t w.heap.size 151 #[.int .i64 0,.int .i64 0,.int .i64 0,.int .i64 0]:=(Bf.new w _ _).keep r;have s:w.heap.size<t.heap.size:=G.lt;clear M N r;go_cut [5,6] (λs5 s6 H=>∃d f:Nat,s5=.pointer (some ⟨d,0,none⟩)/\s6=.pointer (some ⟨f,0,none⟩)/\d≠f/\w.heap.size<d/\w.heap.size<f/\Bf H d 60 #[(gt l 0).1,(gt l 0).2]/\Bf H f 60 #[(gt l 0).1,(gt l 0).2]/\Bf H w.heap.size 151 #[.int .i64 0,.int .i64 0,.int .i64 0,.int .i64 0]/\Be w H)
 case first =>
  go_region;all_goals go_wp2_with fail
  all_goals go_meet
  .exact⟨t.heap.size,t.heap.size+1,rfl,rfl,by omega,s,by omega,((Bf.new _ _ _).alloc _).drew,(Bf.new2 _ _ _ _).drew,((G.alloc _).alloc _).drew,Aw (Ao (Ao h _) _)⟩
  exact⟨t.heap.size+1,t.heap.size,rfl,rfl,by omega,by omega,s,(Bf.new2 _ _ _ _).drew,((Bf.new _ _ _).alloc _).drew,((G.alloc _).alloc _).drew,Aw (Ao (Ao h _) _)⟩
 clear D P C G s h;obtain⟨d,f,rfl,rfl,o,j,m,a,c,g,u⟩:=hcut;go_wp2_with fail;go_loopw [23] (λi wr=>∃k:Nat,k<=n/\i=.int .i64 k/\Bf wr d 60 #[(loX l k),(loY l k)]/\Bf wr f 60 #[(hiX l k),(hiY l k)]/\Bf wr w.heap.size 151 #[.int .i64 0,.int .i64 0,.int .i64 0,.int .i64 0]/\Be w wr) λi _=>n-(intOf i).toNat
 case atStart=>exact⟨0,Nat.zero_le _,rfl,a,c,g,u⟩
 clear a c g u;obtain⟨k,hk,rfl,a,c,g,u⟩:=hrel;have I:=a.cell 0;have J:=a.cell 1;have K:=c.cell 0;have L:=c.cell 1;have S:=a.frozen 0;have T:=a.frozen 1;have U:=c.frozen 0;have V:=c.frozen 1;have l5:=a.lt;have l6:=c.lt;simp only[List.getElem?_toArray,List.getElem?_cons_zero,List.getElem?_cons_succ]at I J K L;by_cases Q:k<n
 .obtain⟨h1,h2⟩:=(R.keep u).cells Q;have C:b<wr.heap.size:=Bi h1;go_wp2_with fail;exact⟨⟨k+1,by omega,by go_num,((((a.set_ 0 _).set_ 1 _).far (p:=⟨f,0,none⟩) o _).far (p:=⟨f,1,none⟩) o _).alloc _,((((c.far (p:=⟨d,0,none⟩) o.symm _).far (p:=⟨d,1,none⟩) o.symm _).set_ 0 _).set_ 1 _).alloc _,((((g.far (p:=⟨d,0,none⟩) (Nat.ne_of_lt j) _).far (p:=⟨d,1,none⟩) (Nat.ne_of_lt j) _).far (p:=⟨f,0,none⟩) (Nat.ne_of_lt m) _).far (p:=⟨f,1,none⟩) (Nat.ne_of_lt m) _).alloc _,Ao (Ba (Ba (Ba (Ba u (p:=⟨d,0,none⟩) (Nat.le_of_lt j) _) (p:=⟨d,1,none⟩) (Nat.le_of_lt j) _) (p:=⟨f,0,none⟩) (Nat.le_of_lt m) _) (p:=⟨f,1,none⟩) (Nat.le_of_lt m) _) _⟩,by simp[intOf];omega⟩
 obtain rfl:n=k:=by omega
 have x:=g.cell 0;have y:=g.cell 1;have z:=g.cell 2;have A:=g.cell 3;have W:=g.frozen 0;have X:=g.frozen 1;have Y:=g.frozen 2;have Z:=g.frozen 3;simp only[List.getElem?_toArray,List.getElem?_cons_zero,List.getElem?_cons_succ]at x y z A;go_wp2_with fail;exact bR ⟨rfl,Ba (Ba (Ba (Ba u (p:=⟨w.heap.size,0,none⟩) (Nat.le_refl _) _) (p:=⟨w.heap.size,1,none⟩) (Nat.le_refl _) _) (p:=⟨w.heap.size,2,none⟩) (Nat.le_refl _) _) (p:=⟨w.heap.size,3,none⟩) (Nat.le_refl _) _⟩ rfl (by simp[results,Tryz.results84,go_sem,x,y,z,A])
theorem Ag1(A:Option Addr) (g n:Nat) (l:LP) (w:World) (s:n<=9223372036854775807) (i:n<=g) (t:SpS w A n l) (j:¬Bg l n=0) :
 Calls Tryz.prog 84 #[.slice A n g] w (Bz w (.tuple #[.agg #[.int .i64 0,.int .i64 0,.int .i64 0,.int .i64 0],(Bg l n)])):=by
 have q:(Bg l n != 0)=true:=by rw[bne_iff_ne];exact j
 clear j;go_enter Tryz.func84,Tryz.ntmps84
 go_wp2_with (go_at_call 57;refine rR (Dc _ _ _ l _ s i (t.keep blA)) λu h=>?_;have a:Bf u w.heap.size 151 #[.int .i64 0,.int .i64 0,.int .i64 0,.int .i64 0]:=(Bf.new w _ _).keep h;have b:=a.cell 0;have c:=a.cell 1;have d:=a.cell 2;have f:=a.cell 3;have k:=a.frozen 0;have m:=a.frozen 1;have o:=a.frozen 2;have r:=a.frozen 3;simp only[List.getElem?_toArray,List.getElem?_cons_zero,List.getElem?_cons_succ]at b c d f)
 exact bR ⟨rfl,Ba (Ba (Ba (Ba (An blA h) (p:=⟨w.heap.size,0,none⟩) (Nat.le_refl _) _) (p:=⟨w.heap.size,1,none⟩) (Nat.le_refl _) _) (p:=⟨w.heap.size,2,none⟩) (Nat.le_refl _) _) (p:=⟨w.heap.size,3,none⟩) (Nat.le_refl _) _⟩ rfl (by simp[results,Tryz.results84,go_sem,b,c,d,f])
section
def OwG {d:Type} (e:TypeId) (b:Nat) (c:d->List Value) (w:World) (a:Nat) (v:Value) (l:List d):Prop:=w.ownsRow a e b v l.length (l.flatMap c)
section
variable {α : Type} {e : TypeId} {size : Nat} {enc : α -> List Value} {w w' : World} {base : Nat} {v : Value} {l : List α}
theorem Cz (henc:∀x,(enc x).length=size) (l:List α):(l.flatMap enc).length=l.length*size:=by
 induction l with
 | nil=>simp
 | cons a l ih=>rw[List.flatMap_cons,List.length_append,ih,henc,List.length_cons,Nat.add_mul];omega
theorem OwG.nil:OwG e size enc w base (.slice none 0 0) ([]:List α):=World.ownsRow_nil w base e size
theorem OwG.alloc (h:OwG e size enc w base v l) (o:Obj):OwG e size enc (w.alloc o) base v l:=World.ownsRow.alloc h o
theorem OwG.keep (h:OwG e size enc w base v l) (hb:Be w w'):OwG e size enc w' base v l :=
 World.ownsRow.kept (row:=none) h ⟨hb.os,hb.tape,hb.output,hb.size,fun k hk _=>hb.block k hk⟩ (by cases h':v.ownBlock<;>simp)
theorem OwG.far (h:OwG e size enc w base v l) {p:Addr} (hp:v.ownBlock≠some p.block) (u:Value):OwG e size enc (w.setCell p u) base v l:=by
 obtain⟨h1,h2⟩:=h;refine⟨h1,?_⟩;rcases h2 with h2|⟨g,cap,cur,hv,hg,hh,r⟩
 ·exact Or.inl h2
 ·refine Or.inr ⟨g,cap,cur,hv,hg,?_,r⟩
  rw[Below.heap_setCell _ _ _ _ (by rintro rfl;exact hp (by rw[hv];rfl))];exact hh
theorem OwG.lt (h:OwG e size enc w base v l):∀k,v.ownBlock=some k->base<=k/\k<w.heap.size:=World.ownsRow.lt h
theorem OwG.lower {base':Nat} (h:OwG e size enc w base v l) (hb:base'<=base):OwG e size enc w base' v l:=by
 obtain⟨h1,h2⟩:=h;refine⟨h1,?_⟩;rcases h2 with h2|⟨g,cap,cur,hv,hg,r⟩
 ·exact Or.inl h2
 ·exact Or.inr ⟨g,cap,cur,hv,Nat.le_trans hb hg,r⟩
theorem OwG.form (h:OwG e size enc w base v l):(v=.slice none 0 0/\l=[])\/∃g cap,v=.slice (some ⟨g,0,none⟩) l.length cap/\base<=g/\g<w.heap.size/\l.length<=cap/\cap<=maxLen:=by
 rcases h.2 with ⟨h1,h2⟩|⟨g,cap,cur,hv,hg,hh,h1,h2,_⟩
 ·exact Or.inl ⟨h1,List.eq_nil_of_length_eq_zero h2⟩
 ·refine Or.inr ⟨g,cap,hv,hg,?_,h1,h2⟩
  rcases Nat.lt_or_ge g w.heap.size with hlt|hge
  ·exact hlt
  ·rw[Array.getElem?_eq_none hge] at hh;cases hh
theorem OwG.form2 (h:OwG e size enc w base v l):∃A cap,v=.slice A l.length cap/\l.length<=cap/\cap<=maxLen/\(0<l.length->∃g,A=some ⟨g,0,none⟩/\base<=g/\g<w.heap.size):=by
 rcases h.form with ⟨rfl,rfl⟩|⟨g,cap,rfl,h1,h2,h3,h4⟩
 ·exact⟨none,0,rfl,Nat.le_refl _,Nat.zero_le _,fun h=>absurd h (by simp)⟩
 ·exact⟨_,cap,rfl,h3,h4,fun _=>⟨g,rfl,h1,h2⟩⟩
theorem OwG.cells {g cap:Nat} (h:OwG e size enc w base (.slice (some ⟨g,0,none⟩) l.length cap) l) (j:Nat) (hj:j<l.length*size):w.cell? ⟨g,j,none⟩=(l.flatMap enc)[j]? := World.ownsRow.cellAt h j hj
end
theorem Bu{e:Type} {d:e->List Value}  (c:∀x,(d x).length=b):∀(l:List e) (k i:Nat) (x:e),l[k]? = some x->i<b->(l.flatMap d)[k*b+i]? = (d x)[i]? := by
 intro l;induction l with
 | nil=>intro k i x h;simp at h
 | cons a l ih =>
   intro k i x h f;rw[List.flatMap_cons];cases k with
   | zero =>
     simp at h;subst h;rw[Nat.zero_mul,Nat.zero_add,List.getElem?_append_left (by rw[c];exact f)]
   | succ k =>
     rw[List.getElem?_append_right (by rw[c,Nat.add_mul];omega),c,show (k+1)*b+i-b=k*b+i by rw[Nat.add_mul];omega];exact ih k i x (by simpa using h) f
theorem Co{w:World} {F:Array Oper} {m:List Oper} {o:Oper}  {Q:Exit->Act->World->Prop} (K:o.guard=none) (s x:Operand) (t:TypeId)
 (X:o.op=.call { callee:=.builtin .append,args:=#[s,x],argTypes:=#[t,t] })
 {S:Type} (b:S->List Value) (f:Nat) (e:TypeId) (z:Value) (a d:Nat) (ht:k.underlying t=some (.slice e)) (A:(k.info? e).map (λi=>(i.zero,i.size,i.bytes))=some (some z,a,d))
 (R:z.cells.size=a) (M:0<a) (y:∀x,(b x).length=a) (I:∀x,∀u∈b x,u.oneCell'=true)
 (v:Value) (q:List S) (Y:l.eval s=v) (E:OwG e a b w f v q)
 (H c:Nat) (p:S) (T:TypeId) (Z:l.eval x=.slice (some ⟨H,0,none⟩) 1 c) (D:Bf w H T (b p).toArray)
 (C:q.length+1<=maxLen) (g:(q.length+1)*d<=140737488355328) (n:f<=w.heap.size)
 (h:∀r G,OwG e a b G f r (q++[p])->w.grownBy G v.ownBlock->(r.ownBlock=v.ownBlock\/r.ownBlock=some w.heap.size)->wpList k F Q m (l.put o.dst r) G) :
 wpList k F Q (o::m) l w:=by
 let⟨i,V,N,O,P⟩:=info_parts A;refine wpList_append_own_at (P:=k) w K s x t X f e i z a d ht V N O P R M v q.length (q.flatMap b) Y E ⟨H,0,none⟩ 1 c (b p) Z (by rw[y];omega) ?_ (I p) C g n ?_
 .intro j u W;have:=World.news_of_block (w:=w) (B:=H) (cs:=(b p).toArray) (t:=T) (fr:=(0,0)) D j u (by simpa using W);exact this
 intro r G L U _ J;refine h r G ?_ U J;unfold OwG;rw[List.length_append,List.flatMap_append];simpa using L
theorem Bk{w:World}  {e:Type}   {c:e->List Value} {l:List e} (d:Be a w) (h:OwG g b c w a.heap.size j l) (f:w.grownBy r j.ownBlock):Be a r :=
 Below.grown d f d.size λk i=>(h.lt k i).1
def enS (p:Int×Int):List Value:=[.int .i64 p.1,.int .i64 p.2]
theorem Cm(p:Int×Int):(enS p).length=2:=rfl
theorem Io(p:Int×Int):∀u∈enS p,u.oneCell'=true:=by
 intro u a;simp[enS]at a;rcases a with rfl|rfl<;>rfl
def OwS (w:World) (a:Nat) (v:Value) (l:LP):Prop:=OwG 60 2 enS w a v l
theorem Si:(Tryz.prog.info? 60).map (λi=>(i.zero,i.size,i.bytes))=some (some (.agg #[.int .i64 0,.int .i64 0]),2,16):=by kernel_rfl
theorem G3(h:b<i.length):i[b]? = some (gt i b):=by
 unfold gt;rw[List.getD,List.getElem?_eq_getElem h];rfl
theorem OwS.sps{w:World}    (h:OwS w b j i):∃A a,j=.slice A i.length a/\i.length<=a/\SpS w A i.length i/\(0<i.length->∃g,A=some ⟨g,0,none⟩/\b<=g/\g<w.heap.size):=by
 rcases OwG.form h with⟨rfl,rfl⟩|⟨g,a,rfl,l,m,n,o⟩
 .exact⟨none,0,rfl,Nat.le_refl _,⟨rfl,.inl rfl⟩,λh=>absurd h (by simp)⟩
 refine⟨_,a,rfl,n,⟨rfl,.inr ⟨g,0,rfl,λk e=>?_⟩⟩,λ_=>⟨g,rfl,l,m⟩⟩;have c0:=OwG.cells h (k*2) (by omega);have c:=OwG.cells h (k*2+1) (by omega);have d:=Bu Cm i k 0 _ (G3 e) (by omega);have f:=Bu Cm i k 1 _ (G3 e) (by omega);rw[Nat.add_zero]at d;rw[d]at c0;rw[f]at c;rw[Nat.zero_add];exact⟨c0,c⟩
theorem Dl{w:World} {g:Array Oper} {b:List Oper} {o:Oper}  {Q:Exit->Act->World->Prop} (m:o.guard=none) (s x:Operand)
 (t:o.op=.call { callee:=.builtin .append,args:=#[s,x],argTypes:=#[46,46] })
 (a:Nat) (v:Value) (i:LP) (u:l.eval s=v) (f:OwS w a v i)
 (k c:Nat) (p:Int×Int) (r:TypeId) (y:l.eval x=.slice (some ⟨k,0,none⟩) 1 c) (e:Bf w k r #[p.1,p.2])
 (q:i.length<=1000000) (d:a<=w.heap.size)
 (h:∀j n,OwS n a j (i++[p])->w.grownBy n v.ownBlock->(j.ownBlock=v.ownBlock\/j.ownBlock=some w.heap.size)->wpList Tryz.prog g Q b (l.put o.dst j) n) :
 wpList Tryz.prog g Q (o::b) l w :=
 Co m s x 46 t enS a 60 (.agg #[.int .i64 0,.int .i64 0]) 2 16 Tryz.underlying46 Si rfl (by omega) Cm Io v i u f k c p r y e (by unfold maxLen;omega) (by omega) d h
end
theorem OwG.frozen{c:Type}   {a:c->List Value} {w:World}  {l:List c} (h:OwG g b a w m (.slice (some ⟨t,0,none⟩) l.length v) l) (j:Nat):w.frozen? ⟨t,j,none⟩=false:=World.ownsRow.frozenAt h j
theorem OwS.cells{w:World}   (h:OwS w b (.slice (some ⟨m,0,none⟩) v t) i) (d:i.length=v) {k:Nat} (c:k<v):Cq w m (k*2) (gt i k).1/\Cq w m (k*2+1) (gt i k).2/\w.frozen? ⟨m,k*2,none⟩=false/\w.frozen? ⟨m,k*2+1,none⟩=false:=by
 subst d;let⟨A,a,e,_,f,_⟩:=h.sps;injection e with e1 e2 e3
 subst e1;have:=f.cells c;rw[Nat.zero_add]at this;exact⟨this.1,this.2,OwG.frozen h _,OwG.frozen h _⟩
theorem Aa8(x y:Int):((i.flatMap enS).set (b*2) (.int .i64 x)).set (b*2+1) (.int .i64 y)=(i.set b (x,y)).flatMap enS:=by
 induction i generalizing b with
 | nil=>simp
 | cons a i ih =>
   cases b with
   | zero=>simp[enS,List.flatMap_cons]
   | succ b =>
     rw[List.set_cons_succ,List.flatMap_cons,List.flatMap_cons,<-ih];simp only[enS,List.cons_append,List.nil_append];rw[show (b+1)*2=b*2+1+1 by omega];simp
theorem OwS.store{w:World}   (h:OwS w b (.slice (some ⟨m,0,none⟩) v t) i) (d:i.length=v) {k:Nat} (e:k<v) (x y:Int):OwS ((w.setCell ⟨m,k*2,none⟩ (.int .i64 x)).setCell ⟨m,k*2+1,none⟩ (.int .i64 y)) b (.slice (some ⟨m,0,none⟩) v t) (i.set k (x,y)):=by
 subst d;have c:=(World.ownsRow.stored h (k*2) (.int .i64 x)).1;have a:=(World.ownsRow.stored c (k*2+1) (.int .i64 y)).1;rw[Aa8]at a;unfold OwS OwG;rw[List.length_set];exact a
theorem Gb.set{w:World}  (h:a.grownBy w (some b)) (i:Nat) (u:Value):a.grownBy (w.setCell ⟨b,i,none⟩ u) (some b) :=
 ⟨h.os,h.tape,h.output,by simpa[World.setCell] using h.size,λj d c=>(Below.heap_setCell w ⟨b,i,none⟩ u j λe=>c (by rw[e])).trans (h.block j d c)⟩
theorem Gb.drew{w:World}  (h:a.grownBy w q):a.grownBy w.drew q:=⟨h.os,h.tape,h.output,h.size,h.block⟩
theorem Gb.drewN{w:World}  (h:a.grownBy w q) (n:Nat):a.grownBy (w.drewN n) q:=⟨h.os,h.tape,h.output,h.size,h.block⟩
theorem OwS.drew{w:World}    (h:OwS w b j i):OwS w.drew b j i:=h
theorem OwS.drewN{w:World}    (h:OwS w b j i) (n:Nat):OwS (w.drewN n) b j i:=h
def Kg (l:LP) (k:Nat):LP:=(List.range l.length).map λp=>if p<k\/l.length-k<=p then gt l (l.length-1-p) else gt l p
theorem Dq(l:LP) (k:Nat):(Kg l k).length=l.length:=by simp[Kg]
theorem Jm(a:m<i.length):gt (Kg i b) m=if m<b\/i.length-b<=m then gt i (i.length-1-m) else gt i m:=by
 unfold gt Kg;rw[List.getD,List.getElem?_map,List.getElem?_range a];rfl
theorem Gn{b:LP} (h:i.length=b.length) (d:∀k,k<i.length->gt i k=gt b k):i=b:=by
 apply List.ext_getElem?;intro c;rcases Nat.lt_or_ge c i.length with a|a
 .rw[G3 a,G3 (by omega),d c a]
 rw[List.getElem?_eq_none a,List.getElem?_eq_none (by omega)]
theorem Lg{x:Int×Int} (a:b<i.length):gt (i.set b x) m=if b=m then x else gt i m:=by
 unfold gt;rw[List.getD,List.getElem?_set];by_cases h:b=m
 .subst h;simp[a]
 simp[h,List.getD]
theorem bj(l:LP):Kg l 0=l:=by
 apply Gn (Dq _ _);intro k a;rw[Dq]at a;rw[Jm a,if_neg (by omega)]
theorem lz{k:Nat} (h:i.length<=2*k+1):Kg i k=i.reverse:=by
 apply Gn (by rw[Dq,List.length_reverse]);intro p a;rw[Dq]at a;rw[Jm a]
 have:gt i.reverse p=gt i (i.length-1-p):=by
  unfold gt;rw[List.getD,List.getElem?_reverse a];rfl
 rw[this];by_cases b:p<k\/i.length-k<=p
 .rw[if_pos b]
 rw[if_neg b];congr 1;omega
theorem bk{l:LP} {k:Nat} (h:k<l.length-1-k):((Kg l k).set k (gt (Kg l k) (l.length-1-k))).set (l.length-1-k) (gt (Kg l k) k)=Kg l (k+1):=by
 apply Gn (by simp[Dq]);intro p a;simp[Dq]at a;rw[Lg (by rw[List.length_set,Dq];omega),Lg (by rw[Dq];omega),Jm (by omega),Jm (by omega),Jm a,Jm a];by_cases b:l.length-1-k=p
 .rw[if_pos b,if_neg (by omega),if_pos (by omega)];congr 1;omega
 rw[if_neg b];by_cases c:k=p
 .rw[if_pos c,if_neg (by omega),if_pos (by omega)];congr 1;omega
 rw[if_neg c];by_cases d:p<k\/l.length-k<=p
 .rw[if_pos d,if_pos (by omega)]
 rw[if_neg d,if_neg (by omega)]
theorem Oh(v:Value) (a:Nat) (l:LP) (w:World) (u:l.length<=1000000) (f:OwS w a v l) :
 Calls Tryz.prog 324 #[v] w λe s=>e=.returned (.tuple #[])/\OwS s a v l.reverse/\w.grownBy s v.ownBlock:=by
 let⟨n,o⟩:=gN l.length
 rcases OwG.form f with⟨rfl,rfl⟩|⟨g,h,rfl,I,J,t,K⟩
 .go_in;go_wp2
  go_loop [2,3] (λi j=>i=.int .i64 0/\j=.int .i64 (-1)) λ_ _=>0
  case atStart=>exact⟨rfl,rfl⟩
  obtain⟨rfl,rfl⟩:=hrel;go_wp2
  go_end0
  exact⟨rfl,f,World.grownBy.refl _ _⟩
 rw[o]at f u t ⊢;have b:=Ar o;clear o;go_in;go_wp2;go_loopw [2,3] (λi j wr=>∃k:Nat,2*k<=n/\i=.int .i64 k/\j=.int .i64 ((n:Int)-1-k)/\OwS wr a (.slice (some ⟨g,0,none⟩) n h) (Kg l k)/\w.grownBy wr (some g)) λi _ _=>n-(intOf i).toNat
 case atStart=>exact⟨0,by omega,rfl,by simp,by rw[bj];exact f,World.grownBy.refl _ _⟩
 obtain⟨k,L,rfl,rfl,d,q⟩:=hrel;by_cases m:k<n-1-k
 .have r:n-1-k<n:=by omega
  let⟨z,A,E,F⟩:=d.cells ((Dq _ _).trans b.out) (k:=k) (by omega);let⟨B,C,G,H⟩:=d.cells ((Dq _ _).trans b.out) r;have D:((n:Int)-1-(k:Int)).toNat=n-1-k:=by omega
  have x:0<=(n:Int)-1-(k:Int):=by omega
  have y:(n:Int)-1-(k:Int)<(n:Int):=by omega
  go_wp2;go_region;go_wp2;have p:=((d.store ((Dq _ _).trans b.out) (k:=k) (by omega) (gt (Kg l k) (n-1-k)).1 (gt (Kg l k) (n-1-k)).2).store (by rw[List.length_set,Dq];exact b.out) r (gt (Kg l k) k).1 (gt (Kg l k) k).2).drew;have c:=bk (l:=l) (k:=k) (by rw[b.out];exact m);rw[b.out]at c;exact⟨⟨k+1,by omega,by go_num,by congr 1;omega,by rw[<-c];exact p,Gb.drew (Gb.set (Gb.set (Gb.set (Gb.set q _ _) _ _) _ _) _ _)⟩,by simp[intOf];omega⟩
 go_wp2
 go_end0
 exact⟨rfl,by rw[<-lz (k:=k) (by rw[b.out];omega)];exact d,q⟩
theorem Ij{w:World}    (h:SpS w (some u) b i):∀j p,(i.flatMap enS)[j]? = some p->w.cell? (u.add j)=some p:=by
 intro j p m;have g:=Cz Cm i
 have n:j<(i.flatMap enS).length:=by
  rcases Nat.lt_or_ge j (i.flatMap enS).length with l|l
  .exact l
  rw[List.getElem?_eq_none l]at m;cases m
 rw[g,h.1]at n;have o:j / 2<b:=by omega
 obtain⟨q,a,e,-,s⟩:=h.at_ o;injection e with e
 subst e;have c:=Bu Cm i (j / 2) (j % 2) _ (G3 (by rw[h.1];exact o)) (by omega);rw[show j / 2*2+j % 2=j by omega,m]at c;have f:=s (j / 2) o
 have r:(⟨q,a,none⟩:Addr).add j=⟨q,a+j,none⟩:=by
  unfold Addr.add;by_cases d:j=0
  .subst d;simp
  simp[d]
 rw[r];rcases Nat.mod_two_eq_zero_or_one j with d|d
 .rw[d]at c;have k:a+j=a+j / 2*2:=by omega
  rw[k,f.1,c];rfl
 rw[d]at c;have k:a+j=a+j / 2*2+1:=by omega
 rw[k,f.2,c];rfl
theorem Et{w:World} {r:Array Oper} {d:List Oper} {o:Oper}  {Q:Exit->Act->World->Prop} (k:o.guard=none) (s x:Operand)
 (J:o.op=.call { callee:=.builtin .append,args:=#[s,x],argTypes:=#[46,46] })
 (a:Nat) (v:Value) (g:LP) (K:l.eval s=v) (b:OwS w a v g)
 (A:Option Addr) (m c:Nat) (y:LP) (L:l.eval x=.slice A m c) (q:SpS w A m y) (n:A=none->c=0)
 (I:g.length+m<=1000000) (f:a<=w.heap.size)
 (h:∀j t,OwS t a j (g++y)->w.grownBy t v.ownBlock->(j.ownBlock=v.ownBlock\/j.ownBlock=some w.heap.size)->wpList Tryz.prog r Q d (l.put o.dst j) t) :
 wpList Tryz.prog r Q (o::d) l w:=by
 let⟨i,H,E,F,G⟩:=info_parts Si;cases A with
 | none =>
   have M:=n rfl;subst M
   have O:m=0:=by
    rcases Nat.eq_zero_or_pos m with z|z
    .exact z
    let⟨_,_,e,_⟩:=q.at_ z;cases e
   subst O;have C:y=[]:=List.eq_nil_of_length_eq_zero q.1;subst C;refine wpList_append_own_none k s x 46 J a 60 i 2 Tryz.underlying46 H v g.length (g.flatMap enS) K b L ?_;exact h v w (by rw[List.append_nil];exact b) (World.grownBy.refl _ _) (Or.inl rfl)
 | some ad =>
   refine wpList_append_own_at (P:=Tryz.prog) w k s x 46 J a 60 i (.agg #[.int .i64 0,.int .i64 0]) 2 16 Tryz.underlying46 H E F G rfl (by omega) v g.length (g.flatMap enS) K b ad m c (y.flatMap enS) L (by rw[Cz Cm,q.1]) (Ij q) ?_ (by unfold maxLen;omega) (by omega) f ?_
   .intro u S;let⟨p,_,R⟩:=List.mem_flatMap.1 S;exact Io p u R
   intro j t D N _ B;refine h j t ?_ N B;unfold OwS OwG;rw[List.length_append,List.flatMap_append,q.1];exact D
def Vi (w:World) (l:LP) (e:Ending) (a:World):Prop:=∃v,e=.returned v/\OwS a w.heap.size v l/\Be w a
theorem zv{w:World}    (a:b<=w.heap.size) (c:m<=maxLen) (d:e.size=m*2):OwS (w.alloc (.cells e 60)) b (.slice (some ⟨w.heap.size,0,none⟩) 0 m) [] :=
 World.ownsRow_made w e m a c d
theorem Ls{w:World} {c:Array Oper} {b:List Oper} {o:Oper}  {Q:Exit->Act->World->Prop} (d:o.guard=none) (s x:Operand) (t e:TypeId) {f vx:Value}
 (i:o.op=.call { callee:=.builtin .append,args:=#[s,x],argTypes:=#[t,e] }) (n:l.eval s=f) (p:l.eval x=vx)
 (m:∀q,(Builtin.append_ #[t,e] q #[f,vx]).run k w=.ok j a) (h:wpList k c Q b (l.put o.dst j) a):wpList k c Q (o::b) l w:=by
 refine wpList_plain d λK g=>?_
 unfold Oper.wp execOp;simp only[i,resolve,invoke,builtin,Sem.run_bind,Sem.run_pure,Result.andThen_ok,List.map_toArray,List.map_cons,List.map_nil,n,p,m];exact g _ _ h
theorem Aaz(z:Int) (w:World) (r:0<=z) (d:z<=1000000) :
 Calls Tryz.prog 346 #[.slice none 0 0,z] w (Vi w []):=by
 obtain⟨n,rfl⟩:∃n:Nat,z=n:=⟨z.toNat,by omega⟩
 have q:n<=1000000:=by omega
 by_cases p:0<n
 .obtain⟨i,l,f,k,d⟩:=info_parts Si;have b:(Builtin.firstCells i.size 0 (.slice none 0 0)).run Tryz.prog w.drew=.ok #[] w.drew:=run_firstCells_none w.drew i.size 0 0 0;have a:=λg=>Lib.run_append_grow_zeros (P:=Tryz.prog) w 46 3 g 60 i (.agg #[.int .i64 0,.int .i64 0]) .i64 .i64 Tryz.underlying46 Tryz.underlying3 l f none 0 0 [] b n (by omega) (by omega) (by omega) (by omega) (by rw[d];omega) (by rw[d];exact growslice_fits (by omega) (by omega))
  let⟨G,c,e,o,j,a⟩:∃(G:Nat) (c:Array Value),c.size=G*2/\n<=G/\G<=9223372036854775807/\∀g,(Builtin.append_ #[46,3] g #[.slice none 0 0,n]).run Tryz.prog w=.ok (.slice (some ⟨w.heap.size,0,none⟩) n G) (w.alloc (.cells c 60)).drew:=by
   refine⟨grownCap w (0+n) 0 60,#[]++Builtin.zeroCells (Value.agg #[Value.int IntKind.i64 0,Value.int IntKind.i64 0]).cells n++Builtin.zeroCells (Value.agg #[Value.int IntKind.i64 0,Value.int IntKind.i64 0]).cells (grownCap w (0+n) 0 60-(0+n)),?_,?_,?_,λg=>?_⟩
   .have h:=grownCap_ge w (0+n) 0 60;rw[Array.size_append,Array.size_append,size_zeroCells,size_zeroCells];simp only[Value.cells];simp at h ⊢;omega
   .have h:=grownCap_ge w (0+n) 0 60;omega
   .have h:=grownCap_le_maxLen w (0+n) 0 60 (by unfold maxLen;omega);unfold maxLen at h;exact h
   have h:=a g;rw[Nat.zero_add]at h ⊢;exact h
  clear b l f k;have m:=Ar a;clear a;go_in
  go_wp2_with (at_builtin;refine Ls rfl _ _ _ _ rfl rfl rfl m.out ?_)
  go_ret;exact⟨_,rfl,OwS.drew (zv (Nat.le_refl _) (by unfold maxLen;exact j) e),Aw blA⟩
 obtain rfl:n=0:=by omega
 go_in;go_wp2;go_ret;exact⟨_,rfl,OwG.nil,bl0⟩
theorem Mn(r:Nat) (o p:Option Addr) (f n t u v:Nat) (d q:LP) (w:World) (H:f<=100000) (I:n<=100000) (m:SpS w o f d) (x:SpS w p n q) (y:o=none->t=0) (z:p=none->u=0)
 (A:Cq w r 0 (.slice o f t)) (C:Cq w r 1 (.slice p n u)) :
 Calls Tryz.prog 325 #[.slice (some ⟨r,0,none⟩) 2 v] w (Vi w (d++q)):=by
 go_in;go_wp2
 go_loop [3,11] (λs i=>∃k:Nat,k<=2/\i=.int .i64 k/\s=.int .i64 (if k=0 then 0 else if k=1 then (f:Int) else (f:Int)+n)) λ_ i=>2-(intOf i).toNat
 case atStart=>exact⟨0,by omega,rfl,rfl⟩
 obtain⟨k,E,rfl,rfl⟩:=hrel;rcases(show k=0\/k=1\/k=2 by omega) with rfl|rfl|rfl
 .go_wp2;exact⟨⟨1,by omega,by simp,by simp⟩,by simp[intOf]⟩
 .go_wp2;exact⟨⟨2,by omega,by simp,by simp⟩,by simp[intOf]⟩
 go_wp2_with (go_at_call 346;refine(Aaz _ _ (by omega) (by omega)).mono ?_;rintro e K ⟨J,rfl,l,h⟩)
 go_loopw [6,27] (λs i wr=>∃k:Nat,k<=2/\i=.int .i64 k/\OwS wr w.heap.size s (if k=0 then [] else if k=1 then d else d++q)/\Be w wr) λ_ i _=>2-(intOf i).toNat
 case atStart=>exact⟨0,by omega,rfl,l,h⟩
 clear l h;obtain⟨k,E,rfl,j,a⟩:=hrel;have B:=Aq a A;have D:=Aq a C;rcases(show k=0\/k=1\/k=2 by omega) with rfl|rfl|rfl
 .go_wp2_with (at_builtin;refine Et rfl _ _ rfl w.heap.size _ [] rfl j o f t d rfl (m.keep a) y (by simp;omega) a.size ?_;intro F G c b g)
  exact⟨⟨1,by omega,by simp,by simpa using c,Bk a j b⟩,by simp[intOf]⟩
 .go_wp2_with (at_builtin;refine Et rfl _ _ rfl w.heap.size _ d rfl j p n u q rfl (x.keep a) z (by rw[m.1];omega) a.size ?_;intro F G c b g)
  exact⟨⟨2,by omega,by simp,by simpa using c,Bk a j b⟩,by simp[intOf]⟩
 go_wp2;go_ret;exact⟨_,rfl,j,a⟩
def Qg (l:LP) (n:Nat):Nat->LP
 | 0=>[]
 | k+1=>if Vf l n k != 0 then Qg l n k++[gt l k] else Qg l n k
def G0 (p q:Int×Int):Bool:=decide (p.1<q.1) || (decide (p.1=q.1)&&decide (p.2<q.2))
def Fg (c:LP):Nat->Nat
 | 0=>0
 | k+1=>if G0 (gt c k) (gt c (Fg c k)) then k else Fg c k
def Km (l:LP) (n:Nat):LP:=if F4 l n n<0 then (Qg l n n).reverse else Qg l n n
def rot (c:LP) (f:Nat):LP:=c.drop f++c.take f
def Ct (l:LP) (n:Nat):LP:=rot (Km l n) (Fg (Km l n) (Km l n).length)
theorem Lj (l:LP) (n:Nat):∀k,(Qg l n k).length<=k
 | 0=>Nat.le_refl _
 | k+1=>by
   have:=Lj l n k;unfold Qg;split
   .rw[List.length_append];simp;omega
   omega
theorem Po(l:LP) (n:Nat):(Km l n).length<=n:=by
 unfold Km;split
 .rw[List.length_reverse];exact Lj l n n
 exact Lj l n n
theorem Pj (c:LP):∀k,Fg c k<=k
 | 0=>Nat.le_refl _
 | k+1=>by
   have:=Pj c k;unfold Fg;split<;>omega
theorem ru(c:LP):∀k,0<k->Fg c k<k
 | 0,h=>absurd h (by omega)
 | k+1,_=>by
   have:=Pj c k;unfold Fg;split<;>omega
theorem Abq(h:(Vf i b m != 0)=true):Qg i b m++[gt i m]=Qg i b (m+1):=by
 rw[show Qg i b (m+1)=if Vf i b m != 0 then Qg i b m++[gt i m] else Qg i b m from rfl,if_pos h]
theorem Agx(h:(Vf i b m != 0)=false):Qg i b m=Qg i b (m+1):=by
 rw[show Qg i b (m+1)=if Vf i b m != 0 then Qg i b m++[gt i m] else Qg i b m from rfl,if_neg (by rw[h];simp)]
theorem Agd:gt (i.drop b) m=gt i (b+m):=by
 unfold gt;simp[List.getD,List.getElem?_drop]
theorem SpS.drop{w:World}  {l:LP} (h:SpS w (some ⟨b,m,none⟩) t l) {i:Nat} (c:i<=t):SpS w (some ⟨b,m+i*2,none⟩) (t-i) (l.drop i):=by
 refine⟨by rw[List.length_drop,h.1],?_⟩;rcases Nat.eq_zero_or_pos (t-i) with a|a
 .exact .inl a
 refine .inr ⟨b,m+i*2,rfl,λk d=>?_⟩;rw[Agd];have:=h.cells (k:=i+k) (by omega);rw[show m+(i+k)*2=m+i*2+k*2 by omega]at this;exact this
theorem OwS.spsg{w:World}   (h:OwS w b (.slice (some ⟨m,0,none⟩) v t) i) (c:i.length=v):SpS w (some ⟨m,0,none⟩) v i:=by
 subst c;let⟨A,a,e,_,d,_⟩:=h.sps;injection e with e1 e2 e3
 subst e1;exact d
theorem F0(f:Nat) (q:TypeId) (d e:Addr) (b c l m a:Nat) (j k:LP) (w:World) (n:Bf w f q #[.slice (some d) b l,.slice (some e) c m]) (g:SpS w (some d) b j) (i:SpS w (some e) c k) (o:b<=100000) (p:c<=100000) :
 Calls Tryz.prog 325 #[.slice (some ⟨f,0,none⟩) 2 a] w (Vi w (j++k)) :=
 Mn f (some d) (some e) b c l m a j k w o p g i (λh=>by cases h) (λh=>by cases h) (n.cell 0) (n.cell 1)
theorem Ns{c:LP}  (h:G0 (gt c b) (gt c (Fg c b))=true):b=Fg c (b+1):=by
 rw[show Fg c (b+1)=if G0 (gt c b) (gt c (Fg c b)) then b else Fg c b from rfl,if_pos h]
theorem Sp{c:LP}  (h:G0 (gt c b) (gt c (Fg c b))=false):Fg c b=Fg c (b+1):=by
 rw[show Fg c (b+1)=if G0 (gt c b) (gt c (Fg c b)) then b else Fg c b from rfl,if_neg (by rw[h];simp)]
theorem M4(h:b=m):Value.int .i64 (b:Int)=.int .i64 (m:Int):=by rw[h]
theorem Y3(a:¬n.1<=h.1):G0 h n=true:=by unfold G0;simp;omega
theorem Yz(a:h.1=n.1) (b:h.2<n.2):G0 h n=true:=by unfold G0;simp;omega
theorem Y5(a:n.1<=h.1) (b:¬h.1=n.1):G0 h n=false:=by unfold G0;simp;omega
theorem Y4(a:n.1<=h.1) (b:n.2<=h.2):G0 h n=false:=by unfold G0;simp;omega
theorem pg(b ai Y n:Nat) (l:LP) (w:World) (hl:n<=1000) (z:n<=Y) (W:SpS w (some ⟨b,ai,none⟩) n l) (hc:Bg l n=0) :
 Calls Tryz.prog 299 #[.slice (some ⟨b,ai,none⟩) n Y] w λe w'=>∃v,e=.returned (.tuple #[v,.int .i64 0])/\OwS w' w.heap.size v (Ct l n)/\Be w w':=by
 have HC:=Ar hc;have q:(Bg l n != 0)=false:=by rw[hc];rfl
 clear hc;go_enter Tryz.func299,Tryz.ntmps299
 go_wp2_with (go_at_call 57;refine rR (Dc _ _ _ l _ (by omega) z W) λw1 a1=>?_)
 go_loopw [5,19] (λs i wr=>∃k:Nat,k<=n/\i=.int .i64 k/\OwS wr w.heap.size s (Qg l n k)/\Be w wr) λ_ i _=>n-(intOf i).toNat
 case atStart=>exact⟨0,Nat.zero_le _,rfl,OwG.nil,a1⟩
 clear a1;obtain⟨k,hk,rfl,N,E⟩:=hrel;by_cases B:k<n
 .obtain⟨V,h2⟩:=(W.keep E).cells B;have u:=Lj l n k;by_cases P:(Vf l n k != 0)=true
  .go_wp2_with (first|(go_at_call 323;refine rR (Z0 _ _ _ _ k l _ (by omega) z (W.keep (Ao E _)) B) λT d=>?_;have hB:=(Bf.new wr 60 #[(gt l k).1,(gt l k).2]).keep d;have c0:=hB.cell 0;have c1:=hB.cell 1;simp only[List.getElem?_toArray,List.getElem?_cons_zero,List.getElem?_cons_succ]at c0 c1)|(at_builtin;refine Dl rfl _ _ rfl w.heap.size _ (Qg l n k) rfl (((N.alloc _).keep d).alloc _) T.heap.size 1 (gt l k) 60 rfl (Bf.new _ _ _) (by omega) (Nat.le_trans (Ao (An (Ao E _) d) _).size (Nat.le_refl _)) ?_;intro v' w' b6 b5 bb))
   exact⟨⟨k+1,by omega,by go_num,by rw[<-Abq P];exact b6,Bk (Ao (An (Ao E _) d) _) (((N.alloc _).keep d).alloc _) b5⟩,by simp[intOf];omega⟩
  have a6:(Vf l n k != 0)=false:=by simpa using P
  clear P
  go_wp2_with (go_at_call 323;refine rR (Z0 _ _ _ _ k l _ (by omega) z (W.keep (Ao E _)) B) λT d=>?_)
  exact⟨⟨k+1,by omega,by go_num,by rw[<-Agx a6];exact(N.alloc _).keep d,An (Ao E _) d⟩,by simp[intOf];omega⟩
 obtain rfl:n=k:=by omega
 by_cases ha:F4 l n n<0
 .have Z:Km l n=(Qg l n n).reverse:=by unfold Km;rw[if_pos ha]
  go_upto_region 13 with (first|(go_at_call 81;refine rR (S4 _ _ _ l _ (by omega) z (W.keep E)) λT d=>?_)|(go_at_call 324;refine rR (Oh _ w.heap.size (Qg l n n) _ (by have:=Lj l n n;omega) (N.keep d)) λw3⟨ad,a8⟩=>?_))
  have x:OwS w3 w.heap.size u5 (Km l n):=by rw[Z];exact ad
  have f:Be w w3:=Bk (An E d) (N.keep d) a8;clear Z N E d ad a8;obtain⟨D,rfl⟩:∃D:World,D=w3:=⟨_,rfl⟩
  rcases OwG.form x with⟨rfl,G⟩|⟨g,L,rfl,-,-,H,-⟩
  .have t:Ct l n=[]:=by unfold Ct;rw[G];rfl
   have r:=Ar t;clear t G x;go_wp2_with fail;go_loopw [8,40] (λs i wr=>i=.int .i64 0/\s=.int .i64 0/\wr=D) λ_ _ _=>0
   case atStart=>exact⟨rfl,rfl,rfl⟩
   obtain⟨rfl,rfl,rfl⟩:=hrel;go_wp2_with fail
   go_region_with (go_at_call 325;refine(Mn _ none none 0 0 0 0 _ [] [] _ (by omega) (by omega) ⟨rfl,.inl rfl⟩ ⟨rfl,.inl rfl⟩ (λ_=>rfl) (λ_=>rfl) (by simp) (by simp)).mono ?_;rintro e U ⟨C,rfl,o,h⟩)
   go_wp2_with fail
   go_ret2
   exact⟨C,rfl,by rw[r.out];exact OwG.lower o (Nat.le_trans f.size (by simp)),An (Aw (Ao f _)) h⟩
  have p:=x.spsg rfl;have u:=Po l n;let⟨c,j⟩:∃c,c=Km l n:=⟨_,rfl⟩
  rw[<-j]at H p u ⊢;have O:=Ar j;clear j;let⟨m,Q⟩:=gN c.length
  rw[Q]at H p u ⊢;have X:=Ar Q;clear Q x;go_wp2_with fail;go_loopw [8,40] (λs i wr=>∃k:Nat,k<=m/\i=.int .i64 k/\s=.int .i64 (Fg c k)/\Be D wr) λ_ i _=>m-(intOf i).toNat
  case atStart=>exact⟨0,Nat.zero_le _,rfl,rfl,bl0⟩
  obtain⟨k,hk,rfl,rfl,a⟩:=hrel;by_cases B:k<m
  .have hf:Fg c k<m:=by have:=Pj c k;omega
   let⟨V,h2⟩:=(p.keep a).cells B;let⟨h3,h4⟩:=(p.keep a).cells hf;have aw:g<wr.heap.size:=Bi V;simp only[Nat.zero_add]at V h2 h3 h4;go_wp2_with fail
   .exact⟨⟨k+1,by omega,by go_num,M4 (Ns (Yz ‹_› ‹_›)),Ao (Ao a _) _⟩,by simp[intOf];omega⟩
   .exact⟨⟨k+1,by omega,by go_num,M4 (Sp (Y4 ‹(gt c (Fg c k)).fst<=(gt c k).fst› ‹(gt c (Fg c k)).snd<=(gt c k).snd›)),Ao (Ao a _) _⟩,by simp[intOf];omega⟩
   .exact⟨⟨k+1,by omega,by go_num,M4 (Sp (Y5 ‹(gt c (Fg c k)).fst<=(gt c k).fst› ‹¬(gt c k).fst=(gt c (Fg c k)).fst›)),Ao (Ao a _) _⟩,by simp[intOf];omega⟩
   exact⟨⟨k+1,by omega,by go_num,M4 (Ns (Y3 ‹_›)),Ao (Ao a _) _⟩,by simp[intOf];omega⟩
  obtain rfl:m=k:=by omega
  have t:Ct l n=rot c (Fg c m):=by unfold Ct;rw[<-O.out,X.out]
  have r:=Ar t;clear t;by_cases R:0<m
  .have hf:=ru c m R;have b1:(Fg c m:Int)<=(L:Int):=by omega
   have b2:(Fg c m:Int)<=(m:Int):=by omega
   have b3:¬L=Fg c m:=by omega
   have b4:(m:Int)<=(L:Int):=by omega
   have J:SpS D (some ⟨g,Fg c m*2,none⟩) (m-Fg c m) (c.drop (Fg c m)):=by simpa using p.drop (i:=Fg c m) (by omega)
   have K:=p.take (i:=Fg c m) (by omega);have S:m-Fg c m<=100000:=by omega
   have hq2:Fg c m<=100000:=by omega
   go_wp2_with fail
   go_region_with (go_at_call 325;refine(F0 _ _ _ _ _ _ _ _ _ (c.drop (Fg c m)) (c.take (Fg c m)) _ (Bf.drew (Bf.new _ _ _)) (J.keep (Aw (Ao a _))) (K.keep (Aw (Ao a _))) S hq2).mono ?_;rintro e U ⟨C,rfl,o,h⟩)
   go_wp2_with fail
   go_ret2
   exact⟨C,rfl,by rw[r.out];exact OwG.lower o (Nat.le_trans (An f a).size (by simp)),An (Aw (Ao (An f a) _)) h⟩
  obtain rfl:m=0:=by omega
  have F:c=[]:=List.eq_nil_of_length_eq_zero X.out;have f0:Fg c 0=0:=rfl;have A:Ct l n=[]:=by rw[r.out,F];rfl
  have y:=Ar A;clear A r F;have M:SpS D (some ⟨g,0,none⟩) 0 []:=⟨rfl,.inl rfl⟩;by_cases I:L=0
  .subst I
   go_wp2_with fail
   go_region_with (go_at_call 325;refine(F0 _ _ _ _ _ _ _ _ _ [] [] _ (Bf.drew (Bf.new _ _ _)) (M.keep (Aw (Ao a _))) (M.keep (Aw (Ao a _))) (Nat.zero_le _) (Nat.zero_le _)).mono ?_;rintro e U ⟨C,rfl,o,h⟩)
   go_wp2_with fail
   go_ret2
   exact⟨C,rfl,by rw[y.out];exact OwG.lower o (Nat.le_trans (An f a).size (by simp)),An (Aw (Ao (An f a) _)) h⟩
  go_wp2_with fail
  go_region_with (go_at_call 325;refine(F0 _ _ _ _ _ _ _ _ _ [] [] _ (Bf.drew (Bf.new _ _ _)) (M.keep (Aw (Ao a _))) (M.keep (Aw (Ao a _))) (Nat.zero_le _) (Nat.zero_le _)).mono ?_;rintro e U ⟨C,rfl,o,h⟩)
  go_wp2_with fail
  go_ret2
  exact⟨C,rfl,by rw[y.out];exact OwG.lower o (Nat.le_trans (An f a).size (by simp)),An (Aw (Ao (An f a) _)) h⟩
 have Z:Km l n=Qg l n n:=by unfold Km;rw[if_neg ha]
 go_upto_region 13 with (go_at_call 81;refine rR (S4 _ _ _ l _ (by omega) z (W.keep E)) λT d=>?_)
 have x:OwS T w.heap.size u5 (Km l n):=by rw[Z];exact N.keep d
 have f:Be w T:=An E d;clear Z N E d;obtain⟨D,rfl⟩:∃D:World,D=T:=⟨_,rfl⟩
 rcases OwG.form x with⟨rfl,G⟩|⟨g,L,rfl,-,-,H,-⟩
 .have t:Ct l n=[]:=by unfold Ct;rw[G];rfl
  have r:=Ar t;clear t G x;go_wp2_with fail;go_loopw [8,40] (λs i wr=>i=.int .i64 0/\s=.int .i64 0/\wr=D) λ_ _ _=>0
  case atStart=>exact⟨rfl,rfl,rfl⟩
  obtain⟨rfl,rfl,rfl⟩:=hrel;go_wp2_with fail
  go_region_with (go_at_call 325;refine(Mn _ none none 0 0 0 0 _ [] [] _ (by omega) (by omega) ⟨rfl,.inl rfl⟩ ⟨rfl,.inl rfl⟩ (λ_=>rfl) (λ_=>rfl) (by simp) (by simp)).mono ?_;rintro e U ⟨C,rfl,o,h⟩)
  go_wp2_with fail
  go_ret2
  exact⟨C,rfl,by rw[r.out];exact OwG.lower o (Nat.le_trans f.size (by simp)),An (Aw (Ao f _)) h⟩
 have p:=x.spsg rfl;have u:=Po l n;let⟨c,j⟩:∃c,c=Km l n:=⟨_,rfl⟩
 rw[<-j]at H p u ⊢;have O:=Ar j;clear j;let⟨m,Q⟩:=gN c.length
 rw[Q]at H p u ⊢;have X:=Ar Q;clear Q x;go_wp2_with fail;go_loopw [8,40] (λs i wr=>∃k:Nat,k<=m/\i=.int .i64 k/\s=.int .i64 (Fg c k)/\Be D wr) λ_ i _=>m-(intOf i).toNat
 case atStart=>exact⟨0,Nat.zero_le _,rfl,rfl,bl0⟩
 obtain⟨k,hk,rfl,rfl,a⟩:=hrel;by_cases B:k<m
 .have hf:Fg c k<m:=by have:=Pj c k;omega
  let⟨V,h2⟩:=(p.keep a).cells B;let⟨h3,h4⟩:=(p.keep a).cells hf;have aw:g<wr.heap.size:=Bi V;simp only[Nat.zero_add]at V h2 h3 h4;go_wp2_with fail
  .exact⟨⟨k+1,by omega,by go_num,M4 (Ns (Yz ‹_› ‹_›)),Ao (Ao a _) _⟩,by simp[intOf];omega⟩
  .exact⟨⟨k+1,by omega,by go_num,M4 (Sp (Y4 ‹(gt c (Fg c k)).fst<=(gt c k).fst› ‹(gt c (Fg c k)).snd<=(gt c k).snd›)),Ao (Ao a _) _⟩,by simp[intOf];omega⟩
  .exact⟨⟨k+1,by omega,by go_num,M4 (Sp (Y5 ‹(gt c (Fg c k)).fst<=(gt c k).fst› ‹¬(gt c k).fst=(gt c (Fg c k)).fst›)),Ao (Ao a _) _⟩,by simp[intOf];omega⟩
  exact⟨⟨k+1,by omega,by go_num,M4 (Ns (Y3 ‹_›)),Ao (Ao a _) _⟩,by simp[intOf];omega⟩
 obtain rfl:m=k:=by omega
 have t:Ct l n=rot c (Fg c m):=by unfold Ct;rw[<-O.out,X.out]
 have r:=Ar t;clear t;by_cases R:0<m
 .have hf:=ru c m R;have b1:(Fg c m:Int)<=(L:Int):=by omega
  have b2:(Fg c m:Int)<=(m:Int):=by omega
  have b3:¬L=Fg c m:=by omega
  have b4:(m:Int)<=(L:Int):=by omega
  have J:SpS D (some ⟨g,Fg c m*2,none⟩) (m-Fg c m) (c.drop (Fg c m)):=by simpa using p.drop (i:=Fg c m) (by omega)
  have K:=p.take (i:=Fg c m) (by omega);have S:m-Fg c m<=100000:=by omega
  have hq2:Fg c m<=100000:=by omega
  go_wp2_with fail
  go_region_with (go_at_call 325;refine(F0 _ _ _ _ _ _ _ _ _ (c.drop (Fg c m)) (c.take (Fg c m)) _ (Bf.drew (Bf.new _ _ _)) (J.keep (Aw (Ao a _))) (K.keep (Aw (Ao a _))) S hq2).mono ?_;rintro e U ⟨C,rfl,o,h⟩)
  go_wp2_with fail
  go_ret2
  exact⟨C,rfl,by rw[r.out];exact OwG.lower o (Nat.le_trans (An f a).size (by simp)),An (Aw (Ao (An f a) _)) h⟩
 obtain rfl:m=0:=by omega
 have F:c=[]:=List.eq_nil_of_length_eq_zero X.out;have f0:Fg c 0=0:=rfl;have A:Ct l n=[]:=by rw[r.out,F];rfl
 have y:=Ar A;clear A r F;have M:SpS D (some ⟨g,0,none⟩) 0 []:=⟨rfl,.inl rfl⟩;by_cases I:L=0
 .subst I
  go_wp2_with fail
  go_region_with (go_at_call 325;refine(F0 _ _ _ _ _ _ _ _ _ [] [] _ (Bf.drew (Bf.new _ _ _)) (M.keep (Aw (Ao a _))) (M.keep (Aw (Ao a _))) (Nat.zero_le _) (Nat.zero_le _)).mono ?_;rintro e U ⟨C,rfl,o,h⟩)
  go_wp2_with fail
  go_ret2
  exact⟨C,rfl,by rw[y.out];exact OwG.lower o (Nat.le_trans (An f a).size (by simp)),An (Aw (Ao (An f a) _)) h⟩
 go_wp2_with fail
 go_region_with (go_at_call 325;refine(F0 _ _ _ _ _ _ _ _ _ [] [] _ (Bf.drew (Bf.new _ _ _)) (M.keep (Aw (Ao a _))) (M.keep (Aw (Ao a _))) (Nat.zero_le _) (Nat.zero_le _)).mono ?_;rintro e U ⟨C,rfl,o,h⟩)
 go_wp2_with fail
 go_ret2
 exact⟨C,rfl,by rw[y.out];exact OwG.lower o (Nat.le_trans (An f a).size (by simp)),An (Aw (Ao (An f a) _)) h⟩
theorem Ev(a b d c f g:Int) (w:World) :
 Calls Tryz.prog 302 #[.agg #[.int .i64 a,.int .i64 b],.agg #[.int .i64 d,.int .i64 c],.agg #[.int .i64 f,.int .i64 g]] w λe h=>e=.returned (.int .i64 (Bs (a,b) (d,c) (f,g)))/\Below w.heap.size w h:=by
 go_enter Tryz.func302,Tryz.ntmps302;go_wp2;go_ret;exact⟨rfl,Ao (Ao (Ao (Below.refl _ _) _) _) _⟩
theorem Mp(a b d c f g:Int) (w:World) :
 Calls Tryz.prog 347 #[.agg #[.int .i64 a,.int .i64 b],.agg #[.int .i64 d,.int .i64 c],.agg #[.int .i64 f,.int .i64 g]] w λe h=>e=.returned (.int .i64 (Bs (a,b) (d,c) (f,g)))/\Below w.heap.size w h:=by
 go_enter Tryz.func347,Tryz.ntmps347;go_wp2;go_ret;exact⟨rfl,Ao (Ao (Ao (Below.refl _ _) _) _) _⟩
theorem xv(a b:Int) (w:World) :
 Calls Tryz.prog 326 #[.agg #[.int .i64 a,.int .i64 b]] w λe c=>e=.returned (.bool (Cc 1048576 (a,b)))/\Below w.heap.size w c:=by
 go_enter Tryz.func326,Tryz.ntmps326;go_wp2;all_goals go_ret
 all_goals exact⟨Bn (by simp[Cc]<;>omega),Ao (Below.refl _ _) _⟩
theorem Abp(a b:Int) (w:World) :
 Calls Tryz.prog 320 #[.agg #[.int .i64 a,.int .i64 b]] w λe c=>e=.returned (.bool (Cc 4194304 (a,b)))/\Below w.heap.size w c:=by
 go_enter Tryz.func320,Tryz.ntmps320;go_wp2;all_goals go_ret
 all_goals exact⟨Bn (by simp[Cc]<;>omega),Ao (Below.refl _ _) _⟩
theorem G5(a b:Int) (w:World) :
 Calls Tryz.prog 180 #[.agg #[.int .i64 a,.int .i64 b]] w λe c=>e=.returned (.bool (Cc 1048576 (a,b)))/\Below w.heap.size w c:=by
 go_enter Tryz.func180,Tryz.ntmps180;go_wp2;all_goals go_ret
 all_goals exact⟨Bn (by simp[Cc]<;>omega),Ao (Below.refl _ _) _⟩
theorem Dz(a b:Int) (w:World) :
 Calls Tryz.prog 56 #[.agg #[.int .i64 a,.int .i64 b]] w λe c=>e=.returned (.bool (Cc 1048576 (a,b)))/\Below w.heap.size w c:=by
 go_enter Tryz.func56,Tryz.ntmps56;go_wp2;all_goals go_ret
 all_goals exact⟨Bn (by simp[Cc]<;>omega),Ao (Below.refl _ _) _⟩
def Adt (x y z:Int):Int:=if z<(if y<x then y else x) then z else if y<x then y else x
def yq (m:Int):Int:=if 0<m then 1 else if m=0 then 0 else -1
def Hz (a b c q:Int×Int):Int :=
 if Cc 1048576 q || Cc 1048576 a || Cc 1048576 b || Cc 1048576 c then -1
 else if Bs a b c=0 then -1
 else if Bs a b c<0 then yq (Adt (Bs a c q) (Bs c b q) (Bs b a q))
 else yq (Adt (Bs a b q) (Bs b c q) (Bs c a q))
theorem Aqh{w:World} {q:Addr} {v:Value} (b:w.cell? u=some j) (c:w.cell? q=some v):∀x∈[(u,j),(q,v)],w.cell? x.1=some x.2:=by
 intro x a;simp at a;rcases a with rfl|rfl
 .exact b
 exact c
theorem Wq{c q:Int×Int} (a:(Cc 1048576 q || Cc 1048576 h || Cc 1048576 n || Cc 1048576 c)=false) (b:Bs h n c=0):Hz h n c q = -1:=by
 unfold Hz;rw[if_neg (by rw[a];simp),if_pos b]
theorem fm{c q:Int×Int} (a:(Cc 1048576 q || Cc 1048576 h || Cc 1048576 n || Cc 1048576 c)=false) (b:¬Bs h n c=0) (d:Bs h n c<0):Hz h n c q=yq (Adt (Bs h c q) (Bs c n q) (Bs n h q)):=by
 unfold Hz;rw[if_neg (by rw[a];simp),if_neg b,if_pos d]
theorem fk{c q:Int×Int} (a:(Cc 1048576 q || Cc 1048576 h || Cc 1048576 n || Cc 1048576 c)=false) (b:¬Bs h n c=0) (d:¬Bs h n c<0):Hz h n c q=yq (Adt (Bs h n q) (Bs n c q) (Bs c h q)):=by
 unfold Hz;rw[if_neg (by rw[a];simp),if_neg b,if_neg d]
theorem Aiw{m M:Int} (h:p=yq m) (b:M=m) (a:0<M):1=p:=by
 subst b;rw[h];unfold yq;rw[if_pos a]
theorem Aix{m M:Int} (h:p=yq m) (c:M=m) (a:(M == 0)=true):0=p:=by
 subst c;have b:M=0:=by simpa using a
 rw[h,b];rfl
theorem Aiv{m M:Int} (h:p=yq m) (c:M=m) (d:M<=0) (a:(M == 0)=false) : -1=p:=by
 subst c;have b:¬M=0:=by simpa using a
 rw[h];unfold yq;rw[if_neg (by omega),if_neg b]
theorem fj{c:Int×Int} (a:Cc 1048576 s=false) (b:Cc 1048576 h=false) (d:Cc 1048576 n=false) (e:Cc 1048576 c=false):(Cc 1048576 s || Cc 1048576 h || Cc 1048576 n || Cc 1048576 c)=false:=by
 rw[a,b,d,e];rfl
theorem Jr{c:Int×Int} (a:(Cc 1048576 s || Cc 1048576 h || Cc 1048576 n || Cc 1048576 c)=true):Hz h n c s = -1:=by
 unfold Hz;rw[if_pos a]
theorem ri(b f Q:Nat) (l:LP) (x y:Int) (w:World) (au:3<=Q) (X:SpS w (some ⟨b,f,none⟩) 3 l) :
 Calls Tryz.prog 304 #[.slice (some ⟨b,f,none⟩) 3 Q,.agg #[x,y]] w (Bz w (Hz (gt l 0) (gt l 1) (gt l 2) (x,y))):=by
 let⟨p0,p1⟩:=X.cells (k:=0) (by omega);let⟨p2,p3⟩:=X.cells (k:=1) (by omega);let⟨p4,p5⟩:=X.cells (k:=2) (by omega);simp only[Nat.zero_mul,Nat.add_zero,Nat.one_mul,Nat.reduceMul]at p0 p1 p2 p3 p4 p5;generalize gt l 0=P0 at *
 generalize gt l 1=P1 at *
 generalize gt l 2=P2 at *
 obtain⟨j,m⟩:=P0;obtain⟨n,o⟩:=P1;obtain⟨c0,r⟩:=P2;have a7:b<w.heap.size:=Bi p0;clear X;go_enter Tryz.func304,Tryz.ntmps304
 go_upto_region 3 with (go_at_call 326;refine rR (xv _ _ _) λC hb=>?_;(first|(have i:=Cls.call i hb)|(have i:Cls w [(⟨w.heap.size,0,none⟩,.int .i64 x),(⟨w.heap.size,1,none⟩,.int .i64 y),(⟨b,f,none⟩,.int .i64 j),(⟨b,f+1,none⟩,.int .i64 m),(⟨b,f+2,none⟩,.int .i64 n),(⟨b,f+2+1,none⟩,.int .i64 o),(⟨b,f+4,none⟩,.int .i64 c0),(⟨b,f+4+1,none⟩,.int .i64 r)] C:=Cls.call ⟨(Ao (Below.refl _ _) _),by simp only[List.mem_cons,List.not_mem_nil,forall_eq_or_imp,or_false,forall_eq];go_simp⟩ hb));clear hb;have P:=i.2;simp only[List.mem_cons,List.not_mem_nil,forall_eq_or_imp,or_false,forall_eq]at P)
 .go_ret;exact⟨Bm (Jr (by simp[*])).symm,i.1⟩
 .go_ret;exact⟨Bm (Jr (by simp[*])).symm,i.1⟩
 .go_ret;exact⟨Bm (Jr (by simp[*])).symm,i.1⟩
 .go_ret;exact⟨Bm (Jr (by simp[*])).symm,i.1⟩
 have Z:=Ar (fj (by simpa using ‹¬Cc 1048576 (x,y)=true›) (by simpa using ‹¬Cc 1048576 (j,m)=true›) (by simpa using ‹¬Cc 1048576 (n,o)=true›) ‹Cc 1048576 (c0,r)=false›);clear p0 p1 p2 p3 p4 p5;have l0:w.heap.size<C.heap.size:=Bi P.1;have l1:b<C.heap.size:=Nat.lt_of_lt_of_le a7 i.1.size;have l2:b<C.heap.size+1:=by omega
 have l3:b<C.heap.size+1+1:=by omega
 obtain⟨x0,x1,y0,y1,y2,y3,y4,y5⟩:=P;go_cut [5,6,7] (λs5 s6 s7 Y=>∃z s t:Nat,s5=.pointer (some ⟨z,0,none⟩)/\s6=.pointer (some ⟨s,0,none⟩)/\s7=.pointer (some ⟨t,0,none⟩)/\z≠s/\z≠t/\s≠t/\w.heap.size<z/\w.heap.size<s/\w.heap.size<t/\Bf Y z 60 #[j,m]/\Bf Y s 60 #[n,o]/\Bf Y t 60 #[c0,r]/\Cls w [(⟨w.heap.size,0,none⟩,.int .i64 x),(⟨w.heap.size,1,none⟩,.int .i64 y)] Y)
 case first =>
  go_region;all_goals go_wp2_with fail
  all_goals go_meet
  all_goals exact⟨_,_,_,rfl,rfl,rfl,by omega,by omega,by omega,by omega,by omega,by omega,by first|exact(((Bf.new _ _ _).alloc _).alloc _).drew|exact((Bf.new2 _ _ _ _).alloc _).drew|exact(Bf.new3 _ _ _ _ _).drew,by first|exact(((Bf.new _ _ _).alloc _).alloc _).drew|exact((Bf.new2 _ _ _ _).alloc _).drew|exact(Bf.new3 _ _ _ _ _).drew,by first|exact(((Bf.new _ _ _).alloc _).alloc _).drew|exact((Bf.new2 _ _ _ _).alloc _).drew|exact(Bf.new3 _ _ _ _ _).drew,Cls.call ⟨i.1,Aqh x0 x1⟩ (Aw (Ao (Ao blA _) _))⟩
 clear x0 x1 y0 y1 y2 y3 y4 y5 l0 l1 l2 l3 i;obtain⟨z,s,t,rfl,rfl,rfl,bu,bw,bx,g5,g6,g7,V,N,O,i⟩:=hcut;have E:=V.cell 0;have F:=V.cell 1;have G:=N.cell 0;have H:=N.cell 1;have I:=O.cell 0;have J:=O.cell 1;simp only[List.getElem?_toArray,List.getElem?_cons_zero,List.getElem?_cons_succ]at E F G H I J;by_cases d:Bs (j,m) (n,o) (c0,r)=0
 .have B:=Ar (Wq (q:=(x,y)) Z.out d);have q1:(Bs (j,m) (n,o) (c0,r) == 0)=true:=by rw[d];rfl
  clear d
  go_wp2_with (go_at_call 302;refine rR (Ev _ _ _ _ _ _ _) λw2 a=>?_)
  go_ret;exact⟨Bm B.out.symm,An i.1 a⟩
 have q1:(Bs (j,m) (n,o) (c0,r) == 0)=false:=by rw[beq_eq_false_iff_ne];exact d
 by_cases W:Bs (j,m) (n,o) (c0,r)<0
 .have B:=Ar (fm (q:=(x,y)) Z.out d W);clear d
  go_upto_region 9 with (go_at_call 302;refine rR (Ev _ _ _ _ _ _ _) λw2 a=>?_;have d6:=N.keep a;have d7:=O.keep a;have R:=Aq a G;have S:=Aq a H;have T:=Aq a I;have U:=Aq a J;have bc:=d6.frozen 0;have bd:=d6.frozen 1;have bl:=d7.frozen 0;have bm:=d7.frozen 1)
  have g:=(i.call a);have v:=g.2;simp only[List.mem_cons,List.not_mem_nil,forall_eq_or_imp,or_false,forall_eq]at v;have K:=Aq a E;have L:=Aq a F;refine Bh w [(⟨w.heap.size,0,none⟩,.int .i64 x),(⟨w.heap.size,1,none⟩,.int .i64 y),(⟨z,0,none⟩,.int .i64 j),(⟨z,1,none⟩,.int .i64 m),(⟨s,0,none⟩,.int .i64 c0),(⟨s,1,none⟩,.int .i64 r),(⟨t,0,none⟩,.int .i64 n),(⟨t,1,none⟩,.int .i64 o)] (by kernel_rfl) (by kernel_rfl) ⟨Ba (Ba (Ba (Ba g.1 (p:=⟨s,0,none⟩) (Nat.le_of_lt g6) _) (p:=⟨s,1,none⟩) (Nat.le_of_lt g6) _) (p:=⟨t,0,none⟩) (Nat.le_of_lt g7) _) (p:=⟨t,1,none⟩) (Nat.le_of_lt g7) _,by simp only[List.mem_cons,List.not_mem_nil,forall_eq_or_imp,or_false,forall_eq];go_simp⟩ ?_
  repeat
   apply Cx
   .rfl
   .intro C u;have P:=u.2;simp only[List.mem_cons,List.not_mem_nil,forall_eq_or_imp,or_false,forall_eq]at P
    go_simp
    first|rfl|exact Bw u (Ev _ _ _ _ _ _ _)
   go_simp
  refine wpQuiet_nil ?_;intro C c;have h:=c.1;clear c v K L g;let⟨M,A⟩:∃M,M=Adt (Bs (j,m) (c0,r) (x,y)) (Bs (c0,r) (n,o) (x,y)) (Bs (n,o) (j,m) (x,y)):=⟨_,rfl⟩
  have D:=Ar A;unfold Adt at A;rw[<-A];clear A;go_wp2_with fail
  .go_ret;exact⟨Bm (Aiw B.out D.out (by assumption)),h⟩
  .go_ret;exact⟨Bm (Aix B.out D.out (by assumption)),h⟩
  go_ret;exact⟨Bm (Aiv B.out D.out (by assumption) (by assumption)),h⟩
 have B:=Ar (fk (q:=(x,y)) Z.out d W);clear d
 go_upto_region 9 with (go_at_call 302;refine rR (Ev _ _ _ _ _ _ _) λw2 a=>?_)
 have g:=i.call a;have v:=g.2;simp only[List.mem_cons,List.not_mem_nil,forall_eq_or_imp,or_false,forall_eq]at v;have K:=Aq a E;have L:=Aq a F;have R:=Aq a G;have S:=Aq a H;have T:=Aq a I;have U:=Aq a J;refine Bh w [(⟨w.heap.size,0,none⟩,.int .i64 x),(⟨w.heap.size,1,none⟩,.int .i64 y),(⟨z,0,none⟩,.int .i64 j),(⟨z,1,none⟩,.int .i64 m),(⟨s,0,none⟩,.int .i64 n),(⟨s,1,none⟩,.int .i64 o),(⟨t,0,none⟩,.int .i64 c0),(⟨t,1,none⟩,.int .i64 r)] (by kernel_rfl) (by kernel_rfl) ⟨g.1,by simp only[List.mem_cons,List.not_mem_nil,forall_eq_or_imp,or_false,forall_eq];go_simp⟩ ?_
 repeat
  apply Cx
  .rfl
  .intro C u;have P:=u.2;simp only[List.mem_cons,List.not_mem_nil,forall_eq_or_imp,or_false,forall_eq]at P
   go_simp
   first|rfl|exact Bw u (Ev _ _ _ _ _ _ _)
  go_simp
 refine wpQuiet_nil ?_;intro C c;have h:=c.1;clear c v K L R S T U g;let⟨M,A⟩:∃M,M=Adt (Bs (j,m) (n,o) (x,y)) (Bs (n,o) (c0,r) (x,y)) (Bs (c0,r) (j,m) (x,y)):=⟨_,rfl⟩
 have D:=Ar A;unfold Adt at A;rw[<-A];clear A;go_wp2_with fail
 .go_ret;exact⟨Bm (Aiw B.out D.out (by assumption)),h⟩
 .go_ret;exact⟨Bm (Aix B.out D.out (by assumption)),h⟩
 go_ret;exact⟨Bm (Aiv B.out D.out (by assumption) (by assumption)),h⟩
end Go.Proofs.YtlogblbfbihleaaGreat
