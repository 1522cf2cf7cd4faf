/- Lean texts of the claim. -/
import Derived.Test.YtpbchbcdgikonaaGreatQ33
import Derived.BigRegion
namespace Go.Proofs.YtpbchbcdgikonaaGreat
set_option linter.unusedVariables false
set_option linter.unusedSimpArgs false
set_option maxRecDepth 100000
set_option maxHeartbeats 4000000
open Go.RowKit
def ew (c:PlcP):List Value:=[.int .i64 c.ga,.int .i64 c.us,.int .i64 c.cp,.bool c.fl,.int .i64 c.qu,.int .i64 c.x,.int .i64 c.y]
theorem Rj (c:PlcP):(ew c).length=7:=rfl
theorem Yq (c:PlcP):∀u∈ew c,u.oneCell'=true:=by
 intro u hu;simp[ew] at hu;rcases hu with rfl|rfl|rfl|rfl|rfl|rfl|rfl<;>rfl
theorem Abq:(Tryz.prog.info? 51).map (fun i=>(i.zero,i.size,i.bytes))=some (some (.agg #[.int .i64 0,.int .i64 0,.int .i64 0,.bool false,.int .i64 0,.int .i64 0,.int .i64 0]),7,56):=by kernel_rfl
def R4 (w:World) (base:Nat) (v:Value) (l:List PlcP):Prop:=OwG 51 7 ew w base v l
def Afo (w:World) (b o:Nat) (c:PlcP):Prop:=w.cell? ⟨b,o,none⟩=some (.int .i64 c.ga)/\w.cell? ⟨b,o+1,none⟩=some (.int .i64 c.us)/\w.cell? ⟨b,o+2,none⟩=some (.int .i64 c.cp)/\w.cell? ⟨b,o+3,none⟩=some (.bool c.fl)/\w.cell? ⟨b,o+4,none⟩=some (.int .i64 c.qu)/\w.cell? ⟨b,o+5,none⟩=some (.int .i64 c.x)/\w.cell? ⟨b,o+6,none⟩=some (.int .i64 c.y)
def PlS (w:World) (A:Option Addr) (n:Nat) (l:List PlcP):Prop:=l.length=n/\(n=0\/∃b off,A=some ⟨b,off,none⟩/\∀k,k<n->Afo w b (off+k*7) (plc l k))
theorem Afo.keep {w w':World} {b o:Nat} {c:PlcP} (h:Afo w b o c) (hb:Below w.heap.size w w'):Afo w' b o c :=
 ⟨Aq hb h.1,Aq hb h.2.1,Aq hb h.2.2.1,Aq hb h.2.2.2.1,Aq hb h.2.2.2.2.1,Aq hb h.2.2.2.2.2.1,Aq hb h.2.2.2.2.2.2⟩
theorem PlS.keep {w w':World} {A:Option Addr} {n:Nat} {l:List PlcP} (h:PlS w A n l) (hb:Below w.heap.size w w'):PlS w' A n l:=by
 refine⟨h.1,?_⟩;rcases h.2 with h2|⟨b,off,rfl,h2⟩
 ·exact .inl h2
 ·exact .inr ⟨b,off,rfl,fun k hk=>(h2 k hk).keep hb⟩
theorem PlS.at_ {w:World} {A:Option Addr} {n:Nat} {l:List PlcP} (h:PlS w A n l) {k:Nat} (hk:k<n):∃b off,A=some ⟨b,off,none⟩/\∀k,k<n->Afo w b (off+k*7) (plc l k):=by
 rcases h.2 with h2|⟨b,off,rfl,h2⟩
 ·omega
 ·exact⟨b,off,rfl,h2⟩
theorem Xp {l:List PlcP} {k:Nat} (h:k<l.length):l[k]? = some (plc l k):=by
 unfold plc;rw[List.getD,List.getElem?_eq_getElem h];rfl
theorem R4.cells {w:World} {base g cap n:Nat} {l:List PlcP} (h:R4 w base (.slice (some ⟨g,0,none⟩) n cap) l) (hn:l.length=n) {k:Nat} (hk:k<n):Afo w g (k*7) (plc l k):=by
 subst hn
 have c:∀j,j<7->w.cell? ⟨g,k*7+j,none⟩=(ew (plc l k))[j]? := fun j hj=>by
  rw[OwG.cells h (k*7+j) (by omega),Bp Rj l k j _ (Xp hk) hj]
 exact⟨(c 0 (by omega)).trans rfl,(c 1 (by omega)).trans rfl,(c 2 (by omega)).trans rfl,(c 3 (by omega)).trans rfl,(c 4 (by omega)).trans rfl,(c 5 (by omega)).trans rfl,(c 6 (by omega)).trans rfl⟩
theorem R4.pls {w:World} {base:Nat} {v:Value} {l:List PlcP} (h:R4 w base v l):∃A c,v=.slice A l.length c/\l.length<=c/\c<=9223372036854775807/\PlS w A l.length l:=by
 rcases OwG.form h with ⟨rfl,rfl⟩|⟨g,cap,rfl,g1,g2,g3,g4⟩
 ·exact⟨none,0,rfl,Nat.le_refl _,by omega,rfl,.inl rfl⟩
 ·exact⟨_,cap,rfl,g3,by unfold maxLen at g4;exact g4,rfl,.inr ⟨g,0,rfl,fun k hk=>by rw[Nat.zero_add];exact R4.cells h rfl hk⟩⟩
theorem Ij {w:World} {ops:Array Oper} {rest:List Oper} {o:Oper} {a:Act} {Q:Exit->Act->World->Prop} (hgd:o.guard=none) (s x:Operand)
 (ho:o.op=.call { callee:=.builtin .append,args:=#[s,x],argTypes:=#[36,36] })
 (base:Nat) (v:Value) (l:List PlcP) (hs:a.eval s=v) (hown:R4 w base v l)
 (bx c:Nat) (p:PlcP) (tb:TypeId) (hx:a.eval x=.slice (some ⟨bx,0,none⟩) 1 c) (hnew:Bb w bx tb #[.int .i64 p.ga,.int .i64 p.us,.int .i64 p.cp,.bool p.fl,.int .i64 p.qu,.int .i64 p.x,.int .i64 p.y])
 (hlen:l.length<=1000000) (hbase:base<=w.heap.size)
 (h:∀v' w',R4 w' base v' (l++[p])->w.grownBy w' v.ownBlock->(v'.ownBlock=v.ownBlock\/v'.ownBlock=some w.heap.size)->wpList Tryz.prog ops Q rest (a.put o.dst v') w') :
 wpList Tryz.prog ops Q (o::rest) a w :=
 Cr hgd s x 36 ho ew base 51 (.agg #[.int .i64 0,.int .i64 0,.int .i64 0,.bool false,.int .i64 0,.int .i64 0,.int .i64 0]) 7 56 Tryz.underlying36 Abq rfl (by omega) Rj Yq v l hs hown bx c p tb hx hnew (by unfold maxLen;omega) (by omega) hbase h
structure ShX where
 A:Option Addr
 n:Nat
 c:Nat
 gr:Int
 mt:Bool
 ax:Int
 ay:Int
def y7 (x:ShX):List Value:=[.slice x.A x.n x.c,.int .i64 x.gr,.bool x.mt,.int .i64 x.ax,.int .i64 x.ay]
theorem Yp (x:ShX):(y7 x).length=5:=rfl
theorem yz (x:ShX):∀u∈y7 x,u.oneCell'=true:=by
 intro u hu;simp[y7] at hu;rcases hu with rfl|rfl|rfl|rfl|rfl<;>rfl
theorem Ag3:(Tryz.prog.info? 104).map (fun i=>(i.zero,i.size,i.bytes))=some (some (.agg #[.slice none 0 0,.int .i64 0,.bool false,.int .i64 0,.int .i64 0]),5,56):=by kernel_rfl
def ShV (w:World) (base:Nat) (x:ShX) (s:Shp):Prop:=x.gr=s.grain/\x.mt=s.mat/\x.ax=s.anc.1/\x.ay=s.anc.2/\ElS w base (.slice x.A x.n x.c) s.poly/\x.c<=9223372036854775807
theorem ShV.keep {w w':World} {base:Nat} {x:ShX} {s:Shp} (h:ShV w base x s) (hb:Below w.heap.size w w'):ShV w' base x s:=⟨h.1,h.2.1,h.2.2.1,h.2.2.2.1,h.2.2.2.2.1.keep hb,h.2.2.2.2.2⟩
def Wm (w:World) (base:Nat) (v:Value) (S:List Shp):Prop :=
 ∃xs:List ShX,OwG 104 5 y7 w base v xs/\xs.length=S.length/\∀(i:Nat) (x:ShX),xs[i]? = some x->ShV w base x (shp S i)
theorem Wm.nil {w:World} {base:Nat}:Wm w base (.slice none 0 0) []:=⟨[],OwG.nil,rfl,by simp⟩
theorem Wm.keep {w w':World} {base:Nat} {v:Value} {S:List Shp} (h:Wm w base v S) (hb:Below w.heap.size w w'):Wm w' base v S:=by
 obtain⟨xs,h1,h2,h3⟩:=h;exact⟨xs,h1.keep hb,h2,fun i x hx=>(h3 i x hx).keep hb⟩
theorem Wm.lower {w:World} {base base':Nat} {v:Value} {S:List Shp} (h:Wm w base v S) (hb:base'<=base):Wm w base' v S:=by
 obtain⟨xs,h1,h2,h3⟩:=h;exact⟨xs,h1.lower hb,h2,fun i x hx=>⟨(h3 i x hx).1,(h3 i x hx).2.1,(h3 i x hx).2.2.1,(h3 i x hx).2.2.2.1,(h3 i x hx).2.2.2.2.1.lower hb,(h3 i x hx).2.2.2.2.2⟩⟩
theorem Wm.own {w:World} {base:Nat} {v:Value} {S:List Shp} (h:Wm w base v S):∃xs:List ShX,OwG 104 5 y7 w base v xs:=by
 obtain⟨xs,h1,-⟩:=h;exact⟨xs,h1⟩
theorem Wm.shs {w:World} {base:Nat} {v:Value} {S:List Shp} (h:Wm w base v S) (hl:S.length<=1000000):∃A c,v=.slice A S.length c/\S.length<=c/\c<=9223372036854775807/\ShS w A S.length S:=by
 obtain⟨xs,h1,h2,h3⟩:=h;rcases OwG.form h1 with ⟨rfl,rfl⟩|⟨g,cap,rfl,g1,g2,g3,g4⟩
 ·have:S=[]:=List.eq_nil_of_length_eq_zero (by rw[<-h2];rfl)
  subst this;exact⟨none,0,rfl,Nat.le_refl _,by omega,rfl,by simp,.inl rfl⟩
 ·refine⟨_,cap,by rw[<-h2],by rw[<-h2];exact g3,by unfold maxLen at g4;exact g4,rfl,by omega,.inr ⟨g,0,rfl,fun k hk=>?_⟩⟩
  have hkv:k<xs.length:=by rw[h2];exact hk
  obtain⟨x,hx⟩:∃u,xs[k]? = some u:=⟨_,List.getElem?_eq_getElem hkv⟩
  have c:∀j,j<5->w.cell? ⟨g,k*5+j,none⟩=(y7 x)[j]? := fun j hj=>by
   rw[OwG.cells h1 (k*5+j) (by omega),Bp Yp xs k j _ hx hj]
  obtain⟨e1,e2,e3,e4,⟨A,c',e5,e6,e7,e8,-⟩,e9⟩:=h3 k x hx;obtain⟨A',n',cc',gr,mt,ax,ay⟩:=x;dsimp only at e1 e2 e3 e4 e5 e9;injection e5 with q1 q2 q3
  subst q1 q2 q3;rw[Nat.zero_add];exact⟨A',cc',(c 0 (by omega)).trans rfl,e6,e9,e7,e8,(c 1 (by omega)).trans (by rw[<-e1];rfl),(c 2 (by omega)).trans (by rw[<-e2];rfl),(c 3 (by omega)).trans (by rw[<-e3];rfl),(c 4 (by omega)).trans (by rw[<-e4];rfl)⟩
theorem OwG.apart {α β:Type} {e e':TypeId} {s s':Nat} {en:α->List Value} {en':β->List Value} {w:World} {b b':Nat} {v v':Value} {l:List α} {l':List β} (h:OwG e s en w b v l) (h':OwG e' s' en' w b' v' l') (hne:e≠e'):v.ownBlock=none\/v.ownBlock≠v'.ownBlock:=by
 rcases h.2 with ⟨ev,_⟩|⟨g,cap,cur,ev,_,hh,_⟩
 ·left;rw[ev];rfl
 ·right
  rcases h'.2 with ⟨ev',_⟩|⟨g',cap',cur',ev',_,hh',_⟩
  ·rw[ev,ev'];simp[Value.ownBlock]
  ·rw[ev,ev']
   intro e0;have:g=g':=by simpa[Value.ownBlock] using e0
   subst this;rw[hh] at hh';injection hh' with hh'
   injection hh' with _ ht
   exact hne ht
theorem OwG.neB {α:Type} {e t:TypeId} {s:Nat} {en:α->List Value} {w:World} {b g:Nat} {v:Value} {l:List α} {cs:Array Value} (h:OwG e s en w b v l) (hB:Bb w g t cs) (hne:t≠e):some g≠v.ownBlock:=by
 intro he;rcases h.2 with ⟨ev,_⟩|⟨g',cap,cur,ev,_,hh,_⟩
 ·rw[ev] at he;simp[Value.ownBlock] at he
 ·rw[ev] at he
  have:g=g':=by simpa[Value.ownBlock] using he
  subst this;have hB':w.heap[g]? = some (.cells cs t (0,0)):=hB;rw[hh] at hB';injection hB' with hB'
  injection hB' with _ ht
  exact hne ht.symm
theorem Wm.grown {w w':World} {base:Nat} {v:Value} {S:List Shp} {α:Type} {e':TypeId} {s':Nat} {en':α->List Value} {b':Nat} {v':Value} {l':List α} (h:Wm w base v S) (h':OwG e' s' en' w b' v' l') (hne:104≠e') (hne2:49≠e') (hg:w.grownBy w' v'.ownBlock):Wm w' base v S:=by
 obtain⟨xs,h1,h2,h3⟩:=h;refine⟨xs,OwG.kept h1 hg (OwG.apart h1 h' hne),h2,fun i x hx=>?_⟩
 obtain⟨e1,e2,e3,e4,e5,e6⟩:=h3 i x hx;refine⟨e1,e2,e3,e4,e5.grown hg ?_,e6⟩;intro k cs fr _ hh he;rcases h'.2 with ⟨ev,_⟩|⟨g,cap,cur,ev,_,hh',_⟩
 ·rw[ev] at he;simp[Value.ownBlock] at he
 ·rw[ev] at he
  have:k=g:=by simpa[Value.ownBlock] using he
  subst this;rw[hh] at hh';injection hh' with hh'
  injection hh' with _ ht
  exact hne2 ht
theorem Acj {S:List Shp} {s:Shp} {i:Nat} (h:i<S.length):shp (S++[s]) i=shp S i:=by
 unfold shp;rw[List.getD,List.getD,List.getElem?_append_left h]
theorem vf {S:List Shp} {s:Shp}:shp (S++[s]) S.length=s:=by
 unfold shp;simp[List.getD]
theorem R9 {w:World} {ops:Array Oper} {rest:List Oper} {o:Oper} {a:Act} {Q:Exit->Act->World->Prop} (hgd:o.guard=none) (s x:Operand)
 (ho:o.op=.call { callee:=.builtin .append,args:=#[s,x],argTypes:=#[82,82] })
 (base:Nat) (v:Value) (S:List Shp) (hs:a.eval s=v) (hown:Wm w base v S)
 (bx c:Nat) (A:Option Addr) (n c':Nat) (gr:Int) (mt:Bool) (ax ay:Int) (sh:Shp) (tb:TypeId) (hx:a.eval x=.slice (some ⟨bx,0,none⟩) 1 c) (hnew:Bb w bx tb #[.slice A n c',.int .i64 gr,.bool mt,.int .i64 ax,.int .i64 ay]) (hu:ShV w base ⟨A,n,c',gr,mt,ax,ay⟩ sh)
 (hlen:S.length<=1000000) (hbase:base<=w.heap.size)
 (h:∀v' w',Wm w' base v' (S++[sh])->w.grownBy w' v.ownBlock->(∀k,v.ownBlock=some k->base<=k)->wpList Tryz.prog ops Q rest (a.put o.dst v') w') :
 wpList Tryz.prog ops Q (o::rest) a w:=by
 obtain⟨i,hi,hz0,hz1,hz2⟩:=info_parts Ag3;obtain⟨xs,h1,h2,h3⟩:=hown
 have hrow:∀k cs fr,base<=k->w.heap[k]? = some (.cells cs 49 fr)->some k≠v.ownBlock:=by
  intro k cs fr _ hh he;rcases h1.2 with ⟨rfl,_⟩|⟨g,cap,cur,rfl,_,hg,_⟩
  ·cases he
  ·have:k=g:=by simpa[Value.ownBlock] using he
   subst this;rw[hg] at hh;injection hh with hh
   injection hh with _ ht
   exact absurd ht (by decide)
 refine wpList_append_own_at (P:=Tryz.prog) w hgd s x 82 ho base 104 i (.agg #[.slice none 0 0,.int .i64 0,.bool false,.int .i64 0,.int .i64 0]) 5 56 Tryz.underlying82 hi hz0 hz1 hz2 rfl (by omega) v xs.length (xs.flatMap y7) hs h1 ⟨bx,0,none⟩ 1 c (y7 ⟨A,n,c',gr,mt,ax,ay⟩) hx (by rw[Yp]) ?_ (yz _) (by rw[h2];unfold maxLen;omega) (by rw[h2];omega) hbase ?_
 ·intro j y hj
  exact World.news_of_block (w:=w) (B:=bx) (cs:=(y7 ⟨A,n,c',gr,mt,ax,ay⟩).toArray) (t:=tb) (fr:=(0,0)) hnew j y (by simpa using hj)
 ·intro v' w' ho' hg _ hat
  refine h v' w' ⟨xs++[⟨A,n,c',gr,mt,ax,ay⟩],?_,by simp[h2],fun j y hy=>?_⟩ hg (fun k hk=>(h1.lt k hk).1)
  ·unfold OwG
   rw[List.length_append,List.flatMap_append];simpa using ho'
  ·have kp:∀{x:ShX} {s:Shp},ShV w base x s->ShV w' base x s:=fun hv=>⟨hv.1,hv.2.1,hv.2.2.1,hv.2.2.2.1,hv.2.2.2.2.1.grown hg hrow,hv.2.2.2.2.2⟩
   rcases Nat.lt_or_ge j xs.length with q|q
   ·rw[List.getElem?_append_left q] at hy
    rw[Acj (by omega)]
    exact kp (h3 j y hy)
   ·rcases Nat.lt_or_ge j (xs.length+1) with q2|q2
    ·obtain rfl:j=xs.length:=by omega
     rw[List.getElem?_append_right (Nat.le_refl _),Nat.sub_self] at hy;simp at hy;subst hy;rw[h2,vf];exact kp hu
    ·rw[List.getElem?_eq_none (by simp;omega)] at hy;cases hy
section
open Go.ChangeShapes Go.WideShapes Go.ChangeAt Go.RowKit Go.Deep Go.Joins
section
variable {H : Type} {enc : TypeId × Value -> H} {w : World} {base b0 : Nat} {spare : Nat -> Bool} {held : Bool} {fuel : Nat} {cs : List Value} {x : DataW H × List MemPlace} {r : Reach} {v : Value} {d : DataW H} {p : List MemPlace}
theorem ui {P:Program} {t:TypeId} {fs:Array Field} (ht:P.underlying t=some (.struct fs)) (h:DataW.trod enc P w base spare held fuel t cs=some x) :
 cs.length=P.cellsOf t/\∃n,∀(i:Nat) (f:Field),fs[i]? = some f->∃y,DataW.trod enc P w base spare held n f.type ((cs.drop f.offset).take (P.cellsOf f.type))=some y:=by
 obtain⟨xs,n,_,_,hl,hlen,hf⟩:=DataW.trod_struct ht h;refine⟨hl,n,fun i f hif=>?_⟩
 have hi:i<fs.size:=by
  rcases Nat.lt_or_ge i fs.size with g|g
  ·exact g
  ·rw[Array.getElem?_eq_none g] at hif;cases hif
 exact⟨xs[i]'(by omega),by rw[hf i f hif,List.getElem?_eq_getElem]⟩
theorem Wu {P:Program} {t e:TypeId} {u:Value} (ht:P.underlying t=some (.slice e)) (h:DataW.trod enc P w base spare held fuel t [u]=some x):∃A n c,u=.slice A n c:=by
 rcases open_slice ht h with ⟨g,-⟩|⟨a,len,cap,m,k,D,Pl,g,-⟩
 ·simp at g;exact⟨_,_,_,g⟩
 ·simp at g;exact⟨_,_,_,g⟩
theorem Fk {α:Type} [Inhabited α] {P:Program} {t e:TypeId} {sz:Nat} {A:Option Addr} {n c:Nat} (Q:Nat->Nat->α->Prop) (ht:P.underlying t=some (.slice e)) (hc:P.cellsOf e=sz) (hs:0<sz)
 (hel:∀fuel cs' y b o,w.cells? base ⟨b,o,none⟩ sz=some cs'->DataW.trod enc P w base spare held fuel e cs'=some y->∃q,Q b o q)
 (h:DataW.trod enc P w base spare held fuel t [.slice A n c]=some x) :
 n<=c/\c<=9223372036854775807/\(A=none->c=0)/\∃l:List α,l.length=n/\(n=0\/∃b off,A=some ⟨b,off,none⟩/\∀k,k<n->Q b (off+k*sz) (l.getD k default)):=by
 rcases open_slice ht h with ⟨h1,-⟩|⟨a,len,cap,m,k,D,Pl,h1,h2,h3,h4,h5,-,h6⟩
 ·simp at h1
  obtain⟨rfl,rfl,rfl⟩:=h1;exact⟨Nat.le_refl _,by omega,fun _=>rfl,[],rfl,.inl rfl⟩
 ·simp at h1
  obtain⟨rfl,rfl,rfl⟩:=h1;refine⟨h3,by unfold maxLen at h4;exact h4,(fun h=>by cases h),?_⟩
  have hm:n<=m:=by rw[h5];split<;>omega
  rw[hc] at h6;rcases Nat.eq_zero_or_pos n with h0|h0
  ·exact⟨[],by simp[h0],.inl h0⟩
  ·obtain⟨cs0,g0,-⟩:=h6 0 (by omega)
   rw[Nat.zero_mul,Dt] at g0;have hl0:=(World.cells?_some g0).2.1
   have ea:a=⟨a.block,a.off,none⟩:=by
    have c0:=Bs g0 hs;rw[Dt] at c0;have:∃u,cs0[0]? = some u:=⟨_,List.getElem?_eq_getElem (by omega)⟩
    obtain⟨u,hu⟩:=this;rw[hu] at c0;exact Qk c0
   obtain⟨f,hf⟩:=choose_lt (n:=n) (p:=fun i q=>Q a.block (a.off+i*sz) q) fun i hi=>by
    obtain⟨cs',g1,g2⟩:=h6 i (by omega)
    rw[ea,K9] at g1;exact hel _ _ _ _ _ g1 g2
   refine⟨(List.range n).map f,by simp,.inr ⟨a.block,a.off,by rw[<-ea],fun k hk=>?_⟩⟩
   have e:((List.range n).map f).getD k default=f k:=by simp[List.getD,hk]
   rw[e];exact hf k hk
theorem M6:Tryz.prog.cellsOf 9=1:=by kernel_rfl
theorem Uj:Tryz.prog.cellsOf 101=2:=by kernel_rfl
theorem Qf:Tryz.prog.cellsOf 262=2:=by kernel_rfl
theorem Yy:Tryz.prog.cellsOf 53=3:=by kernel_rfl
theorem Ui:Tryz.prog.cellsOf 142=6:=by kernel_rfl
theorem Qe:Tryz.prog.cellsOf 64=7:=by kernel_rfl
theorem Qc:Tryz.prog.cellsOf 29=7:=by kernel_rfl
theorem re:Tryz.prog.cellsOf 35=12:=by kernel_rfl
theorem zw:Tryz.prog.cellsOf 22=1:=by kernel_rfl
theorem M7:Tryz.prog.cellsOf 23=1:=by kernel_rfl
theorem zv:Tryz.prog.cellsOf 24=1:=by kernel_rfl
theorem zu:Tryz.prog.cellsOf 25=1:=by kernel_rfl
theorem zt:Tryz.prog.cellsOf 26=1:=by kernel_rfl
theorem zr:Tryz.prog.cellsOf 27=1:=by kernel_rfl
theorem zq:Tryz.prog.cellsOf 61=1:=by kernel_rfl
theorem zp:Tryz.prog.cellsOf 62=1:=by kernel_rfl
instance:Inhabited EdgeP:=⟨⟨ByteArray.empty,[]⟩⟩
instance:Inhabited PieceP:=⟨⟨ByteArray.empty,[],0,[],[],[],false⟩⟩
instance:Inhabited UseP:=⟨⟨0,0,false⟩⟩
instance:Inhabited SeamP:=⟨⟨0,0,0,0,false,0⟩⟩
instance:Inhabited PlcP:=⟨⟨0,0,0,false,0,0,0⟩⟩
instance:Inhabited ByteArray:=⟨ByteArray.empty⟩
theorem et {u:Value} (h:DataW.trod enc Tryz.prog w base spare held fuel 3 [u]=some x):∃z,u=.int .i64 z:=by
 obtain⟨z,e,-⟩:=DataW.trod_int Tryz.underlying3 h;simp at e;exact⟨z,e⟩
theorem Acf {u:Value} (h:DataW.trod enc Tryz.prog w base spare held fuel 4 [u]=some x):∃z,u=.bool z:=by
 obtain⟨z,e,-⟩:=DataW.trod_bool Tryz.underlying4 h;simp at e;exact⟨z,e⟩
theorem Ai8 {u:Value} (h:DataW.trod enc Tryz.prog w base spare held fuel 9 [u]=some x):∃z:ByteArray,u=.string z/\z.size<=9223372036854775807:=by
 obtain⟨z,e,-,hz⟩:=DataW.trod_string Tryz.underlying9 h;simp at e;exact⟨z,e,by unfold maxLen at hz;exact hz⟩
theorem Kp {A:Option Addr} {n c:Nat} (h:DataW.trod enc Tryz.prog w base spare held fuel 23 [.slice A n c]=some x):n<=c/\c<=9223372036854775807/\(A=none->c=0)/\∃l,InS w A n l:=by
 obtain⟨h1,h2,h3,l,h4,h5⟩:=Fk (α:=Int) (fun b o q=>w.cell? ⟨b,o,none⟩=some (.int .i64 q)) Tryz.underlying23 En (by decide) (fun fuel cs' y b o g1 g2=>by
  obtain⟨z,rfl,-⟩:=DataW.trod_int Tryz.underlying3 g2;have c0:=Bs g1 (show 0<1 by omega)
  rw[Dt] at c0;exact⟨z,c0⟩) h
 refine⟨h1,h2,h3,l,h4,?_⟩;rcases h5 with h5|⟨b,off,e,h5⟩
 ·exact .inl h5
 ·exact .inr ⟨b,off,e,fun k hk=>by have:=h5 k hk;rw[Nat.mul_one] at this;exact this⟩
theorem gj {A:Option Addr} {n c:Nat} (h:DataW.trod enc Tryz.prog w base spare held fuel 22 [.slice A n c]=some x):n<=c/\c<=9223372036854775807/\(A=none->c=0)/\∃l,StS w A n l:=by
 obtain⟨h1,h2,h3,l,h4,h5⟩:=Fk (α:=ByteArray) (fun b o q=>w.cell? ⟨b,o,none⟩=some (.string q)/\q.size<=9223372036854775807) Tryz.underlying22 M6 (by decide) (fun fuel cs' y b o g1 g2=>by
  obtain⟨z,rfl,-,hz⟩:=DataW.trod_string Tryz.underlying9 g2;have c0:=Bs g1 (show 0<1 by omega)
  rw[Dt] at c0;exact⟨z,c0,by unfold maxLen at hz;exact hz⟩) h
 refine⟨h1,h2,h3,l,h4,?_⟩;rcases h5 with h5|⟨b,off,e,h5⟩
 ·exact .inl h5
 ·exact .inr ⟨b,off,e,fun k hk=>by have:=h5 k hk;rw[Nat.mul_one] at this;exact this⟩
theorem pf (h:DataW.trod enc Tryz.prog w base spare held fuel 101 cs=some x):∃A n c nm l,cs=[.string nm,.slice A n c]/\n<=c/\c<=9223372036854775807/\SpS w A n l:=by
 obtain⟨hl,n,hf⟩:=ui Tryz.underlying101 h;rw[Uj] at hl;obtain⟨c0,c1,rfl⟩:=lh hl;obtain⟨y0,h0⟩:=hf 0 _ rfl;obtain⟨y1,h1⟩:=hf 1 _ rfl;simp only[List.getElem_toArray,List.getElem_cons_zero,List.getElem_cons_succ] at h0 h1;rw[M6] at h0;rw[qv] at h1;simp at h0 h1;obtain⟨nm,rfl,-⟩:=Ai8 h0;obtain⟨A,nn,c,rfl⟩:=Wu Tryz.underlying54 h1;obtain⟨g1,g2,g3,l,g4,g5⟩:=Pb h1;exact⟨A,nn,c,nm,l,rfl,g1,g2,g4⟩
theorem dm {A:Option Addr} {n c:Nat} (h:DataW.trod enc Tryz.prog w base spare held fuel 61 [.slice A n c]=some x):n<=c/\c<=9223372036854775807/\(A=none->c=0)/\∃l,EdS w A n l:=by
 obtain⟨h1,h2,h3,l,h4,h5⟩:=Fk (α:=EdgeP) (fun b o q=>Aig w b o q) Tryz.underlying61 Uj (by decide) (fun fuel cs' y b o g1 g2=>by
  obtain⟨A,n,c,nm,l,rfl,k1,k2,k3⟩:=pf g2;have c0:=Bs g1 (show 0<2 by omega)
  have c1:=Bs g1 (show 1<2 by omega)
  rw[Dt] at c0;rw[K9] at c1;have hl:=k3.1;subst hl;exact⟨⟨nm,l⟩,c0,A,c,c1,k1,k2,k3⟩) h
 exact⟨h1,h2,h3,l,h4,h5⟩
theorem ag (h:DataW.trod enc Tryz.prog w base spare held fuel 262 cs=some x):∃a b,cs=[.int .i64 a,.int .i64 b]:=by
 obtain⟨hl,n,hf⟩:=ui Tryz.underlying262 h;rw[Qf] at hl;obtain⟨c0,c1,rfl⟩:=lh hl;obtain⟨y0,h0⟩:=hf 0 _ rfl;obtain⟨y1,h1⟩:=hf 1 _ rfl;simp only[List.getElem_toArray,List.getElem_cons_zero,List.getElem_cons_succ] at h0 h1;rw[En] at h0 h1;simp at h0 h1;obtain⟨a,rfl⟩:=et h0;obtain⟨b,rfl⟩:=et h1;exact⟨a,b,rfl⟩
theorem Te {A:Option Addr} {n c:Nat} (h:DataW.trod enc Tryz.prog w base spare held fuel 62 [.slice A n c]=some x):n<=c/\c<=9223372036854775807/\(A=none->c=0)/\∃l,SpS w A n l:=by
 obtain⟨h1,h2,h3,l,h4,h5⟩:=Fk (α:=Int×Int) (fun b o q=>w.cell? ⟨b,o,none⟩=some (.int .i64 q.1)/\w.cell? ⟨b,o+1,none⟩=some (.int .i64 q.2)) Tryz.underlying62 Qf (by decide) (fun fuel cs' y b o g1 g2=>by
  obtain⟨u,v,rfl⟩:=ag g2;have c0:=Bs g1 (show 0<2 by omega)
  have c1:=Bs g1 (show 1<2 by omega)
  rw[Dt] at c0;rw[K9] at c1;exact⟨(u,v),c0,c1⟩) h
 exact⟨h1,h2,h3,l,h4,h5⟩
theorem Adl {α:Type} {l:List α} (h:l.length=7):∃a b c d e f g,l=[a,b,c,d,e,f,g]:=by
 match l,h with
 | [a,b,c,d,e,f,g],_=>exact⟨a,b,c,d,e,f,g,rfl⟩
theorem Agu {α:Type} {l:List α} (h:l.length=6):∃a b c d e f,l=[a,b,c,d,e,f]:=by
 match l,h with
 | [a,b,c,d,e,f],_=>exact⟨a,b,c,d,e,f,rfl⟩
theorem Ajl {α:Type} {l:List α} (h:l.length=3):∃a b c,l=[a,b,c]:=by
 match l,h with
 | [a,b,c],_=>exact⟨a,b,c,rfl⟩
theorem Z9 (h:DataW.trod enc Tryz.prog w base spare held fuel 64 cs=some x):∃p:PieceP,PcV w cs.toArray p:=by
 obtain⟨hl,n,hf⟩:=ui Tryz.underlying64 h;rw[Qe] at hl;obtain⟨c0,c1,c2,c3,c4,c5,c6,rfl⟩:=Adl hl;obtain⟨y0,h0⟩:=hf 0 _ rfl;obtain⟨y1,h1⟩:=hf 1 _ rfl;obtain⟨y2,h2⟩:=hf 2 _ rfl;obtain⟨y3,h3⟩:=hf 3 _ rfl;obtain⟨y4,h4⟩:=hf 4 _ rfl;obtain⟨y5,h5⟩:=hf 5 _ rfl;obtain⟨y6,h6⟩:=hf 6 _ rfl;simp only[List.getElem_toArray,List.getElem_cons_zero,List.getElem_cons_succ] at h0 h1 h2 h3 h4 h5 h6;rw[M6] at h0;rw[zq] at h1;rw[En] at h2;rw[zp] at h3;rw[qv] at h4;rw[M7] at h5;rw[K5] at h6;simp at h0 h1 h2 h3 h4 h5 h6;obtain⟨nm,rfl,-⟩:=Ai8 h0;obtain⟨A1,n1,d1,rfl⟩:=Wu Tryz.underlying61 h1;obtain⟨gr,rfl⟩:=et h2;obtain⟨A2,n2,d2,rfl⟩:=Wu Tryz.underlying62 h3;obtain⟨A3,n3,d3,rfl⟩:=Wu Tryz.underlying54 h4;obtain⟨A4,n4,d4,rfl⟩:=Wu Tryz.underlying23 h5;obtain⟨mt,rfl⟩:=Acf h6;obtain⟨a1,a2,-,la,a3⟩:=dm h1;obtain⟨b1,b2,-,lb,b3⟩:=Te h3;obtain⟨e1,e2,-,lc,e3,-⟩:=Pb h4;obtain⟨f1,f2,-,ld,f3⟩:=Kp h5;have q1:=a3.1;have q2:=b3.1;have q3:=e3.1;have q4:=f3.1;subst q1 q2 q3 q4;exact⟨⟨nm,la,gr,lb,lc,ld,mt⟩,A1,d1,A2,d2,A3,d3,A4,d4,rfl,⟨a1,a2,a3⟩,⟨b1,b2,b3⟩,⟨e1,e2,e3⟩,f1,f2,f3⟩
theorem Va {A:Option Addr} {n c:Nat} (h:DataW.trod enc Tryz.prog w base spare held fuel 24 [.slice A n c]=some x):n<=c/\c<=9223372036854775807/\(A=none->c=0)/\∃l,PcS w A n l:=by
 obtain⟨h1,h2,h3,l,h4,h5⟩:=Fk (α:=PieceP) (fun b o q=>∃vs,PcV w vs q/\∀j u,vs[j]? = some u->w.cell? ⟨b,o+j,none⟩=some u) Tryz.underlying24 Qe (by decide) (fun fuel cs' y b o g1 g2=>by
  obtain⟨q,hq⟩:=Z9 g2;refine⟨q,cs'.toArray,hq,fun j u hu=>?_⟩
  rw[List.getElem?_toArray] at hu;have hl:cs'.length=7:=(World.cells?_some g1).2.1
  have hj:j<7:=by
   rcases Nat.lt_or_ge j 7 with g|g
   ·exact g
   ·rw[List.getElem?_eq_none (by omega)] at hu;cases hu
  have c0:=Bs g1 hj;rw[K9,hu] at c0;exact c0) h
 exact⟨h1,h2,h3,l,h4,h5⟩
theorem ua (h:DataW.trod enc Tryz.prog w base spare held fuel 53 cs=some x):∃a b c,cs=[.int .i64 a,.int .i64 b,.bool c]:=by
 obtain⟨hl,n,hf⟩:=ui Tryz.underlying53 h;rw[Yy] at hl;obtain⟨c0,c1,c2,rfl⟩:=Ajl hl;obtain⟨y0,h0⟩:=hf 0 _ rfl;obtain⟨y1,h1⟩:=hf 1 _ rfl;obtain⟨y2,h2⟩:=hf 2 _ rfl;simp only[List.getElem_toArray,List.getElem_cons_zero,List.getElem_cons_succ] at h0 h1 h2;rw[En] at h0 h1;rw[K5] at h2;simp at h0 h1 h2;obtain⟨a,rfl⟩:=et h0;obtain⟨b,rfl⟩:=et h1;obtain⟨c,rfl⟩:=Acf h2;exact⟨a,b,c,rfl⟩
theorem fg {A:Option Addr} {n c:Nat} (h:DataW.trod enc Tryz.prog w base spare held fuel 25 [.slice A n c]=some x):n<=c/\c<=9223372036854775807/\(A=none->c=0)/\∃l,UsS w A n l:=by
 obtain⟨h1,h2,h3,l,h4,h5⟩:=Fk (α:=UseP) (fun b o q=>w.cell? ⟨b,o,none⟩=some (.int .i64 q.pc)/\w.cell? ⟨b,o+1,none⟩=some (.int .i64 q.ct)/\w.cell? ⟨b,o+2,none⟩=some (.bool q.pr)) Tryz.underlying25 Yy (by decide) (fun fuel cs' y b o g1 g2=>by
  obtain⟨u,v,q,rfl⟩:=ua g2;have c0:=Bs g1 (show 0<3 by omega)
  have c1:=Bs g1 (show 1<3 by omega)
  have c2:=Bs g1 (show 2<3 by omega)
  rw[Dt] at c0;rw[K9] at c1 c2;exact⟨⟨u,v,q⟩,c0,c1,c2⟩) h
 exact⟨h1,h2,h3,l,h4,h5⟩
theorem ja (h:DataW.trod enc Tryz.prog w base spare held fuel 142 cs=some x):∃a b c d e f,cs=[.int .i64 a,.int .i64 b,.int .i64 c,.int .i64 d,.bool e,.int .i64 f]:=by
 obtain⟨hl,n,hf⟩:=ui Tryz.underlying142 h;rw[Ui] at hl;obtain⟨c0,c1,c2,c3,c4,c5,rfl⟩:=Agu hl;obtain⟨y0,h0⟩:=hf 0 _ rfl;obtain⟨y1,h1⟩:=hf 1 _ rfl;obtain⟨y2,h2⟩:=hf 2 _ rfl;obtain⟨y3,h3⟩:=hf 3 _ rfl;obtain⟨y4,h4⟩:=hf 4 _ rfl;obtain⟨y5,h5⟩:=hf 5 _ rfl;simp only[List.getElem_toArray,List.getElem_cons_zero,List.getElem_cons_succ] at h0 h1 h2 h3 h4 h5;rw[En] at h0 h1 h2 h3 h5;rw[K5] at h4;simp at h0 h1 h2 h3 h4 h5;obtain⟨a,rfl⟩:=et h0;obtain⟨b,rfl⟩:=et h1;obtain⟨c,rfl⟩:=et h2;obtain⟨d,rfl⟩:=et h3;obtain⟨e,rfl⟩:=Acf h4;obtain⟨f,rfl⟩:=et h5;exact⟨a,b,c,d,e,f,rfl⟩
theorem Zt {A:Option Addr} {n c:Nat} (h:DataW.trod enc Tryz.prog w base spare held fuel 26 [.slice A n c]=some x):n<=c/\c<=9223372036854775807/\(A=none->c=0)/\∃l,SeS w A n l:=by
 obtain⟨h1,h2,h3,l,h4,h5⟩:=Fk (α:=SeamP) (fun b o q=>w.cell? ⟨b,o,none⟩=some (.int .i64 q.pa)/\w.cell? ⟨b,o+1,none⟩=some (.int .i64 q.ea)/\w.cell? ⟨b,o+2,none⟩=some (.int .i64 q.pb)/\w.cell? ⟨b,o+3,none⟩=some (.int .i64 q.eb)/\w.cell? ⟨b,o+4,none⟩=some (.bool q.rv)/\w.cell? ⟨b,o+5,none⟩=some (.int .i64 q.es)) Tryz.underlying26 Ui (by decide) (fun fuel cs' y b o g1 g2=>by
  obtain⟨q0,q1,q2,q3,q4,q5,rfl⟩:=ja g2;have c0:=Bs g1 (show 0<6 by omega)
  have c1:=Bs g1 (show 1<6 by omega)
  have c2:=Bs g1 (show 2<6 by omega)
  have c3:=Bs g1 (show 3<6 by omega)
  have c4:=Bs g1 (show 4<6 by omega)
  have c5:=Bs g1 (show 5<6 by omega)
  rw[Dt] at c0;rw[K9] at c1 c2 c3 c4 c5;exact⟨⟨q0,q1,q2,q3,q4,q5⟩,c0,c1,c2,c3,c4,c5⟩) h
 exact⟨h1,h2,h3,l,h4,h5⟩
theorem Pa (h:DataW.trod enc Tryz.prog w base spare held fuel 29 cs=some x):∃s:StyleP,StV w cs.toArray s:=by
 obtain⟨hl,n,hf⟩:=ui Tryz.underlying29 h;rw[Qc] at hl;obtain⟨c0,c1,c2,c3,c4,c5,c6,rfl⟩:=Adl hl;obtain⟨y0,h0⟩:=hf 0 _ rfl;obtain⟨y1,h1⟩:=hf 1 _ rfl;obtain⟨y2,h2⟩:=hf 2 _ rfl;obtain⟨y3,h3⟩:=hf 3 _ rfl;obtain⟨y4,h4⟩:=hf 4 _ rfl;obtain⟨y5,h5⟩:=hf 5 _ rfl;obtain⟨y6,h6⟩:=hf 6 _ rfl;simp only[List.getElem_toArray,List.getElem_cons_zero,List.getElem_cons_succ] at h0 h1 h2 h3 h4 h5 h6;rw[M6] at h0;rw[zw] at h1;rw[M7] at h2;rw[zv] at h3;rw[zu] at h4;rw[zt] at h5;rw[zr] at h6;simp at h0 h1 h2 h3 h4 h5 h6;obtain⟨nm,rfl,-⟩:=Ai8 h0;obtain⟨A1,n1,d1,rfl⟩:=Wu Tryz.underlying22 h1;obtain⟨A2,n2,d2,rfl⟩:=Wu Tryz.underlying23 h2;obtain⟨A3,n3,d3,rfl⟩:=Wu Tryz.underlying24 h3;obtain⟨A4,n4,d4,rfl⟩:=Wu Tryz.underlying25 h4;obtain⟨A5,n5,d5,rfl⟩:=Wu Tryz.underlying26 h5;obtain⟨A6,n6,d6,rfl⟩:=Wu Tryz.underlying27 h6;obtain⟨a1,a2,-,la,a3⟩:=gj h1;obtain⟨b1,b2,-,lb,b3⟩:=Kp h2;obtain⟨e1,e2,-,lc,e3⟩:=Va h3;obtain⟨f1,f2,-,ld,f3⟩:=fg h4;obtain⟨g1,g2,-,le,g3⟩:=Zt h5
 have hop:n6<=d6/\d6<=9223372036854775807:=by
  rcases open_slice Tryz.underlying27 h6 with ⟨q1,-⟩|⟨a,len,cap,m,k,D,Pl,q1,q2,q3,q4,-⟩
  ·simp at q1;omega
  ·simp at q1;unfold maxLen at q4;omega
 have q1:=a3.1;have q2:=b3.1;have q3:=e3.1;have q4:=f3.1;have q5:=g3.1;subst q1 q2 q3 q4 q5;exact⟨⟨nm,la,lb,lc,ld,le,n6⟩,A1,d1,A2,d2,A3,d3,A4,d4,A5,d5,A6,d6,rfl,⟨a1,a2,a3⟩,⟨b1,b2,b3⟩,⟨e1,e2,e3⟩,⟨f1,f2,f3⟩,⟨g1,g2,g3⟩,hop⟩
def MkV (w:World) (vs:Array Value) (m:MkP):Prop:=∃A1 c1 A2 c2,vs=#[.int .i64 m.len,.int .i64 m.wid,.int .i64 m.rx,.int .i64 m.ry,.slice A1 m.sz.length c1,.slice A2 m.pl.length c2]/\(m.sz.length<=c1/\c1<=9223372036854775807/\InS w A1 m.sz.length m.sz)/\m.pl.length<=c2/\c2<=9223372036854775807/\(A2=none->c2=0)/\PlS w A2 m.pl.length m.pl
end
section
variable {H : Type} {enc : TypeId × Value -> H} {w : World} {base b0 : Nat} {spare : Nat -> Bool} {held : Bool} {r : Reach} {v : Value} {d : DataW H} {p : List MemPlace}
theorem Agv {α:Type} {l:List α} (h:l.length=12):∃a0 a1 a2 a3 a4 a5 a6 a7 a8 a9 b0 b1,l=[a0,a1,a2,a3,a4,a5,a6,a7,a8,a9,b0,b1]:=by
 match l,h with
 | [a0,a1,a2,a3,a4,a5,a6,a7,a8,a9,b0,b1],_=>exact⟨a0,a1,a2,a3,a4,a5,a6,a7,a8,a9,b0,b1,rfl⟩
theorem kd (hv:Value.okWide Tryz.prog w r b0 35 v) (h:DataW.Trod enc Tryz.prog w base spare held 35 v d p):∃v0 v1 v2 v3 v4 v5 v6 s,∃b:Bed4,∃A n c Z,v=.agg #[v0,v1,v2,v3,v4,v5,v6,.int .i64 b.len,.int .i64 b.wid,.int .i64 b.rx,.int .i64 b.ry,.slice A n c]/\StV w #[v0,v1,v2,v3,v4,v5,v6] s/\(inR b.len/\inR b.wid/\inR b.rx/\inR b.ry)/\n<=c/\c<=9223372036854775807/\(A=none->c=0)/\InS w A n Z:=by
 obtain⟨cs,rfl,hsz⟩:=okWide_struct Tryz.underlying35 hv;obtain⟨fuel,hf⟩:=h;obtain⟨hl,n,hf⟩:=ui Tryz.underlying35 hf;rw[re] at hl;obtain⟨y0,h0⟩:=hf 0 _ rfl;obtain⟨y1,h1⟩:=hf 1 _ rfl;obtain⟨y2,h2⟩:=hf 2 _ rfl;clear hf;simp only[List.getElem_toArray,List.getElem_cons_zero,List.getElem_cons_succ] at h0 h1 h2;rw[Qc] at h0;rw[Y0] at h1;rw[M7] at h2;have hcs:(Value.agg cs).cells.toList=cs.toList:=by simp[Value.cells]
 obtain⟨l,hcl⟩:∃l,cs.toList=l:=⟨_,rfl⟩
 have hcs2:cs=l.toArray:=by rw[<-hcl]
 simp[Value.cells,hcl] at hl h0 h1 h2;obtain⟨a0,a1,a2,a3,a4,a5,a6,a7,a8,a9,b0,b1,rfl⟩:=Agv hl;simp at h0 h1 h2;obtain⟨s,hs⟩:=Pa h0;obtain⟨e1,e2,e3,e4,e5,w1,w2,w3,w4⟩:=Aae h1;simp at e5;obtain⟨rfl,rfl,rfl,rfl⟩:=e5;obtain⟨A,nn,c,rfl⟩:=Wu Tryz.underlying23 h2;obtain⟨k1,k2,k4,Z,k3⟩:=Kp h2;exact⟨a0,a1,a2,a3,a4,a5,a6,s,⟨e1,e2,e3,e4⟩,A,nn,c,Z,by rw[hcs2],by simpa using hs,⟨w1,w2,w3,w4⟩,k1,k2,k4,k3⟩
end
end
def ve:List EdgeP:=[⟨⟨#[108,111,119]⟩,[(0,0),(10,0)]⟩,⟨⟨#[114,105,103,104,116]⟩,[(10,0),(10,10)]⟩,⟨⟨#[104,105,103,104]⟩,[(10,10),(0,10)]⟩,⟨⟨#[108,101,102,116]⟩,[(0,10),(0,0)]⟩]
theorem Dw (X:World) (o:Obj):(X.alloc o).heap.size=X.heap.size+1:=by simp
theorem bk0 (X:World) (t:TypeId) (cs:Array Value) (a b c d:Obj):Bb (((((X.alloc (.cells cs t)).alloc a).alloc b).alloc c).alloc d).drew X.heap.size t cs :=
 ((((((Bb.new X t cs).alloc a).alloc b).alloc c).alloc d).keep (Aw (Below.refl _ _)))
theorem bk1 (X:World) (t:TypeId) (cs:Array Value) (a b c d:Obj):Bb (((((X.alloc a).alloc (.cells cs t)).alloc b).alloc c).alloc d).drew (X.heap.size+1) t cs:=by
 rw[<-Dw X a];exact(((((Bb.new _ t cs).alloc b).alloc c).alloc d).keep (Aw (Below.refl _ _)))
theorem bk2 (X:World) (t:TypeId) (cs:Array Value) (a b c d:Obj):Bb (((((X.alloc a).alloc b).alloc (.cells cs t)).alloc c).alloc d).drew (X.heap.size+1+1) t cs:=by
 rw[<-Dw X a,<-Dw _ b];exact((((Bb.new _ t cs).alloc c).alloc d).keep (Aw (Below.refl _ _)))
theorem bk3 (X:World) (t:TypeId) (cs:Array Value) (a b c d:Obj):Bb (((((X.alloc a).alloc b).alloc c).alloc (.cells cs t)).alloc d).drew (X.heap.size+1+1+1) t cs:=by
 rw[<-Dw X a,<-Dw _ b,<-Dw _ c];exact(((Bb.new _ t cs).alloc d).keep (Aw (Below.refl _ _)))
theorem bk4 (X:World) (t:TypeId) (cs:Array Value) (a b c d:Obj):Bb (((((X.alloc a).alloc b).alloc c).alloc d).alloc (.cells cs t)).drew (X.heap.size+1+1+1+1) t cs:=by
 rw[<-Dw X a,<-Dw _ b,<-Dw _ c,<-Dw _ d];exact((Bb.new _ t cs).keep (Aw (Below.refl _ _)))
theorem Uk {B:Nat} {W W':World} {b:Nat} {t:TypeId} {cs:Array Value} (hW:∀k,B<=k->k<W.heap.size->W'.heap[k]? = W.heap[k]?) (hb:B<=b) (h:Bb W b t cs):Bb W' b t cs:=(hW b hb (Dk h)).trans h
theorem Mu {W:World} {g:Nat} {a b c d:Int} (h:Bb W g 49 #[.int .i64 a,.int .i64 b,.int .i64 c,.int .i64 d]):SpS W (some ⟨g,0,none⟩) 2 [(a,b),(c,d)]:=by
 obtain⟨a1,a2,a3,a4,-⟩:=h.cells4;refine⟨rfl,.inr ⟨g,0,rfl,fun k hk=>?_⟩⟩
 match k,hk with
 | 0,_=>exact⟨a1,a2⟩
 | 1,_=>exact⟨a3,a4⟩
theorem Ah1 {W:World} {b0 b1 b2 b3 g:Nat} (h0:Bb W b0 49 #[.int .i64 0,.int .i64 0,.int .i64 10,.int .i64 0]) (h1:Bb W b1 49 #[.int .i64 10,.int .i64 0,.int .i64 10,.int .i64 10]) (h2:Bb W b2 49 #[.int .i64 10,.int .i64 10,.int .i64 0,.int .i64 10]) (h3:Bb W b3 49 #[.int .i64 0,.int .i64 10,.int .i64 0,.int .i64 0])
 (hE:Bb W g 101 #[.string ⟨#[108,111,119]⟩,.slice (some ⟨b0,0,none⟩) 2 2,.string ⟨#[114,105,103,104,116]⟩,.slice (some ⟨b1,0,none⟩) 2 2,.string ⟨#[104,105,103,104]⟩,.slice (some ⟨b2,0,none⟩) 2 2,.string ⟨#[108,101,102,116]⟩,.slice (some ⟨b3,0,none⟩) 2 2]):EdS W (some ⟨g,0,none⟩) 4 ve:=by
 refine⟨rfl,.inr ⟨g,0,rfl,fun k hk=>?_⟩⟩
 match k,hk with
 | 0,_=>exact⟨(hE.cell 0).trans rfl,_,2,(hE.cell 1).trans rfl,Nat.le_refl _,by omega,Mu h0⟩
 | 1,_=>exact⟨(hE.cell 2).trans rfl,_,2,(hE.cell 3).trans rfl,Nat.le_refl _,by omega,Mu h1⟩
 | 2,_=>exact⟨(hE.cell 4).trans rfl,_,2,(hE.cell 5).trans rfl,Nat.le_refl _,by omega,Mu h2⟩
 | 3,_=>exact⟨(hE.cell 6).trans rfl,_,2,(hE.cell 7).trans rfl,Nat.le_refl _,by omega,Mu h3⟩
theorem iq (w:World) :
 Calls Tryz.prog 41 #[.int .i64 10,.int .i64 10] w fun e w'=>∃A,e=.returned (.slice A 4 4)/\(∀W':World,(∀k,w.heap.size<=k->k<w'.heap.size->W'.heap[k]? = w'.heap[k]?)->EdS W' A 4 ve)/\Below w.heap.size w w':=by
 go_enter Tryz.func41,Tryz.ntmps41;go_upto_region 2 with fail;refine Ar (fun X=>Below w.heap.size w X/\Bb X w.heap.size 49 #[.int .i64 0,.int .i64 0,.int .i64 10,.int .i64 0,.int .i64 10,.int .i64 10,.int .i64 0,.int .i64 10]) ⟨An (Below.refl _ _) _,Bb.new _ _ _⟩ ?_
 rintro X ⟨hbX,hP⟩
 have KF:∀W',Below X.heap.size X W'->W'.cell? ⟨w.heap.size,0,none⟩=some (.int .i64 0)/\W'.cell? ⟨w.heap.size,1,none⟩=some (.int .i64 0)/\W'.cell? ⟨w.heap.size,2,none⟩=some (.int .i64 10)/\W'.cell? ⟨w.heap.size,3,none⟩=some (.int .i64 0)/\W'.cell? ⟨w.heap.size,4,none⟩=some (.int .i64 10)/\W'.cell? ⟨w.heap.size,5,none⟩=some (.int .i64 10)/\W'.cell? ⟨w.heap.size,6,none⟩=some (.int .i64 0)/\W'.cell? ⟨w.heap.size,7,none⟩=some (.int .i64 10):=fun W' hb=>by
  have h:=hP.keep hb;exact⟨(h.cell 0).trans rfl,(h.cell 1).trans rfl,(h.cell 2).trans rfl,(h.cell 3).trans rfl,(h.cell 4).trans rfl,(h.cell 5).trans rfl,(h.cell 6).trans rfl,(h.cell 7).trans rfl⟩
 have hP0:=hP;clear hP
 go_region_held3 (fun W'=>W'.cell? ⟨w.heap.size,0,none⟩=some (.int .i64 0)/\W'.cell? ⟨w.heap.size,1,none⟩=some (.int .i64 0)/\W'.cell? ⟨w.heap.size,2,none⟩=some (.int .i64 10)/\W'.cell? ⟨w.heap.size,3,none⟩=some (.int .i64 0)/\W'.cell? ⟨w.heap.size,4,none⟩=some (.int .i64 10)/\W'.cell? ⟨w.heap.size,5,none⟩=some (.int .i64 10)/\W'.cell? ⟨w.heap.size,6,none⟩=some (.int .i64 0)/\W'.cell? ⟨w.heap.size,7,none⟩=some (.int .i64 10))
  (first
   | with_reducible exact KF _ (Aw (Below.refl _ _))
   | with_reducible exact KF _ (Below.refl _ _)
   | with_reducible exact KF _ (Aw (An (Below.refl _ _) _))
   | with_reducible exact KF _ (An (Below.refl _ _) _)
   | with_reducible exact KF _ (Aw (An (An (Below.refl _ _) _) _))
   | with_reducible exact KF _ (An (An (Below.refl _ _) _) _)
   | with_reducible exact KF _ (Aw (An (An (An (Below.refl _ _) _) _) _))
   | with_reducible exact KF _ (An (An (An (Below.refl _ _) _) _) _)
   | with_reducible exact KF _ (Aw (An (An (An (An (Below.refl _ _) _) _) _) _))
   | with_reducible exact KF _ (An (An (An (An (Below.refl _ _) _) _) _) _)
   | with_reducible exact KF _ (Aw (An (An (An (An (An (Below.refl _ _) _) _) _) _) _))
   | with_reducible exact KF _ (An (An (An (An (An (Below.refl _ _) _) _) _) _) _))
  ((first|fail))
 all_goals go_wp2_with fail
 all_goals go_ret
 all_goals
  refine⟨_,rfl,fun W' hW=>Ah1 (Uk hW ?_ ?_) (Uk hW ?_ ?_) (Uk hW ?_ ?_) (Uk hW ?_ ?_) (Uk hW ?_ (bk4 _ _ _ _ _ _ _)),Ao hbX (Aw (An (An (An (An (An (Below.refl _ _) _) _) _) _) _))⟩
  all_goals first
   | with_reducible exact bk0 _ _ _ _ _ _ _
   | with_reducible exact bk1 _ _ _ _ _ _ _
   | with_reducible exact bk2 _ _ _ _ _ _ _
   | with_reducible exact bk3 _ _ _ _ _ _ _
   | (clear KF hP0;have:=hbX.size;omega)
end Go.Proofs.YtpbchbcdgikonaaGreat
