/- Lean texts of the claim. -/
import Derived.Test.YtpbchbcdgikonaaGreatQ34
import Derived.Laws.FloatArith
namespace Go.Proofs.YtpbchbcdgikonaaGreat
set_option linter.unusedVariables false
set_option linter.unusedSimpArgs false
set_option maxRecDepth 100000
set_option maxHeartbeats 4000000
open Go.RowKit
def Ahl:PieceP:=⟨⟨#[102,114,111,110,116]⟩,ve,1,[],[(0,0),(1,0),(1,0),(0,0)],[0,0,0,0],false⟩
def Ib:StyleP:=⟨⟨#[115,104,105,114,116]⟩,[⟨#[83]⟩,⟨#[77]⟩],[0,2],[Ahl],[⟨0,2,true⟩],[],0⟩
theorem xm:SmS Ib:=⟨by decide,by decide,by decide,by decide,by decide,by decide⟩
theorem Y5 (W:World) {g:Nat} (hg:g=W.heap.size) {t:TypeId} {cs:Array Value}:Bb (W.alloc (.cells cs t)) g t cs:=by rw[hg];exact Bb.new W t cs
theorem Afh {W:World} {g h:Nat} {t:TypeId} {cs:Array Value} (H:Bb W g t cs) (hne:g≠h) (u0 u1 u2 u3 u4 u5 u6:Value):Bb (((((((W.setCell ⟨h,0,none⟩ u0).setCell ⟨h,1,none⟩ u1).setCell ⟨h,2,none⟩ u2).setCell ⟨h,3,none⟩ u3).setCell ⟨h,4,none⟩ u4).setCell ⟨h,5,none⟩ u5).setCell ⟨h,6,none⟩ u6) g t cs:=(Bb.far (Bb.far (Bb.far (Bb.far (Bb.far (Bb.far (Bb.far H (p:=⟨h,0,none⟩) hne u0) (p:=⟨h,1,none⟩) hne u1) (p:=⟨h,2,none⟩) hne u2) (p:=⟨h,3,none⟩) hne u3) (p:=⟨h,4,none⟩) hne u4) (p:=⟨h,5,none⟩) hne u5) (p:=⟨h,6,none⟩) hne u6)
theorem Ak6 {a W:World} {b h:Nat} (hb:Below b a W) (hg:b<=h) (u0 u1 u2 u3 u4 u5 u6:Value):Below b a (((((((W.setCell ⟨h,0,none⟩ u0).setCell ⟨h,1,none⟩ u1).setCell ⟨h,2,none⟩ u2).setCell ⟨h,3,none⟩ u3).setCell ⟨h,4,none⟩ u4).setCell ⟨h,5,none⟩ u5).setCell ⟨h,6,none⟩ u6) :=
 Below.setCell (Below.setCell (Below.setCell (Below.setCell (Below.setCell (Below.setCell (Below.setCell hb hg _) hg _) hg _) hg _) hg _) hg _) hg _
theorem Ahf {W:World} {h k:Nat} (hne:k≠h) (u0 u1 u2 u3 u4 u5 u6:Value):(((((((W.setCell ⟨h,0,none⟩ u0).setCell ⟨h,1,none⟩ u1).setCell ⟨h,2,none⟩ u2).setCell ⟨h,3,none⟩ u3).setCell ⟨h,4,none⟩ u4).setCell ⟨h,5,none⟩ u5).setCell ⟨h,6,none⟩ u6).heap[k]? = W.heap[k]? :=
 (Dq _ _ _ _ hne).trans ((Dq _ _ _ _ hne).trans ((Dq _ _ _ _ hne).trans ((Dq _ _ _ _ hne).trans ((Dq _ _ _ _ hne).trans ((Dq _ _ _ _ hne).trans (Dq _ _ _ _ hne))))))
def Ac6 (A:Option Addr) (B:Nat):Array Value:=#[.string ⟨#[115,104,105,114,116]⟩,.slice (some ⟨B+1+1+1,0,none⟩) 2 2,.slice (some ⟨B+1+1+1+1,0,none⟩) 2 2,.slice (some ⟨B+1+1+1+1+1,0,none⟩) 1 1,.slice (some ⟨B+1+1+1+1+1+1,0,none⟩) 1 1,.slice none 0 0,.slice none 0 0]
theorem xk {F:World} {A:Option Addr} {B:Nat} (hE:EdS F A 4 ve) (h0:Bb F B 49 #[.int .i64 0,.int .i64 0,.int .i64 1,.int .i64 0,.int .i64 1,.int .i64 0,.int .i64 0,.int .i64 0]) (h1:Bb F (B+1) 3 #[.int .i64 0,.int .i64 0,.int .i64 0,.int .i64 0])
 (h3:Bb F (B+1+1+1) 9 #[.string ⟨#[83]⟩,.string ⟨#[77]⟩]) (h4:Bb F (B+1+1+1+1) 3 #[.int .i64 0,.int .i64 2])
 (h5:Bb F (B+1+1+1+1+1) 64 #[.string ⟨#[102,114,111,110,116]⟩,.slice A 4 4,.int .i64 1,.slice none 0 0,.slice (some ⟨B,0,none⟩) 4 4,.slice (some ⟨B+1,0,none⟩) 4 4,.bool false]) (h6:Bb F (B+1+1+1+1+1+1) 53 #[.int .i64 0,.int .i64 2,.bool true]) :
 StV F (Ac6 A B) Ib:=by
 have hsp:SpS F (some ⟨B,0,none⟩) 4 [(0,0),(1,0),(1,0),(0,0)]:=by
  refine⟨rfl,.inr ⟨B,0,rfl,fun k hk=>?_⟩⟩
  match k,hk with
  | 0,_=>exact⟨(h0.cell 0).trans rfl,(h0.cell 1).trans rfl⟩
  | 1,_=>exact⟨(h0.cell 2).trans rfl,(h0.cell 3).trans rfl⟩
  | 2,_=>exact⟨(h0.cell 4).trans rfl,(h0.cell 5).trans rfl⟩
  | 3,_=>exact⟨(h0.cell 6).trans rfl,(h0.cell 7).trans rfl⟩
 have hin:InS F (some ⟨B+1,0,none⟩) 4 [0,0,0,0]:=by
  refine⟨rfl,.inr ⟨B+1,0,rfl,fun k hk=>?_⟩⟩
  match k,hk with
  | 0,_=>exact(h1.cell 0).trans rfl
  | 1,_=>exact(h1.cell 1).trans rfl
  | 2,_=>exact(h1.cell 2).trans rfl
  | 3,_=>exact(h1.cell 3).trans rfl
 refine⟨_,2,_,2,_,1,_,1,none,0,none,0,rfl,⟨Nat.le_refl _,by omega,rfl,.inr ⟨_,0,rfl,fun k hk=>?_⟩⟩,⟨Nat.le_refl _,by omega,rfl,.inr ⟨_,0,rfl,fun k hk=>?_⟩⟩,⟨Nat.le_refl _,by omega,rfl,.inr ⟨_,0,rfl,fun k hk=>?_⟩⟩,⟨Nat.le_refl _,by omega,rfl,.inr ⟨_,0,rfl,fun k hk=>?_⟩⟩,⟨Nat.le_refl _,by omega,rfl,.inl rfl⟩,Nat.le_refl _,by omega⟩
 ·match k,hk with
  | 0,_=>exact⟨(h3.cell 0).trans rfl,by decide⟩
  | 1,_=>exact⟨(h3.cell 1).trans rfl,by decide⟩
 ·match k,hk with
  | 0,_=>exact(h4.cell 0).trans rfl
  | 1,_=>exact(h4.cell 1).trans rfl
 ·match k,hk with
  | 0,_ =>
    refine⟨_,⟨A,4,none,0,some ⟨B,0,none⟩,4,some ⟨B+1,0,none⟩,4,rfl,⟨Nat.le_refl _,by omega,hE⟩,⟨Nat.le_refl _,by omega,rfl,.inl rfl⟩,⟨Nat.le_refl _,by omega,hsp⟩,Nat.le_refl _,by omega,hin⟩,fun j u hj=>?_⟩
    rw[show 0+0*7+j=j by omega]
    exact(h5.cell j).trans hj
 ·match k,hk with
  | 0,_=>exact⟨(h6.cell 0).trans rfl,(h6.cell 1).trans rfl,(h6.cell 2).trans rfl⟩
theorem xl (w:World) :
 Calls Tryz.prog 23 #[] w fun e w'=>∃vs,e=.returned (.agg vs)/\StV w' vs Ib/\Below w.heap.size w w':=by
 go_enter Tryz.func23,Tryz.ntmps23
 go_upto_region 2 with (go_at_call 41;refine(iq _).mono ?_;rintro e w1 ⟨A,rfl,hE,hb1⟩)
 obtain⟨B,hB⟩:∃B,w1.heap.size=B:=⟨_,rfl⟩
 refine Ar (fun Y=>Below w1.heap.size w1 Y/\Bb Y B 49 #[.int .i64 0,.int .i64 0,.int .i64 1,.int .i64 0,.int .i64 1,.int .i64 0,.int .i64 0,.int .i64 0]/\Bb Y (B+1) 3 #[.int .i64 0,.int .i64 0,.int .i64 0,.int .i64 0]/\Bb Y (B+1+1) 64 #[.string ⟨#[102,114,111,110,116]⟩,.slice A 4 4,.int .i64 1,.slice none 0 0,.slice (some ⟨B,0,none⟩) 4 4,.slice (some ⟨B+1,0,none⟩) 4 4,.bool false]/\Y.heap.size=B+1+1+1) (by
  subst hB;refine⟨An (An (An (Below.refl _ _) _) _) _,((Bb.new _ _ _).alloc _).alloc _,(Bb.new2 _ _ _ _).alloc _,?_,by simp⟩
  rw[<-Dw w1 (.cells #[.int .i64 0,.int .i64 0,.int .i64 1,.int .i64 0,.int .i64 1,.int .i64 0,.int .i64 0,.int .i64 0] 49)];exact Bb.new2 _ _ _ _) ?_
 rintro Y ⟨hbY,hC,hW,hPc,hYs⟩;obtain⟨c0,c1,c2,c3,c4,c5,c6⟩:=st7 hPc;have hRY:Bb Y w.heap.size 29 #[.string ⟨#[]⟩,.slice none 0 0,.slice none 0 0,.slice none 0 0,.slice none 0 0,.slice none 0 0,.slice none 0 0]:=((Bb.new w _ _).keep hb1).keep hbY;have hR4:=fun o1 o2 o3 o4=>(((hRY.alloc o1).alloc o2).alloc o3).alloc o4
 have hP2:=fun o1 o2=>(hPc.alloc o1).alloc o2
 have r0:=fun o1 o2 o3 o4=>(st7 (hR4 o1 o2 o3 o4)).1
 have g0:=fun o1 o2 o3 o4=>(hR4 o1 o2 o3 o4).frozen 0
 have d0:=fun o1 o2=>(st7 (hP2 o1 o2)).1
 have r1:=fun o1 o2 o3 o4=>(st7 (hR4 o1 o2 o3 o4)).2.1
 have g1:=fun o1 o2 o3 o4=>(hR4 o1 o2 o3 o4).frozen 1
 have d1:=fun o1 o2=>(st7 (hP2 o1 o2)).2.1
 have r2:=fun o1 o2 o3 o4=>(st7 (hR4 o1 o2 o3 o4)).2.2.1
 have g2:=fun o1 o2 o3 o4=>(hR4 o1 o2 o3 o4).frozen 2
 have d2:=fun o1 o2=>(st7 (hP2 o1 o2)).2.2.1
 have r3:=fun o1 o2 o3 o4=>(st7 (hR4 o1 o2 o3 o4)).2.2.2.1
 have g3:=fun o1 o2 o3 o4=>(hR4 o1 o2 o3 o4).frozen 3
 have d3:=fun o1 o2=>(st7 (hP2 o1 o2)).2.2.2.1
 have r4:=fun o1 o2 o3 o4=>(st7 (hR4 o1 o2 o3 o4)).2.2.2.2.1
 have g4:=fun o1 o2 o3 o4=>(hR4 o1 o2 o3 o4).frozen 4
 have d4:=fun o1 o2=>(st7 (hP2 o1 o2)).2.2.2.2.1
 have r5:=fun o1 o2 o3 o4=>(st7 (hR4 o1 o2 o3 o4)).2.2.2.2.2.1
 have g5:=fun o1 o2 o3 o4=>(hR4 o1 o2 o3 o4).frozen 5
 have d5:=fun o1 o2=>(st7 (hP2 o1 o2)).2.2.2.2.2.1
 have r6:=fun o1 o2 o3 o4=>(st7 (hR4 o1 o2 o3 o4)).2.2.2.2.2.2
 have g6:=fun o1 o2 o3 o4=>(hR4 o1 o2 o3 o4).frozen 6
 have d6:=fun o1 o2=>(st7 (hP2 o1 o2)).2.2.2.2.2.2
 have hYs2:=hYs;rw[hB];go_wp2_with fail;clear r0 r1 r2 r3 r4 r5 r6 g0 g1 g2 g3 g4 g5 g6 d0 d1 d2 d3 d4 d5 d6 c0 c1 c2 c3 c4 c5 c6;obtain⟨s0,s1,s2,s3,s4,s5,s6⟩:=st7 ((((((((hR4 (.cells #[.string ⟨#[83]⟩,.string ⟨#[77]⟩] 9) (.cells #[.int .i64 0,.int .i64 2] 3) (.cells #[.string ⟨#[102,114,111,110,116]⟩,.slice A 4 4,.int .i64 1,.slice none 0 0,.slice (some ⟨B,0,none⟩) 4 4,.slice (some ⟨B+1,0,none⟩) 4 4,.bool false] 64) (.cells #[.int .i64 0,.int .i64 2,.bool true] 53)).set_ 0 (.string ⟨#[115,104,105,114,116]⟩)).set_ 1 (.slice (some ⟨B+1+1+1,0,none⟩) 2 2)).set_ 2 (.slice (some ⟨B+1+1+1+1,0,none⟩) 2 2)).set_ 3 (.slice (some ⟨B+1+1+1+1+1,0,none⟩) 1 1)).set_ 4 (.slice (some ⟨B+1+1+1+1+1+1,0,none⟩) 1 1)).set_ 5 (.slice none 0 0)).set_ 6 (.slice none 0 0));refine bodyPost_ret (v:=.agg (Ac6 A B)) (by simp[results,Tryz.results23,go_sem,s0,s1,s2,s3,s4,s5,s6,Ac6]) rfl ?_
 have hBw:w.heap.size<B:=by have:=hb1.size;rw[Dw] at this;omega
 refine⟨_,rfl,xk (hE _ fun k hk hk2=>?_) (Afh ((((hC.alloc _).alloc _).alloc _).alloc _) (by omega) _ _ _ _ _ _ _) (Afh ((((hW.alloc _).alloc _).alloc _).alloc _) (by omega) _ _ _ _ _ _ _) (Afh ((((Y5 _ (by omega)).alloc _).alloc _).alloc _) (by omega) _ _ _ _ _ _ _) (Afh (((Y5 _ (by simp;omega)).alloc _).alloc _) (by omega) _ _ _ _ _ _ _) (Afh ((Y5 _ (by simp;omega)).alloc _) (by omega) _ _ _ _ _ _ _) (Afh (Y5 _ (by simp;omega)) (by omega) _ _ _ _ _ _ _),Ak6 (An (An (An (An (Ao (Ao (An (Below.refl _ _) _) hb1) hbY) _) _) _) _) (Nat.le_refl _) _ _ _ _ _ _ _⟩
 rw[Dw] at hk;exact(Ahf (by omega) _ _ _ _ _ _ _).trans ((An (An (An (An hbY _) _) _) _).block k hk2)
theorem T8 (a b:List (Int×Int)):Dv a b=Dv b a:=by unfold Dv;omega
theorem du (ss ts:List (List (Int×Int))):1<=Fq ss ts ss.length->1<=Fq ts ss ts.length:=by
 rw[Ky (by omega),Ky (by omega)]
 rintro⟨i,hi,j,hj,h⟩;exact⟨j,hj,i,hi,by rw[T8];exact h⟩
theorem zm (ss ts:List (List (Int×Int))) (k:Nat):Fq ss ts k<=1:=by
 apply Classical.byContradiction;intro h;obtain⟨i,_,j,_,h2⟩:=(Ky (ss:=ss) (ts:=ts) (v:=2) (by omega) k).1 (by omega)
 have:=dr (lt_ ss i) (lt_ ts j);omega
theorem Tb {a b:List (Int×Int)} (h:Ej a b=(false,0)):Ej b a=(false,0):=by
 unfold Ej at h ⊢;by_cases ha:(Ba a).1=0
 ·by_cases hb:(Ba b).1=0
  ·rw[jh ha hb] at h
   rw[jh hb ha]
   have h1:¬Fq (Ba a).2 (Ba b).2 (Ba a).2.length=1:=by
    intro e;rw[e] at h;simp at h
   have h2:¬Fq (Ba b).2 (Ba a).2 (Ba b).2.length=1:=by
    intro e;have:=du (Ba b).2 (Ba a).2 (by omega)
    have:=zm (Ba a).2 (Ba b).2 (Ba a).2.length;omega
   simp[h2]
  ·rw[Abb ha hb] at h
   have:=congrArg Prod.snd h;exact absurd this hb
 ·rw[Abc ha] at h
  have:=congrArg Prod.snd h;exact absurd this ha
def tk (S:List Shp) (p q:Pt5):Prop:=Ej (Be S p).2 (Be S q).2=(false,0)
theorem eh {S:List Shp}:∀{p q:Pt5},tk S p q->tk S q p:=fun h=>Tb h
theorem Qa {S:List Shp} {r:List (Int×Int)} {ps:List Pt5}:∀k,Jh S r ps k=0↔∀j,j<k->(Be S (pt ps j)).1=0/\Ej (Be S (pt ps j)).2 r=(false,0)
 | 0=>by simp[Jh]
 | k+1=>by
   have ih:=Qa (S:=S) (r:=r) (ps:=ps) k;rw[Jh];constructor
   ·intro h
    split at h
    ·rename_i g;exact absurd h g
    ·rename_i g0
     split at h
     ·rename_i g;exact absurd h g
     ·rename_i g1
      split at h
      ·rename_i g;exact absurd h g
      ·rename_i g2
       split at h
       ·cases h
       ·rename_i g3
        intro j hj;rcases Nat.lt_or_ge j k with hk|hk
        ·exact(ih.1 (by simpa using g0)) j hk
        ·obtain rfl:j=k:=by omega
         exact⟨by simpa using g1,Prod.ext (by simpa using g3) (by simpa using g2)⟩
   ·intro h
    rw[if_neg (by rw[ih.2 fun j hj=>h j (by omega)];simp),if_neg (by rw[(h k (by omega)).1];simp),(h k (by omega)).2]
    simp
theorem Rg {b:Bed4} {S:List Shp} {ps:List Pt5} {p:Pt5}:Dm b S ps p=0↔Dm b S [] p=0/\∀j,j<ps.length->(Be S (pt ps j)).1=0/\tk S (pt ps j) p:=by
 unfold Dm tk;by_cases h0:Dc b=true
 ·simp[h0]
 ·rw[if_neg h0,if_neg h0]
  by_cases h1:(Be S p).1≠0
  ·rw[if_pos h1,if_pos h1]
   exact⟨fun h=>absurd h h1,fun h=>h.1⟩
  ·rw[if_neg h1,if_neg h1]
   unfold Lt;by_cases h2:Zf (shp S p.sh.toNat).grain false p.fl p.qu=false
   ·simp[h2]
   ·rw[if_neg h2,if_neg h2]
    by_cases h3:Bq (fun i=>Da b (gt (Be S p).2 i)) (Be S p).2.length=true
    ·simp[h3]
    ·rw[if_neg h3,if_neg h3]
     by_cases h4:((shp S p.sh.toNat).mat&&!tm b.rx b.ry (shp S p.sh.toNat).anc p)=true
     ·simp[h4]
     ·rw[if_neg h4,if_neg h4,Qa]
      exact⟨fun h=>⟨rfl,h⟩,fun h=>h.2⟩
theorem U6 {ps:List Pt5} {i j:Nat} (h:j<i):pt (ps.take i) j=pt ps j:=by
 unfold pt;simp[List.getD,h]
theorem Dy {ps:List Pt5} {i:Nat} (h:i<ps.length):pt ps i=ps[i]:=by
 unfold pt;rw[List.getD,List.getElem?_eq_getElem h];rfl
theorem L6 {b:Bed4} {S:List Shp} {ps:List Pt5}:Ic b S ps=0↔ps.length<=60/\(∀p∈ps,Dm b S [] p=0)/\ps.Pairwise (tk S):=by
 unfold Ic;by_cases h60:60<ps.length
 ·rw[if_pos h60]
  exact⟨fun h=>by omega,fun h=>by omega⟩
 ·rw[if_neg h60,Gj]
  have hl:∀i,i<ps.length->(ps.take i).length=i:=fun i hi=>by rw[List.length_take];omega
  constructor
  ·intro h
   refine⟨by omega,fun p hp=>?_,?_⟩
   ·obtain⟨i,hi,rfl⟩:=List.mem_iff_getElem.1 hp
    have:=(Rg.1 (h i hi)).1
    rwa [Dy hi] at this
   ·rw[List.pairwise_iff_getElem]
    intro i j hi hj hij;have:=(Rg.1 (h j hj)).2 i (by rw[hl j hj];exact hij)
    rw[U6 hij,Dy hi,Dy hj] at this;exact this.2
  ·rintro⟨_,h1,h2⟩ k hk
   rw[Rg,Dy hk];refine⟨h1 _ (List.getElem_mem hk),fun j hj=>?_⟩
   rw[hl k hk] at hj;have hjl:j<ps.length:=by omega
   rw[U6 hj,Dy hjl];refine⟨(Co (h1 _ (List.getElem_mem hjl))).2.1,?_⟩;rw[List.pairwise_iff_getElem] at h2;exact h2 j k hjl hk hj
theorem Kz {b:Bed4} {S:List Shp} {ps qs:List Pt5} (h:ps.Perm qs):Ic b S ps=0↔Ic b S qs=0:=by
 rw[L6,L6,h.length_eq,h.pairwise_iff eh];constructor
 ·rintro⟨a,b,c⟩;exact⟨a,fun p hp=>b p (h.mem_iff.2 hp),c⟩
 ·rintro⟨a,b,c⟩;exact⟨a,fun p hp=>b p (h.mem_iff.1 hp),c⟩
def kI (C:List PlcP) (p:PlcP):Int:=Pw C p C.length
def Kc (C:List PlcP) (p:PlcP):Pt5:=⟨kI C p,false,p.qu,p.x,p.y⟩
theorem Vl (C:List PlcP) (p:PlcP):∀n,Pw C p n<n
 | 0=>by simp[Pw]
 | n+1=>by
   rw[Pw];have:=Vl C p n;split<;>omega
theorem Dd {P:List PlcP} {i:Nat} (h:i<P.length):plc P i=P[i]:=by
 unfold plc;rw[List.getD,List.getElem?_eq_getElem h];rfl
theorem Ad0 {l:List Bool} {i t:Nat} (h:i<l.length):gbo (l.set i true) t=if i=t then true else gbo l t:=by
 unfold gbo;rw[List.getD,List.getD,List.getElem?_set];by_cases e:i=t
 ·subst e;simp[h]
 ·simp[e]
theorem Qm {P:List PlcP} {k:Nat} (h:k<P.length):P.take (k+1)=P.take k++[plc P k]:=by
 rw[List.take_succ_eq_append_getElem h,Dd h]
theorem I4 {C P:List PlcP}:∀k,k<=P.length->(Ft C P k).1=0->(∀p∈P.take k,0<=kI C p)/\((P.take k).map (kI C)).Nodup/\(Ft C P k).2.2=(P.take k).map (Kc C)/\(Ft C P k).2.1.length=C.length/\∀t:Nat,(gbo (Ft C P k).2.1 t=true↔(t:Int)∈(P.take k).map (kI C))
 | 0,_,_=>by
   refine⟨by simp,by simp,by simp[Ft],by simp[Ft],fun t=>?_⟩
   unfold Ft gbo;simp[List.getD,List.getElem?_replicate];split<;>simp
 | k+1,hk,h=>by
   have ih:=I4 (C:=C) (P:=P) k (by omega)
   rw[Ft] at h ⊢;split at h
   ·rename_i g;exact absurd h g
   ·rename_i g0
    obtain⟨i1,i2,i3,i4,i5⟩:=ih (by simpa using g0)
    rw[if_neg g0];split at h
    ·cases h
    ·rename_i g1
     rw[if_neg g1];split at h
     ·cases h
     ·rename_i g2
      rw[if_neg g2,Qm (by omega)]
      have hlt:(Pw C (plc P k) C.length).toNat<(Ft C P k).2.1.length:=by rw[i4];have:=Vl C (plc P k) C.length;omega
      have hnew:¬kI C (plc P k)∈(P.take k).map (kI C):=by
       intro hm
       have:=(i5 (Pw C (plc P k) C.length).toNat).2 (by
        have e:(((Pw C (plc P k) C.length).toNat:Nat):Int)=kI C (plc P k):=by unfold kI;omega
        rw[e];exact hm)
       exact g2 this
      refine⟨fun p hp=>?_,?_,?_,?_,fun t=>?_⟩
      ·rcases List.mem_append.1 hp with hp|hp
       ·exact i1 p hp
       ·simp at hp;subst hp;unfold kI;omega
      ·rw[List.map_append,List.nodup_append]
       exact⟨i2,by simp,fun a ha b hb e=>by simp at hb;subst hb;exact hnew (e ▸ ha)⟩
      ·rw[i3,List.map_append];rfl
      ·rw[List.length_set];exact i4
      ·dsimp only
       rw[Ad0 hlt,List.map_append,List.mem_append];by_cases e:(Pw C (plc P k) C.length).toNat=t
       ·rw[if_pos e]
        have:(t:Int)=kI C (plc P k):=by unfold kI;omega
        simp[this]
       ·rw[if_neg e,i5 t]
        have:¬(t:Int)=kI C (plc P k):=by unfold kI;omega
        simp[this]
theorem Wg {C P:List PlcP}:∀k,k<=P.length->(∀p∈P.take k,0<=kI C p)->((P.take k).map (kI C)).Nodup->(Ft C P k).1=0
 | 0,_,_,_=>rfl
 | k+1,hk,h1,h2=>by
   rw[Qm (by omega)] at h1 h2
   rw[List.map_append,List.nodup_append] at h2;have h0:=Wg (C:=C) (P:=P) k (by omega) (fun p hp=>h1 p (List.mem_append_left _ hp)) h2.1
   obtain⟨_,_,_,i4,i5⟩:=I4 k (by omega) h0
   have hk0:=h1 (plc P k) (by simp)
   rw[Ft,if_neg (by rw[h0];simp),if_neg (by unfold kI at hk0;omega)]
   rw[if_neg];intro hg;have hm:=(i5 _).1 hg;have e:(((Pw C (plc P k) C.length).toNat:Nat):Int)=kI C (plc P k):=by unfold kI at *;omega
   rw[e] at hm;exact h2.2.2 _ hm _ (by simp) rfl
def kt (c:PlcP):Int×Int×Int:=(c.ga,c.us,c.cp)
theorem Mv {c p:PlcP}:Aff c p=true↔kt c=kt p:=by
 unfold Aff kt;simp[and_assoc]
theorem To (C:List PlcP) (p:PlcP):∀n,(Pw C p n = -1/\∀t,t<n->Aff (plc C t) p=false)\/∃k:Nat,Pw C p n=k/\k<n/\Aff (plc C k) p=true
 | 0=>.inl ⟨rfl,fun t ht=>by omega⟩
 | n+1=>by
   rw[Pw];by_cases h:Aff (plc C n) p=true
   ·rw[if_pos h];exact .inr ⟨n,rfl,by omega,h⟩
   ·rw[if_neg h]
    rcases To C p n with ⟨h1,h2⟩|⟨k,h1,h2,h3⟩
    ·refine .inl ⟨h1,fun t ht=>?_⟩
     rcases Nat.lt_or_ge t n with g|g
     ·exact h2 t g
     ·obtain rfl:t=n:=by omega
      simpa using h
    ·exact .inr ⟨k,h1,by omega,h3⟩
theorem Ads {C:List PlcP} (hC:(C.map kt).Nodup) {p:PlcP} {i:Nat} (hi:i<C.length) (hp:kt p=kt (plc C i)):kI C p=i:=by
 unfold kI;rcases To C p C.length with ⟨_,h2⟩|⟨k,h1,h2,h3⟩
 ·have:=h2 i hi
  rw[Mv.2 hp.symm] at this;cases this
 ·rw[h1]
  have e:=Mv.1 h3;rw[hp,Dd h2,Dd hi] at e;have hp2:=List.pairwise_iff_getElem.1 hC;rcases Nat.lt_trichotomy k i with g|g|g
  ·exact absurd (by rw[List.getElem_map,List.getElem_map];exact e) (hp2 k i (by simpa using h2) (by simpa using hi) g)
  ·omega
  ·exact absurd (by rw[List.getElem_map,List.getElem_map];exact e.symm) (hp2 i k (by simpa using hi) (by simpa using h2) g)
theorem Jf (U:List UseP):∀i,((Fb U i).map kt).Nodup/\∀c∈Fb U i,0<=c.us/\c.us<i
 | 0=>by simp[Fb]
 | i+1=>by
   obtain⟨h1,h2⟩:=Jf U i;rw[Fb];refine⟨?_,fun c hc=>?_⟩
   ·rw[List.map_append,List.nodup_append]
    refine⟨h1,?_,fun a ha b hb e=>?_⟩
    ·rw[List.map_map]
     refine List.Pairwise.map _ ?_ List.nodup_range;intro a b hab e;have:=congrArg (fun z=>z.2.2) e
     simp[kt,dq] at this;exact hab (by omega)
    ·subst e
     obtain⟨c,hc,rfl⟩:=List.mem_map.1 ha;obtain⟨d,hd,e⟩:=List.mem_map.1 hb;obtain⟨k,_,rfl⟩:=List.mem_map.1 hd;have:=congrArg (fun z=>z.2.1) e
     simp[kt,dq] at this;have:=(h2 c hc).2;omega
   ·rcases List.mem_append.1 hc with hc|hc
    ·have:=h2 c hc;omega
    ·obtain⟨k,_,rfl⟩:=List.mem_map.1 hc
     unfold dq;dsimp only;omega
theorem p9 (s:StyleP):((Em s).map kt).Nodup:=by
 unfold Em;split
 ·simp
 ·exact(Jf _ _).1
def J2 (C:List PlcP):Nat->List PlcP
 | 0=>[]
 | j+1=>J2 C j++C.map (Ju · (j:Int))
theorem Ys (U:List UseP):∀i,∀c∈Fb U i,c.ga=0
 | 0=>by simp[Fb]
 | i+1=>by
   rw[Fb];intro c hc;rcases List.mem_append.1 hc with hc|hc
   ·exact Ys U i c hc
   ·obtain⟨k,_,rfl⟩:=List.mem_map.1 hc
    rfl
theorem Aes (s:StyleP):∀c∈Em s,c.ga=0:=by
 unfold Em;split
 ·simp
 ·exact Ys _ _
theorem P9 {C:List PlcP} (hC:(C.map kt).Nodup) (h0:∀c∈C,c.ga=0):∀j,((J2 C j).map kt).Nodup/\∀c∈J2 C j,c.ga<j
 | 0=>by simp[J2]
 | j+1=>by
   obtain⟨h1,h2⟩:=P9 hC h0 j;rw[J2];refine⟨?_,fun c hc=>?_⟩
   ·rw[List.map_append,List.nodup_append]
    refine⟨h1,?_,fun a ha b hb e=>?_⟩
    ·rw[List.map_map]
     have hC':C.Pairwise fun a b=>kt a≠kt b:=List.pairwise_map.1 hC
     refine List.pairwise_map.2 (List.Pairwise.imp_of_mem ?_ hC');intro a b ha hb hab e;refine hab ?_;have e1:=congrArg (fun z=>z.2.1) e
     have e2:=congrArg (fun z=>z.2.2) e
     simp[kt,Ju] at e1 e2;unfold kt;rw[h0 a ha,h0 b hb,e1,e2]
    ·subst e
     obtain⟨c,hc,rfl⟩:=List.mem_map.1 ha;obtain⟨d,hd,e⟩:=List.mem_map.1 hb;obtain⟨k,_,rfl⟩:=List.mem_map.1 hd;have:=congrArg (fun z=>z.1) e
     simp[kt,Ju] at this;have:=h2 c hc;omega
   ·rcases List.mem_append.1 hc with hc|hc
    ·have:=h2 c hc;omega
    ·obtain⟨k,_,rfl⟩:=List.mem_map.1 hc
     unfold Ju;dsimp only;omega
theorem Uz {s:StyleP} {z j:Int} {C:List PlcP} {a:Int×List Shp×List PlcP}:∀k,k<=C.length->(Lj s z j C a k).1=0 ->
 a.1=0/\(∀c∈C.take k,(F8 s z c).2=0)/\Lj s z j C a k=(0,a.2.1++(C.take k).map (fun c=>(F8 s z c).1),a.2.2++(C.take k).map (Ju · j))
 | 0,_,h=>by
   refine⟨h,by simp,?_⟩
   simp[Lj];exact Prod.ext h rfl
 | k+1,hk,h=>by
   rw[Lj] at h ⊢;split at h
   ·rename_i g;exact absurd h g
   ·rename_i g0
    obtain⟨h1,h2,h3⟩:=Uz (s:=s) (z:=z) (j:=j) (C:=C) (a:=a) k (by omega) (by simpa using g0)
    split at h
    ·rename_i g;exact absurd h g
    ·rename_i g1
     rw[if_neg g0,if_neg g1,h3,Qm (by omega)]
     refine⟨h1,fun c hc=>?_,by simp⟩
     rcases List.mem_append.1 hc with hc|hc
     ·exact h2 c hc
     ·simp at hc;subst hc;simpa using g1
def O5 (s:StyleP) (Z:List Int) (C:List PlcP):Nat->List Shp
 | 0=>[]
 | j+1=>O5 s Z C j++C.map (fun c=>(F8 s (gi Z j) c).1)
theorem Uy {s:StyleP} {Z:List Int} {C:List PlcP}:∀j,(Li s Z C j).1=0->Li s Z C j=(0,O5 s Z C j,J2 C j)/\∀i,i<j->∀c∈C,(F8 s (gi Z i) c).2=0
 | 0,_=>⟨rfl,fun i hi=>by omega⟩
 | j+1,h=>by
   rw[Li] at h ⊢;split at h
   ·rename_i g;exact absurd h g
   ·rename_i g0
    obtain⟨h1,h2⟩:=Uy (s:=s) (Z:=Z) (C:=C) j (by simpa using g0)
    obtain⟨_,h4,h5⟩:=Uz C.length (Nat.le_refl _) h;rw[List.take_length] at h4 h5;rw[if_neg g0,h5,h1];refine⟨rfl,fun i hi c hc=>?_⟩
    rcases Nat.lt_or_ge i j with g|g
    ·exact h2 i g c hc
    ·obtain rfl:i=j:=by omega
     exact h4 c hc
theorem Hi (C:List PlcP):∀j,(J2 C j).length=j*C.length
 | 0=>by simp[J2]
 | j+1=>by rw[J2,List.length_append,Hi C j,List.length_map,Nat.add_mul];omega
theorem Hm (s:StyleP) (Z:List Int) (C:List PlcP):∀j,(O5 s Z C j).length=j*C.length
 | 0=>by simp[O5]
 | j+1=>by rw[O5,List.length_append,Hm s Z C j,List.length_map,Nat.add_mul];omega
theorem Fi {s:StyleP} {Z:List Int} (h:(Bd s Z).1=0):Bd s Z=(0,O5 s Z (Em s) Z.length,J2 (Em s) Z.length)/\Bt s=0/\1<=Z.length/\Z.length<=6 /\
 (∀i,i<Z.length->0<=gi Z i/\gi Z i<s.sz.length)/\(Em s).length*Z.length<=60/\∀i,i<Z.length->∀c∈Em s,(F8 s (gi Z i) c).2=0:=by
 unfold Bd at h ⊢;split at h
 ·rename_i g;exact absurd h g
 ·rename_i g0
  split at h
  ·cases h
  ·rename_i g1
   split at h
   ·cases h
   ·rename_i g2
    split at h
    ·cases h
    ·rename_i g3
     rw[if_neg g0,if_neg g1,if_neg g2,if_neg g3];obtain⟨h1,h2⟩:=Uy _ h;refine⟨h1,by simpa using g0,by omega,by omega,fun i hi=>?_,by omega,h2⟩
     cases hb:(decide (gi Z i<0) || decide ((s.sz.length:Int)<=gi Z i)) with
     | true=>exact absurd (Bq.yes (f:=fun i=>decide (gi Z i<0) || decide ((s.sz.length:Int)<=gi Z i)) hi hb) g2
     | false=>simp at hb;omega
theorem Uw {s:StyleP} {Z:List Int} (h:(Bd s Z).1=0):((Bd s Z).2.2.map kt).Nodup:=by
 rw[(Fi h).1];exact(P9 (p9 s) (Aes s) _).1
theorem Cb {C:List PlcP} {P:List Pt5}:∀k,(Cp C P k).length=C.length/\∀i,i<C.length->kt (plc (Cp C P k) i)=kt (plc C i)/\(plc (Cp C P k) i).fl=(plc C i).fl
 | 0=>⟨rfl,fun _ _=>⟨rfl,rfl⟩⟩
 | k+1=>by
   obtain⟨h1,h2⟩:=Cb (C:=C) (P:=P) k;rw[Cp];refine⟨by rw[List.length_set,h1],fun i hi=>?_⟩
   have e:plc ((Cp C P k).set (pt P k).sh.toNat (az (plc (Cp C P k) (pt P k).sh.toNat) (pt P k))) i=if (pt P k).sh.toNat=i then az (plc (Cp C P k) (pt P k).sh.toNat) (pt P k) else plc (Cp C P k) i:=by
    unfold plc;rw[List.getD,List.getD,List.getElem?_set];by_cases g:(pt P k).sh.toNat=i
    ·rw[if_pos g,if_pos g,if_pos (by omega)];rfl
    ·rw[if_neg g,if_neg g];rfl
   rw[e];by_cases g:(pt P k).sh.toNat=i
   ·rw[if_pos g,g]
    exact h2 i hi
   ·rw[if_neg g]
    exact h2 i hi
theorem Amh {s:StyleP} {b:Bed4} {Z:List Int} (h:(Bz s b Z).1=0):(Bd s Z).1=0/\(Bz s b Z).2.sz=Z/\∃P k,(Bz s b Z).2.pl=Cp (Bd s Z).2.2 P k:=by
 unfold Bz at h ⊢;split at h
 ·rename_i g;exact absurd h g
 ·rename_i g0
  split at h
  ·rename_i g;exact absurd h g
  ·rename_i g1
   split at h
   ·rename_i g;exact absurd h g
   ·rename_i g2
    rw[if_neg g0,if_neg g1,if_neg g2];exact⟨by simpa using g0,rfl,_,_,rfl⟩
theorem Abm {C:List PlcP} (hC:(C.map kt).Nodup) (P:List Pt5) (k:Nat):(Cp C P k).map (kI C)=(List.range C.length).map fun i:Nat=>(i:Int):=by
 obtain⟨h1,h2⟩:=Cb (C:=C) (P:=P) k;apply List.ext_getElem
 ·simp[h1]
 ·intro i hi hi2
  simp at hi hi2;have h3:=Ads hC hi2 (h2 i hi2).1;rw[Dd (by omega)] at h3
  simpa using h3
theorem L9 (n:Nat):((List.range n).map fun i:Nat=>(i:Int)).Nodup:=by
 refine List.Pairwise.map _ ?_ List.nodup_range;intro a b hab e;exact hab (by omega)
theorem pj {s:StyleP} {b:Bed4} {Z:List Int} (h:(Bz s b Z).1=0) {i:Nat} (hi:i<(Bz s b Z).2.pl.length) :
 (Fs s { (Bz s b Z).2 with pl:=(Bz s b Z).2.pl.take i++(Bz s b Z).2.pl.drop (i+1) }).1=20/\(Fs s { (Bz s b Z).2 with pl:=(Bz s b Z).2.pl++[plc (Bz s b Z).2.pl i] }).1=7:=by
 obtain⟨h0,h1,P,k,h2⟩:=Amh h;have hC:=Uw h0;obtain⟨C,hCe⟩:∃C,(Bd s Z).2.2=C:=⟨_,rfl⟩
 obtain⟨S,hSe⟩:∃S,(Bd s Z).2.1=S:=⟨_,rfl⟩
 rw[hCe] at hC h2;obtain⟨m,hm⟩:∃m,(Bz s b Z).2=m:=⟨_,rfl⟩
 rw[hm] at h1 h2 hi ⊢;have hk:=Abm hC P k;rw[<-h2] at hk;have hn:m.pl.length=C.length:=by rw[h2];exact(Cb k).1
 have hki:∀j,j<C.length->kI C (plc m.pl j)=j:=fun j hj=>by
  rw[h2];exact Ads hC hj ((Cb k).2 j hj).1
 have hpos:∀p∈m.pl,0<=kI C p:=by
  intro p hp;have:kI C p∈m.pl.map (kI C):=List.mem_map.2 ⟨p,hp,rfl⟩;rw[hk] at this;obtain⟨j,_,e⟩:=List.mem_map.1 this;omega
 have hnd:(m.pl.map (kI C)).Nodup:=by rw[hk];exact L9 _
 constructor
 ·unfold Fs
  dsimp only;rw[h1,if_neg (by rw[h0];simp),hCe,hSe]
  unfold Aaj;dsimp only;obtain⟨Q,hQ⟩:∃Q,m.pl.take i++m.pl.drop (i+1)=Q:=⟨_,rfl⟩
  have hsub:Q.Sublist m.pl:=by
   rw[<-hQ,<-List.eraseIdx_eq_take_drop_succ];exact List.eraseIdx_sublist _ _
  rw[hQ];have hT:Q.take Q.length=Q:=List.take_length;have g0:=Wg (C:=C) (P:=Q) Q.length (Nat.le_refl _) (by rw[hT];exact fun p hp=>hpos p (hsub.subset hp)) (by rw[hT];exact(hsub.map _).nodup hnd)
  obtain⟨_,_,_,_,g5⟩:=I4 (C:=C) (P:=Q) Q.length (Nat.le_refl _) g0;rw[hT] at g5;rw[if_neg (by rw[g0];simp),if_pos]
  refine Bq.yes (k:=i) (by omega) ?_
  have:¬(i:Int)∈Q.map (kI C):=by
   intro hm2
   have e1:(m.pl.map (kI C))=(m.pl.map (kI C)).take i++[(i:Int)]++(m.pl.map (kI C)).drop (i+1):=by
    have e2:(m.pl.map (kI C))[i]'(by simpa using hi)=(i:Int):=by
     have:=hki i (by omega)
     rw[Dd hi] at this;simpa using this
    rw[<-e2,<-List.take_succ_eq_append_getElem,List.take_append_drop]
   rw[e1] at hnd;rw[<-hQ,List.map_append,List.map_take,List.map_drop] at hm2;rw[List.append_assoc,List.nodup_append] at hnd;obtain⟨_,n2,n3⟩:=hnd;rcases List.mem_append.1 hm2 with q|q
   ·exact n3 _ q (i:Int) (by simp) rfl
   ·rw[List.nodup_append] at n2
    exact n2.2.2 (i:Int) (by simp) _ q rfl
  cases hg:gbo (Ft C Q Q.length).2.1 i with
  | false=>rfl
  | true=>exact absurd ((g5 i).1 hg) this
 ·unfold Fs
  dsimp only;rw[h1,if_neg (by rw[h0];simp),hCe,hSe]
  unfold Aaj;dsimp only;obtain⟨Q,hQ⟩:∃Q,m.pl++[plc m.pl i]=Q:=⟨_,rfl⟩
  rw[hQ];have hl:Q.length=m.pl.length+1:=by rw[<-hQ];simp
  have hT:Q.take m.pl.length=m.pl:=by rw[<-hQ];simp
  have g0:=Wg (C:=C) (P:=Q) m.pl.length (by omega) (by rw[hT];exact hpos) (by rw[hT];exact hnd)
  obtain⟨_,_,_,_,g5⟩:=I4 (C:=C) (P:=Q) m.pl.length (by omega) g0
  rw[hT,hk] at g5;have hq:plc Q m.pl.length=plc m.pl i:=by rw[<-hQ];unfold plc;simp[List.getD]
  have hi2:=hki i (by omega)
  have g7:(Ft C Q Q.length).1=7:=by
   rw[hl,Ft,if_neg (by rw[g0];simp),hq]
   unfold kI at hi2;rw[hi2,if_neg (by omega),if_pos]
   exact(g5 _).2 (List.mem_map.2 ⟨i,by simp;omega,by omega⟩)
  rw[if_pos (by rw[g7];simp)]
  exact g7
section
open Ieee
theorem iu {m k a:Nat} (h:m<2 ^ k):m <<< a<2 ^ (k+a):=by
 rw[Nat.shiftLeft_eq,Nat.pow_add];exact Nat.mul_lt_mul_of_pos_right h (Nat.two_pow_pos _)
theorem Qb {m k a:Nat} (h:m<2 ^ (k+a)):m / 2 ^ a<2 ^ k:=by
 rw[Nat.div_lt_iff_lt_mul (Nat.two_pow_pos _),<-Nat.pow_add];exact h
theorem b2n (b:Bool):b.toNat<=1:=by cases b<;>simp
theorem Ah7 (w:Toward) (neg:Bool) {n drop k:Nat} (h:n<2 ^ (k+drop)):w.cut neg n drop<=2 ^ k:=by
 unfold Toward.cut;dsimp only
 have hl:n / 1 <<< min drop (n.log2+2)<2 ^ k:=by
  rw[Nat.shiftLeft_eq,Nat.one_mul];rcases Nat.le_total drop (n.log2+2) with g|g
  ·rw[Nat.min_eq_left g];exact Qb h
  ·rw[Nat.min_eq_right g]
   have:n<2 ^ (n.log2+1):=Nat.lt_log2_self;have h2:n / 2 ^ (n.log2+2)=0:=Nat.div_eq_of_lt (Nat.lt_trans this (Nat.pow_lt_pow_right (by decide) (by omega)))
   rw[h2];exact Nat.two_pow_pos _
 have hb:∀b:Bool,n / 1 <<< min drop (n.log2+2)+b.toNat<=2 ^ k:=fun b=>by have:=b2n b;omega
 exact hb _
theorem V6 (neg:Bool) {n drop k:Nat} (h:n<2 ^ (k+drop)):Toward.zero.cut neg n drop<2 ^ k:=by
 unfold Toward.cut;dsimp only;rw[Nat.shiftLeft_eq,Nat.one_mul];simp only[Bool.toNat_false,Nat.add_zero];rcases Nat.le_total drop (n.log2+2) with g|g
 ·rw[Nat.min_eq_left g];exact Qb h
 ·rw[Nat.min_eq_right g]
  have:n<2 ^ (n.log2+1):=Nat.lt_log2_self;have h2:n / 2 ^ (n.log2+2)=0:=Nat.div_eq_of_lt (Nat.lt_trans this (Nat.pow_lt_pow_right (by decide) (by omega)))
  rw[h2];exact Nat.two_pow_pos _
theorem lp:double.leastPlace = -1074:=by decide
theorem bin:double.binade=2 ^ 52:=rfl
theorem sw:double.signWeight=2 ^ 63:=rfl
theorem inf:double.infRung=2047*2 ^ 52:=by decide
theorem Acx {r e:Nat} (he:e<=2000) (h:r<=e*2 ^ 52+2 ^ 53):∃m i,double.read r=.number false m i/\m<2 ^ 53 /\ -1074<=i/\i <= -1074+e+1:=by
 have h63:r<2 ^ 63:=by omega
 unfold Format.read;rw[sw,bin,inf,lp,Nat.div_eq_of_lt h63,Nat.mod_eq_of_lt h63];dsimp only;have hn:(0 % 2 == 1)=false:=by decide
 rw[hn];by_cases h1:r<2 ^ 52
 ·rw[if_pos h1]
  exact⟨_,_,rfl,by omega,by omega,by omega⟩
 ·rw[if_neg h1,if_pos (by omega)]
  refine⟨_,_,rfl,?_,?_,?_⟩
  ·have:=Nat.mod_lt r (show 0<2 ^ 52 by decide);omega
  ·omega
  ·have:r / 2 ^ 52<=e+2:=by omega
   omega
theorem an {mag:Nat} {place:Int} {L:Nat} (h0:mag≠0) (hL:mag.log2=L) (h1 : -1074<=place+L-52):double.nearest false mag place<=(place+L-52+1074).toNat*2 ^ 52+2 ^ 53:=by
 unfold Format.nearest;rw[if_neg h0];dsimp only
 have e:max (place+(mag.log2:Int)-(double.fractionBits:Int)) double.leastPlace=place+L-52:=by
  rw[lp,hL];show max (place+(L:Int)-52) (-1074)=_;omega
 rw[e,lp,bin,inf];unfold Format.word;rw[if_neg (by simp)]
 refine Nat.le_trans (Nat.min_le_left _ _) ?_;have hm:mag<2 ^ (L+1):=by rw[<-hL];exact Nat.lt_log2_self
 have hk:Toward.even.cut false (mag <<< (place-(place+L-52)).toNat) (place+L-52-place).toNat<=2 ^ 53:=by
  apply Ah7;refine Nat.lt_of_lt_of_le (iu hm) (Nat.pow_le_pow_right (by decide) (by omega))
 have:(place+↑L-52 - -1074).toNat=(place+↑L-52+1074).toNat:=by omega
 rw[this];omega
theorem U4 (n:Nat):∀todo root,Datum.rootFrom n todo root<root+2 ^ todo:=by
 intro todo;induction todo with
 | zero=>intro root;simp[Datum.rootFrom]
 | succ t ih =>
   intro root;rw[Datum.rootFrom];have e:1 <<< t=2 ^ t:=by rw[Nat.shiftLeft_eq,Nat.one_mul]
   rw[e];have:=ih (root+2 ^ t);have:=ih root;rw[Nat.pow_succ];split<;>omega
theorem Ph {mag:Nat} {place:Int} {L:Nat} (h0:mag≠0) (hL:mag.log2<=L) (h1 : -1074<=place+mag.log2-52) (h2:place+L<=500):∃m i,double.read (double.write (.number false mag place))=.number false m i/\m<2 ^ 53 /\ -1074<=i/\i<=place+L-51:=by
 have h:=an h0 rfl h1;obtain⟨m,i,a,b,c,d⟩:=Acx (e:=(place+mag.log2-52+1074).toNat) (by omega) h
 exact⟨m,i,a,b,c,by omega⟩
theorem ff (place:Int):double.write (.number false 0 place)=0:=rfl
theorem Agd:double.read 0=.number false 0 (-1074):=by decide
theorem Jc {m k:Nat} (h:m<2 ^ (k+1)):m.log2<=k:=by
 rcases Nat.eq_zero_or_pos m with rfl|h0
 ·simp
 ·have:=(Nat.log2_lt (by omega:m≠0)).2 h
  omega
theorem Zp {n:Nat} (hn:n<2 ^ 50):∃r,double.sqrt (double.write (.number false n 0))=some r/\∃z:Nat,(double.read r).toInt .zero=some (z:Int)/\z<2 ^ 30:=by
 have zero:∃z:Nat,(double.read 0).toInt .zero=some (z:Int)/\z<2 ^ 30:=⟨0,by rw[Agd];rfl,by decide⟩
 by_cases h0:n=0
 ·subst h0
  refine⟨0,?_,zero⟩;rw[ff];unfold Format.sqrt;rw[Agd];rfl
 ·obtain⟨m,i,hr,hm,hi1,hi2⟩:=Ph (L:=49) h0 (Jc hn) (by omega) (by omega:(0:Int)+(49:Nat)<=500)
  unfold Format.sqrt;rw[hr];unfold Datum.root;by_cases hm0:m=0
  ·subst hm0
   exact⟨_,by simp only[if_true,Option.map_some,ff],zero⟩
  ·simp only[if_neg hm0,Bool.false_eq_true,if_false]
   have hml:m.log2<=52:=Jc hm;have e54:2*(double.fractionBits+2)=108:=rfl;rw[e54];obtain⟨mo,hmo⟩:∃mo,108-m.log2+((i-((108-m.log2:Nat):Int)) % 2).toNat=mo:=⟨_,rfl⟩
   have hmo2:mo<=109:=by omega
   rw[hmo];obtain⟨N,hN⟩:∃N,m <<< mo=N:=⟨_,rfl⟩
   rw[hN];have hNl:N.log2<=52+mo:=Jc (by rw[<-hN];have:=iu (a:=mo) hm;rw[show 52+mo+1=53+mo by omega];exact this)
   have hw:=U4 N (N.log2 / 2+1) 0;obtain⟨W,hW⟩:∃W,Datum.rootFrom N (N.log2 / 2+1) 0=W:=⟨_,rfl⟩
   rw[hW] at hw ⊢;have hb:=b2n (W*W != N);obtain⟨b,hbb⟩:∃b,(W*W != N).toNat=b:=⟨_,rfl⟩
   rw[hbb] at hb ⊢;have hmag:2*W+b<2 ^ (N.log2 / 2+1+1):=by rw[Nat.pow_succ];omega
   by_cases hz:2*W+b=0
   ·rw[hz];exact⟨_,rfl,by rw[ff];exact zero⟩
   ·refine⟨_,rfl,?_⟩
    have hl:=Jc hmag;obtain⟨m2,i2,hr2,hm2,hj1,hj2⟩:=Ph (L:=N.log2 / 2+1) (place:=(i-(mo:Int)) / 2-1) hz hl (by omega) (by omega)
    rw[hr2];refine⟨Toward.zero.cut false (m2 <<< i2.toNat) (-i2).toNat,?_,?_⟩
    ·unfold Datum.toInt Datum.integral;simp[signed]
    ·apply V6
     refine Nat.lt_of_lt_of_le (iu hm2) (Nat.pow_le_pow_right (by decide) (by omega))
end
end Go.Proofs.YtpbchbcdgikonaaGreat
