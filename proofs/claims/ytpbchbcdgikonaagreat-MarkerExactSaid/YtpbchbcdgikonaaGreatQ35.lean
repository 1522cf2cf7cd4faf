/- Lean texts of the claim. -/
import Derived.Test.YtpbchbcdgikonaaGreatQ34
import Derived.BigRegion
namespace Go.Proofs.YtpbchbcdgikonaaGreat
set_option linter.unusedVariables false
set_option linter.unusedSimpArgs false
set_option maxRecDepth 100000
set_option maxHeartbeats 4000000
open Go.RowKit
section
open Go.ChangeShapes Go.WideShapes Go.ChangeAt Go.RowKit Go.Deep Go.Joins
section
variable {H : Type} {enc : TypeId × Value -> H} {w : World} {base b0 : Nat} {spare : Nat -> Bool} {held : Bool} {fuel : Nat} {cs : List Value} {x : DataW H × List MemPlace} {r : Reach} {v : Value} {d : DataW H} {p : List MemPlace}
theorem ui {P:Program} {t:TypeId} {fs:Array Field} (ht:P.underlying t=some (.struct fs)) (h:DataW.trod enc P w base spare held fuel t cs=some x) :
 cs.length=P.cellsOf t/\∃n,∀(i:Nat) (f:Field),fs[i]? = some f->∃y,DataW.trod enc P w base spare held n f.type ((cs.drop f.offset).take (P.cellsOf f.type))=some y:=by
 obtain⟨xs,n,_,_,hl,hlen,hf⟩:=DataW.trod_struct ht h;refine⟨hl,n,fun i f hif=>?_⟩
 have hi:i<fs.size:=by
  rcases Nat.lt_or_ge i fs.size with g|g
  ·exact g
  ·rw[Array.getElem?_eq_none g] at hif;cases hif
 exact⟨xs[i]'(by omega),by rw[hf i f hif,List.getElem?_eq_getElem]⟩
theorem Wu {P:Program} {t e:TypeId} {u:Value} (ht:P.underlying t=some (.slice e)) (h:DataW.trod enc P w base spare held fuel t [u]=some x):∃A n c,u=.slice A n c:=by
 rcases open_slice ht h with ⟨g,-⟩|⟨a,len,cap,m,k,D,Pl,g,-⟩
 ·simp at g;exact⟨_,_,_,g⟩
 ·simp at g;exact⟨_,_,_,g⟩
theorem Fk {α:Type} [Inhabited α] {P:Program} {t e:TypeId} {sz:Nat} {A:Option Addr} {n c:Nat} (Q:Nat->Nat->α->Prop) (ht:P.underlying t=some (.slice e)) (hc:P.cellsOf e=sz) (hs:0<sz)
 (hel:∀fuel cs' y b o,w.cells? base ⟨b,o,none⟩ sz=some cs'->DataW.trod enc P w base spare held fuel e cs'=some y->∃q,Q b o q)
 (h:DataW.trod enc P w base spare held fuel t [.slice A n c]=some x) :
 n<=c/\c<=9223372036854775807/\(A=none->c=0)/\∃l:List α,l.length=n/\(n=0\/∃b off,A=some ⟨b,off,none⟩/\∀k,k<n->Q b (off+k*sz) (l.getD k default)):=by
 rcases open_slice ht h with ⟨h1,-⟩|⟨a,len,cap,m,k,D,Pl,h1,h2,h3,h4,h5,-,h6⟩
 ·simp at h1
  obtain⟨rfl,rfl,rfl⟩:=h1;exact⟨Nat.le_refl _,by omega,fun _=>rfl,[],rfl,.inl rfl⟩
 ·simp at h1
  obtain⟨rfl,rfl,rfl⟩:=h1;refine⟨h3,by unfold maxLen at h4;exact h4,(fun h=>by cases h),?_⟩
  have hm:n<=m:=by rw[h5];split<;>omega
  rw[hc] at h6;rcases Nat.eq_zero_or_pos n with h0|h0
  ·exact⟨[],by simp[h0],.inl h0⟩
  ·obtain⟨cs0,g0,-⟩:=h6 0 (by omega)
   rw[Nat.zero_mul,Dt] at g0;have hl0:=(World.cells?_some g0).2.1
   have ea:a=⟨a.block,a.off,none⟩:=by
    have c0:=Bs g0 hs;rw[Dt] at c0;have:∃u,cs0[0]? = some u:=⟨_,List.getElem?_eq_getElem (by omega)⟩
    obtain⟨u,hu⟩:=this;rw[hu] at c0;exact Qk c0
   obtain⟨f,hf⟩:=choose_lt (n:=n) (p:=fun i q=>Q a.block (a.off+i*sz) q) fun i hi=>by
    obtain⟨cs',g1,g2⟩:=h6 i (by omega)
    rw[ea,K9] at g1;exact hel _ _ _ _ _ g1 g2
   refine⟨(List.range n).map f,by simp,.inr ⟨a.block,a.off,by rw[<-ea],fun k hk=>?_⟩⟩
   have e:((List.range n).map f).getD k default=f k:=by simp[List.getD,hk]
   rw[e];exact hf k hk
theorem M6:Tryz.prog.cellsOf 9=1:=by kernel_rfl
theorem Uj:Tryz.prog.cellsOf 101=2:=by kernel_rfl
theorem Qf:Tryz.prog.cellsOf 262=2:=by kernel_rfl
theorem Yy:Tryz.prog.cellsOf 53=3:=by kernel_rfl
theorem Ui:Tryz.prog.cellsOf 142=6:=by kernel_rfl
theorem Qe:Tryz.prog.cellsOf 64=7:=by kernel_rfl
theorem Qc:Tryz.prog.cellsOf 29=7:=by kernel_rfl
theorem re:Tryz.prog.cellsOf 35=12:=by kernel_rfl
theorem zw:Tryz.prog.cellsOf 22=1:=by kernel_rfl
theorem M7:Tryz.prog.cellsOf 23=1:=by kernel_rfl
theorem zv:Tryz.prog.cellsOf 24=1:=by kernel_rfl
theorem zu:Tryz.prog.cellsOf 25=1:=by kernel_rfl
theorem zt:Tryz.prog.cellsOf 26=1:=by kernel_rfl
theorem zr:Tryz.prog.cellsOf 27=1:=by kernel_rfl
theorem zq:Tryz.prog.cellsOf 61=1:=by kernel_rfl
theorem zp:Tryz.prog.cellsOf 62=1:=by kernel_rfl
instance:Inhabited EdgeP:=⟨⟨ByteArray.empty,[]⟩⟩
instance:Inhabited PieceP:=⟨⟨ByteArray.empty,[],0,[],[],[],false⟩⟩
instance:Inhabited UseP:=⟨⟨0,0,false⟩⟩
instance:Inhabited SeamP:=⟨⟨0,0,0,0,false,0⟩⟩
instance:Inhabited PlcP:=⟨⟨0,0,0,false,0,0,0⟩⟩
instance:Inhabited ByteArray:=⟨ByteArray.empty⟩
theorem et {u:Value} (h:DataW.trod enc Tryz.prog w base spare held fuel 3 [u]=some x):∃z,u=.int .i64 z:=by
 obtain⟨z,e,-⟩:=DataW.trod_int Tryz.underlying3 h;simp at e;exact⟨z,e⟩
theorem Acf {u:Value} (h:DataW.trod enc Tryz.prog w base spare held fuel 4 [u]=some x):∃z,u=.bool z:=by
 obtain⟨z,e,-⟩:=DataW.trod_bool Tryz.underlying4 h;simp at e;exact⟨z,e⟩
theorem Ai8 {u:Value} (h:DataW.trod enc Tryz.prog w base spare held fuel 9 [u]=some x):∃z:ByteArray,u=.string z/\z.size<=9223372036854775807:=by
 obtain⟨z,e,-,hz⟩:=DataW.trod_string Tryz.underlying9 h;simp at e;exact⟨z,e,by unfold maxLen at hz;exact hz⟩
theorem Kp {A:Option Addr} {n c:Nat} (h:DataW.trod enc Tryz.prog w base spare held fuel 23 [.slice A n c]=some x):n<=c/\c<=9223372036854775807/\(A=none->c=0)/\∃l,InS w A n l:=by
 obtain⟨h1,h2,h3,l,h4,h5⟩:=Fk (α:=Int) (fun b o q=>w.cell? ⟨b,o,none⟩=some (.int .i64 q)) Tryz.underlying23 En (by decide) (fun fuel cs' y b o g1 g2=>by
  obtain⟨z,rfl,-⟩:=DataW.trod_int Tryz.underlying3 g2;have c0:=Bs g1 (show 0<1 by omega)
  rw[Dt] at c0;exact⟨z,c0⟩) h
 refine⟨h1,h2,h3,l,h4,?_⟩;rcases h5 with h5|⟨b,off,e,h5⟩
 ·exact .inl h5
 ·exact .inr ⟨b,off,e,fun k hk=>by have:=h5 k hk;rw[Nat.mul_one] at this;exact this⟩
theorem gj {A:Option Addr} {n c:Nat} (h:DataW.trod enc Tryz.prog w base spare held fuel 22 [.slice A n c]=some x):n<=c/\c<=9223372036854775807/\(A=none->c=0)/\∃l,StS w A n l:=by
 obtain⟨h1,h2,h3,l,h4,h5⟩:=Fk (α:=ByteArray) (fun b o q=>w.cell? ⟨b,o,none⟩=some (.string q)/\q.size<=9223372036854775807) Tryz.underlying22 M6 (by decide) (fun fuel cs' y b o g1 g2=>by
  obtain⟨z,rfl,-,hz⟩:=DataW.trod_string Tryz.underlying9 g2;have c0:=Bs g1 (show 0<1 by omega)
  rw[Dt] at c0;exact⟨z,c0,by unfold maxLen at hz;exact hz⟩) h
 refine⟨h1,h2,h3,l,h4,?_⟩;rcases h5 with h5|⟨b,off,e,h5⟩
 ·exact .inl h5
 ·exact .inr ⟨b,off,e,fun k hk=>by have:=h5 k hk;rw[Nat.mul_one] at this;exact this⟩
theorem pf (h:DataW.trod enc Tryz.prog w base spare held fuel 101 cs=some x):∃A n c nm l,cs=[.string nm,.slice A n c]/\n<=c/\c<=9223372036854775807/\SpS w A n l:=by
 obtain⟨hl,n,hf⟩:=ui Tryz.underlying101 h;rw[Uj] at hl;obtain⟨c0,c1,rfl⟩:=lh hl;obtain⟨y0,h0⟩:=hf 0 _ rfl;obtain⟨y1,h1⟩:=hf 1 _ rfl;simp only[List.getElem_toArray,List.getElem_cons_zero,List.getElem_cons_succ] at h0 h1;rw[M6] at h0;rw[qv] at h1;simp at h0 h1;obtain⟨nm,rfl,-⟩:=Ai8 h0;obtain⟨A,nn,c,rfl⟩:=Wu Tryz.underlying54 h1;obtain⟨g1,g2,g3,l,g4,g5⟩:=Pb h1;exact⟨A,nn,c,nm,l,rfl,g1,g2,g4⟩
theorem dm {A:Option Addr} {n c:Nat} (h:DataW.trod enc Tryz.prog w base spare held fuel 61 [.slice A n c]=some x):n<=c/\c<=9223372036854775807/\(A=none->c=0)/\∃l,EdS w A n l:=by
 obtain⟨h1,h2,h3,l,h4,h5⟩:=Fk (α:=EdgeP) (fun b o q=>Aig w b o q) Tryz.underlying61 Uj (by decide) (fun fuel cs' y b o g1 g2=>by
  obtain⟨A,n,c,nm,l,rfl,k1,k2,k3⟩:=pf g2;have c0:=Bs g1 (show 0<2 by omega)
  have c1:=Bs g1 (show 1<2 by omega)
  rw[Dt] at c0;rw[K9] at c1;have hl:=k3.1;subst hl;exact⟨⟨nm,l⟩,c0,A,c,c1,k1,k2,k3⟩) h
 exact⟨h1,h2,h3,l,h4,h5⟩
theorem ag (h:DataW.trod enc Tryz.prog w base spare held fuel 262 cs=some x):∃a b,cs=[.int .i64 a,.int .i64 b]:=by
 obtain⟨hl,n,hf⟩:=ui Tryz.underlying262 h;rw[Qf] at hl;obtain⟨c0,c1,rfl⟩:=lh hl;obtain⟨y0,h0⟩:=hf 0 _ rfl;obtain⟨y1,h1⟩:=hf 1 _ rfl;simp only[List.getElem_toArray,List.getElem_cons_zero,List.getElem_cons_succ] at h0 h1;rw[En] at h0 h1;simp at h0 h1;obtain⟨a,rfl⟩:=et h0;obtain⟨b,rfl⟩:=et h1;exact⟨a,b,rfl⟩
theorem Te {A:Option Addr} {n c:Nat} (h:DataW.trod enc Tryz.prog w base spare held fuel 62 [.slice A n c]=some x):n<=c/\c<=9223372036854775807/\(A=none->c=0)/\∃l,SpS w A n l:=by
 obtain⟨h1,h2,h3,l,h4,h5⟩:=Fk (α:=Int×Int) (fun b o q=>w.cell? ⟨b,o,none⟩=some (.int .i64 q.1)/\w.cell? ⟨b,o+1,none⟩=some (.int .i64 q.2)) Tryz.underlying62 Qf (by decide) (fun fuel cs' y b o g1 g2=>by
  obtain⟨u,v,rfl⟩:=ag g2;have c0:=Bs g1 (show 0<2 by omega)
  have c1:=Bs g1 (show 1<2 by omega)
  rw[Dt] at c0;rw[K9] at c1;exact⟨(u,v),c0,c1⟩) h
 exact⟨h1,h2,h3,l,h4,h5⟩
theorem Adl {α:Type} {l:List α} (h:l.length=7):∃a b c d e f g,l=[a,b,c,d,e,f,g]:=by
 match l,h with
 | [a,b,c,d,e,f,g],_=>exact⟨a,b,c,d,e,f,g,rfl⟩
theorem Agu {α:Type} {l:List α} (h:l.length=6):∃a b c d e f,l=[a,b,c,d,e,f]:=by
 match l,h with
 | [a,b,c,d,e,f],_=>exact⟨a,b,c,d,e,f,rfl⟩
theorem Ajl {α:Type} {l:List α} (h:l.length=3):∃a b c,l=[a,b,c]:=by
 match l,h with
 | [a,b,c],_=>exact⟨a,b,c,rfl⟩
theorem Z9 (h:DataW.trod enc Tryz.prog w base spare held fuel 64 cs=some x):∃p:PieceP,PcV w cs.toArray p:=by
 obtain⟨hl,n,hf⟩:=ui Tryz.underlying64 h;rw[Qe] at hl;obtain⟨c0,c1,c2,c3,c4,c5,c6,rfl⟩:=Adl hl;obtain⟨y0,h0⟩:=hf 0 _ rfl;obtain⟨y1,h1⟩:=hf 1 _ rfl;obtain⟨y2,h2⟩:=hf 2 _ rfl;obtain⟨y3,h3⟩:=hf 3 _ rfl;obtain⟨y4,h4⟩:=hf 4 _ rfl;obtain⟨y5,h5⟩:=hf 5 _ rfl;obtain⟨y6,h6⟩:=hf 6 _ rfl;simp only[List.getElem_toArray,List.getElem_cons_zero,List.getElem_cons_succ] at h0 h1 h2 h3 h4 h5 h6;rw[M6] at h0;rw[zq] at h1;rw[En] at h2;rw[zp] at h3;rw[qv] at h4;rw[M7] at h5;rw[K5] at h6;simp at h0 h1 h2 h3 h4 h5 h6;obtain⟨nm,rfl,-⟩:=Ai8 h0;obtain⟨A1,n1,d1,rfl⟩:=Wu Tryz.underlying61 h1;obtain⟨gr,rfl⟩:=et h2;obtain⟨A2,n2,d2,rfl⟩:=Wu Tryz.underlying62 h3;obtain⟨A3,n3,d3,rfl⟩:=Wu Tryz.underlying54 h4;obtain⟨A4,n4,d4,rfl⟩:=Wu Tryz.underlying23 h5;obtain⟨mt,rfl⟩:=Acf h6;obtain⟨a1,a2,-,la,a3⟩:=dm h1;obtain⟨b1,b2,-,lb,b3⟩:=Te h3;obtain⟨e1,e2,-,lc,e3,-⟩:=Pb h4;obtain⟨f1,f2,-,ld,f3⟩:=Kp h5;have q1:=a3.1;have q2:=b3.1;have q3:=e3.1;have q4:=f3.1;subst q1 q2 q3 q4;exact⟨⟨nm,la,gr,lb,lc,ld,mt⟩,A1,d1,A2,d2,A3,d3,A4,d4,rfl,⟨a1,a2,a3⟩,⟨b1,b2,b3⟩,⟨e1,e2,e3⟩,f1,f2,f3⟩
theorem Va {A:Option Addr} {n c:Nat} (h:DataW.trod enc Tryz.prog w base spare held fuel 24 [.slice A n c]=some x):n<=c/\c<=9223372036854775807/\(A=none->c=0)/\∃l,PcS w A n l:=by
 obtain⟨h1,h2,h3,l,h4,h5⟩:=Fk (α:=PieceP) (fun b o q=>∃vs,PcV w vs q/\∀j u,vs[j]? = some u->w.cell? ⟨b,o+j,none⟩=some u) Tryz.underlying24 Qe (by decide) (fun fuel cs' y b o g1 g2=>by
  obtain⟨q,hq⟩:=Z9 g2;refine⟨q,cs'.toArray,hq,fun j u hu=>?_⟩
  rw[List.getElem?_toArray] at hu;have hl:cs'.length=7:=(World.cells?_some g1).2.1
  have hj:j<7:=by
   rcases Nat.lt_or_ge j 7 with g|g
   ·exact g
   ·rw[List.getElem?_eq_none (by omega)] at hu;cases hu
  have c0:=Bs g1 hj;rw[K9,hu] at c0;exact c0) h
 exact⟨h1,h2,h3,l,h4,h5⟩
theorem ua (h:DataW.trod enc Tryz.prog w base spare held fuel 53 cs=some x):∃a b c,cs=[.int .i64 a,.int .i64 b,.bool c]:=by
 obtain⟨hl,n,hf⟩:=ui Tryz.underlying53 h;rw[Yy] at hl;obtain⟨c0,c1,c2,rfl⟩:=Ajl hl;obtain⟨y0,h0⟩:=hf 0 _ rfl;obtain⟨y1,h1⟩:=hf 1 _ rfl;obtain⟨y2,h2⟩:=hf 2 _ rfl;simp only[List.getElem_toArray,List.getElem_cons_zero,List.getElem_cons_succ] at h0 h1 h2;rw[En] at h0 h1;rw[K5] at h2;simp at h0 h1 h2;obtain⟨a,rfl⟩:=et h0;obtain⟨b,rfl⟩:=et h1;obtain⟨c,rfl⟩:=Acf h2;exact⟨a,b,c,rfl⟩
theorem fg {A:Option Addr} {n c:Nat} (h:DataW.trod enc Tryz.prog w base spare held fuel 25 [.slice A n c]=some x):n<=c/\c<=9223372036854775807/\(A=none->c=0)/\∃l,UsS w A n l:=by
 obtain⟨h1,h2,h3,l,h4,h5⟩:=Fk (α:=UseP) (fun b o q=>w.cell? ⟨b,o,none⟩=some (.int .i64 q.pc)/\w.cell? ⟨b,o+1,none⟩=some (.int .i64 q.ct)/\w.cell? ⟨b,o+2,none⟩=some (.bool q.pr)) Tryz.underlying25 Yy (by decide) (fun fuel cs' y b o g1 g2=>by
  obtain⟨u,v,q,rfl⟩:=ua g2;have c0:=Bs g1 (show 0<3 by omega)
  have c1:=Bs g1 (show 1<3 by omega)
  have c2:=Bs g1 (show 2<3 by omega)
  rw[Dt] at c0;rw[K9] at c1 c2;exact⟨⟨u,v,q⟩,c0,c1,c2⟩) h
 exact⟨h1,h2,h3,l,h4,h5⟩
theorem ja (h:DataW.trod enc Tryz.prog w base spare held fuel 142 cs=some x):∃a b c d e f,cs=[.int .i64 a,.int .i64 b,.int .i64 c,.int .i64 d,.bool e,.int .i64 f]:=by
 obtain⟨hl,n,hf⟩:=ui Tryz.underlying142 h;rw[Ui] at hl;obtain⟨c0,c1,c2,c3,c4,c5,rfl⟩:=Agu hl;obtain⟨y0,h0⟩:=hf 0 _ rfl;obtain⟨y1,h1⟩:=hf 1 _ rfl;obtain⟨y2,h2⟩:=hf 2 _ rfl;obtain⟨y3,h3⟩:=hf 3 _ rfl;obtain⟨y4,h4⟩:=hf 4 _ rfl;obtain⟨y5,h5⟩:=hf 5 _ rfl;simp only[List.getElem_toArray,List.getElem_cons_zero,List.getElem_cons_succ] at h0 h1 h2 h3 h4 h5;rw[En] at h0 h1 h2 h3 h5;rw[K5] at h4;simp at h0 h1 h2 h3 h4 h5;obtain⟨a,rfl⟩:=et h0;obtain⟨b,rfl⟩:=et h1;obtain⟨c,rfl⟩:=et h2;obtain⟨d,rfl⟩:=et h3;obtain⟨e,rfl⟩:=Acf h4;obtain⟨f,rfl⟩:=et h5;exact⟨a,b,c,d,e,f,rfl⟩
theorem Zt {A:Option Addr} {n c:Nat} (h:DataW.trod enc Tryz.prog w base spare held fuel 26 [.slice A n c]=some x):n<=c/\c<=9223372036854775807/\(A=none->c=0)/\∃l,SeS w A n l:=by
 obtain⟨h1,h2,h3,l,h4,h5⟩:=Fk (α:=SeamP) (fun b o q=>w.cell? ⟨b,o,none⟩=some (.int .i64 q.pa)/\w.cell? ⟨b,o+1,none⟩=some (.int .i64 q.ea)/\w.cell? ⟨b,o+2,none⟩=some (.int .i64 q.pb)/\w.cell? ⟨b,o+3,none⟩=some (.int .i64 q.eb)/\w.cell? ⟨b,o+4,none⟩=some (.bool q.rv)/\w.cell? ⟨b,o+5,none⟩=some (.int .i64 q.es)) Tryz.underlying26 Ui (by decide) (fun fuel cs' y b o g1 g2=>by
  obtain⟨q0,q1,q2,q3,q4,q5,rfl⟩:=ja g2;have c0:=Bs g1 (show 0<6 by omega)
  have c1:=Bs g1 (show 1<6 by omega)
  have c2:=Bs g1 (show 2<6 by omega)
  have c3:=Bs g1 (show 3<6 by omega)
  have c4:=Bs g1 (show 4<6 by omega)
  have c5:=Bs g1 (show 5<6 by omega)
  rw[Dt] at c0;rw[K9] at c1 c2 c3 c4 c5;exact⟨⟨q0,q1,q2,q3,q4,q5⟩,c0,c1,c2,c3,c4,c5⟩) h
 exact⟨h1,h2,h3,l,h4,h5⟩
theorem Pa (h:DataW.trod enc Tryz.prog w base spare held fuel 29 cs=some x):∃s:StyleP,StV w cs.toArray s:=by
 obtain⟨hl,n,hf⟩:=ui Tryz.underlying29 h;rw[Qc] at hl;obtain⟨c0,c1,c2,c3,c4,c5,c6,rfl⟩:=Adl hl;obtain⟨y0,h0⟩:=hf 0 _ rfl;obtain⟨y1,h1⟩:=hf 1 _ rfl;obtain⟨y2,h2⟩:=hf 2 _ rfl;obtain⟨y3,h3⟩:=hf 3 _ rfl;obtain⟨y4,h4⟩:=hf 4 _ rfl;obtain⟨y5,h5⟩:=hf 5 _ rfl;obtain⟨y6,h6⟩:=hf 6 _ rfl;simp only[List.getElem_toArray,List.getElem_cons_zero,List.getElem_cons_succ] at h0 h1 h2 h3 h4 h5 h6;rw[M6] at h0;rw[zw] at h1;rw[M7] at h2;rw[zv] at h3;rw[zu] at h4;rw[zt] at h5;rw[zr] at h6;simp at h0 h1 h2 h3 h4 h5 h6;obtain⟨nm,rfl,-⟩:=Ai8 h0;obtain⟨A1,n1,d1,rfl⟩:=Wu Tryz.underlying22 h1;obtain⟨A2,n2,d2,rfl⟩:=Wu Tryz.underlying23 h2;obtain⟨A3,n3,d3,rfl⟩:=Wu Tryz.underlying24 h3;obtain⟨A4,n4,d4,rfl⟩:=Wu Tryz.underlying25 h4;obtain⟨A5,n5,d5,rfl⟩:=Wu Tryz.underlying26 h5;obtain⟨A6,n6,d6,rfl⟩:=Wu Tryz.underlying27 h6;obtain⟨a1,a2,-,la,a3⟩:=gj h1;obtain⟨b1,b2,-,lb,b3⟩:=Kp h2;obtain⟨e1,e2,-,lc,e3⟩:=Va h3;obtain⟨f1,f2,-,ld,f3⟩:=fg h4;obtain⟨g1,g2,-,le,g3⟩:=Zt h5
 have hop:n6<=d6/\d6<=9223372036854775807:=by
  rcases open_slice Tryz.underlying27 h6 with ⟨q1,-⟩|⟨a,len,cap,m,k,D,Pl,q1,q2,q3,q4,-⟩
  ·simp at q1;omega
  ·simp at q1;unfold maxLen at q4;omega
 have q1:=a3.1;have q2:=b3.1;have q3:=e3.1;have q4:=f3.1;have q5:=g3.1;subst q1 q2 q3 q4 q5;exact⟨⟨nm,la,lb,lc,ld,le,n6⟩,A1,d1,A2,d2,A3,d3,A4,d4,A5,d5,A6,d6,rfl,⟨a1,a2,a3⟩,⟨b1,b2,b3⟩,⟨e1,e2,e3⟩,⟨f1,f2,f3⟩,⟨g1,g2,g3⟩,hop⟩
def MkV (w:World) (vs:Array Value) (m:MkP):Prop:=∃A1 c1 A2 c2,vs=#[.int .i64 m.len,.int .i64 m.wid,.int .i64 m.rx,.int .i64 m.ry,.slice A1 m.sz.length c1,.slice A2 m.pl.length c2]/\(m.sz.length<=c1/\c1<=9223372036854775807/\InS w A1 m.sz.length m.sz)/\m.pl.length<=c2/\c2<=9223372036854775807/\(A2=none->c2=0)/\PlS w A2 m.pl.length m.pl
end
section
variable {H : Type} {enc : TypeId × Value -> H} {w : World} {base b0 : Nat} {spare : Nat -> Bool} {held : Bool} {r : Reach} {v : Value} {d : DataW H} {p : List MemPlace}
theorem Agv {α:Type} {l:List α} (h:l.length=12):∃a0 a1 a2 a3 a4 a5 a6 a7 a8 a9 b0 b1,l=[a0,a1,a2,a3,a4,a5,a6,a7,a8,a9,b0,b1]:=by
 match l,h with
 | [a0,a1,a2,a3,a4,a5,a6,a7,a8,a9,b0,b1],_=>exact⟨a0,a1,a2,a3,a4,a5,a6,a7,a8,a9,b0,b1,rfl⟩
theorem kd (hv:Value.okWide Tryz.prog w r b0 35 v) (h:DataW.Trod enc Tryz.prog w base spare held 35 v d p):∃v0 v1 v2 v3 v4 v5 v6 s,∃b:Bed4,∃A n c Z,v=.agg #[v0,v1,v2,v3,v4,v5,v6,.int .i64 b.len,.int .i64 b.wid,.int .i64 b.rx,.int .i64 b.ry,.slice A n c]/\StV w #[v0,v1,v2,v3,v4,v5,v6] s/\(inR b.len/\inR b.wid/\inR b.rx/\inR b.ry)/\n<=c/\c<=9223372036854775807/\(A=none->c=0)/\InS w A n Z:=by
 obtain⟨cs,rfl,hsz⟩:=okWide_struct Tryz.underlying35 hv;obtain⟨fuel,hf⟩:=h;obtain⟨hl,n,hf⟩:=ui Tryz.underlying35 hf;rw[re] at hl;obtain⟨y0,h0⟩:=hf 0 _ rfl;obtain⟨y1,h1⟩:=hf 1 _ rfl;obtain⟨y2,h2⟩:=hf 2 _ rfl;clear hf;simp only[List.getElem_toArray,List.getElem_cons_zero,List.getElem_cons_succ] at h0 h1 h2;rw[Qc] at h0;rw[Y0] at h1;rw[M7] at h2;have hcs:(Value.agg cs).cells.toList=cs.toList:=by simp[Value.cells]
 obtain⟨l,hcl⟩:∃l,cs.toList=l:=⟨_,rfl⟩
 have hcs2:cs=l.toArray:=by rw[<-hcl]
 simp[Value.cells,hcl] at hl h0 h1 h2;obtain⟨a0,a1,a2,a3,a4,a5,a6,a7,a8,a9,b0,b1,rfl⟩:=Agv hl;simp at h0 h1 h2;obtain⟨s,hs⟩:=Pa h0;obtain⟨e1,e2,e3,e4,e5,w1,w2,w3,w4⟩:=Aae h1;simp at e5;obtain⟨rfl,rfl,rfl,rfl⟩:=e5;obtain⟨A,nn,c,rfl⟩:=Wu Tryz.underlying23 h2;obtain⟨k1,k2,k4,Z,k3⟩:=Kp h2;exact⟨a0,a1,a2,a3,a4,a5,a6,s,⟨e1,e2,e3,e4⟩,A,nn,c,Z,by rw[hcs2],by simpa using hs,⟨w1,w2,w3,w4⟩,k1,k2,k4,k3⟩
end
end
def ve:List EdgeP:=[⟨⟨#[108,111,119]⟩,[(0,0),(10,0)]⟩,⟨⟨#[114,105,103,104,116]⟩,[(10,0),(10,10)]⟩,⟨⟨#[104,105,103,104]⟩,[(10,10),(0,10)]⟩,⟨⟨#[108,101,102,116]⟩,[(0,10),(0,0)]⟩]
theorem Dw (X:World) (o:Obj):(X.alloc o).heap.size=X.heap.size+1:=by simp
theorem bk0 (X:World) (t:TypeId) (cs:Array Value) (a b c d:Obj):Bb (((((X.alloc (.cells cs t)).alloc a).alloc b).alloc c).alloc d).drew X.heap.size t cs :=
 ((((((Bb.new X t cs).alloc a).alloc b).alloc c).alloc d).keep (Aw (Below.refl _ _)))
theorem bk1 (X:World) (t:TypeId) (cs:Array Value) (a b c d:Obj):Bb (((((X.alloc a).alloc (.cells cs t)).alloc b).alloc c).alloc d).drew (X.heap.size+1) t cs:=by
 rw[<-Dw X a];exact(((((Bb.new _ t cs).alloc b).alloc c).alloc d).keep (Aw (Below.refl _ _)))
theorem bk2 (X:World) (t:TypeId) (cs:Array Value) (a b c d:Obj):Bb (((((X.alloc a).alloc b).alloc (.cells cs t)).alloc c).alloc d).drew (X.heap.size+1+1) t cs:=by
 rw[<-Dw X a,<-Dw _ b];exact((((Bb.new _ t cs).alloc c).alloc d).keep (Aw (Below.refl _ _)))
theorem bk3 (X:World) (t:TypeId) (cs:Array Value) (a b c d:Obj):Bb (((((X.alloc a).alloc b).alloc c).alloc (.cells cs t)).alloc d).drew (X.heap.size+1+1+1) t cs:=by
 rw[<-Dw X a,<-Dw _ b,<-Dw _ c];exact(((Bb.new _ t cs).alloc d).keep (Aw (Below.refl _ _)))
theorem bk4 (X:World) (t:TypeId) (cs:Array Value) (a b c d:Obj):Bb (((((X.alloc a).alloc b).alloc c).alloc d).alloc (.cells cs t)).drew (X.heap.size+1+1+1+1) t cs:=by
 rw[<-Dw X a,<-Dw _ b,<-Dw _ c,<-Dw _ d];exact((Bb.new _ t cs).keep (Aw (Below.refl _ _)))
theorem Uk {B:Nat} {W W':World} {b:Nat} {t:TypeId} {cs:Array Value} (hW:∀k,B<=k->k<W.heap.size->W'.heap[k]? = W.heap[k]?) (hb:B<=b) (h:Bb W b t cs):Bb W' b t cs:=(hW b hb (Dk h)).trans h
theorem Mu {W:World} {g:Nat} {a b c d:Int} (h:Bb W g 49 #[.int .i64 a,.int .i64 b,.int .i64 c,.int .i64 d]):SpS W (some ⟨g,0,none⟩) 2 [(a,b),(c,d)]:=by
 obtain⟨a1,a2,a3,a4,-⟩:=h.cells4;refine⟨rfl,.inr ⟨g,0,rfl,fun k hk=>?_⟩⟩
 match k,hk with
 | 0,_=>exact⟨a1,a2⟩
 | 1,_=>exact⟨a3,a4⟩
theorem Ah1 {W:World} {b0 b1 b2 b3 g:Nat} (h0:Bb W b0 49 #[.int .i64 0,.int .i64 0,.int .i64 10,.int .i64 0]) (h1:Bb W b1 49 #[.int .i64 10,.int .i64 0,.int .i64 10,.int .i64 10]) (h2:Bb W b2 49 #[.int .i64 10,.int .i64 10,.int .i64 0,.int .i64 10]) (h3:Bb W b3 49 #[.int .i64 0,.int .i64 10,.int .i64 0,.int .i64 0])
 (hE:Bb W g 101 #[.string ⟨#[108,111,119]⟩,.slice (some ⟨b0,0,none⟩) 2 2,.string ⟨#[114,105,103,104,116]⟩,.slice (some ⟨b1,0,none⟩) 2 2,.string ⟨#[104,105,103,104]⟩,.slice (some ⟨b2,0,none⟩) 2 2,.string ⟨#[108,101,102,116]⟩,.slice (some ⟨b3,0,none⟩) 2 2]):EdS W (some ⟨g,0,none⟩) 4 ve:=by
 refine⟨rfl,.inr ⟨g,0,rfl,fun k hk=>?_⟩⟩
 match k,hk with
 | 0,_=>exact⟨(hE.cell 0).trans rfl,_,2,(hE.cell 1).trans rfl,Nat.le_refl _,by omega,Mu h0⟩
 | 1,_=>exact⟨(hE.cell 2).trans rfl,_,2,(hE.cell 3).trans rfl,Nat.le_refl _,by omega,Mu h1⟩
 | 2,_=>exact⟨(hE.cell 4).trans rfl,_,2,(hE.cell 5).trans rfl,Nat.le_refl _,by omega,Mu h2⟩
 | 3,_=>exact⟨(hE.cell 6).trans rfl,_,2,(hE.cell 7).trans rfl,Nat.le_refl _,by omega,Mu h3⟩
theorem iq (w:World) :
 Calls Tryz.prog 41 #[.int .i64 10,.int .i64 10] w fun e w'=>∃A,e=.returned (.slice A 4 4)/\(∀W':World,(∀k,w.heap.size<=k->k<w'.heap.size->W'.heap[k]? = w'.heap[k]?)->EdS W' A 4 ve)/\Below w.heap.size w w':=by
 go_enter Tryz.func41,Tryz.ntmps41;go_upto_region 2 with fail;refine Ar (fun X=>Below w.heap.size w X/\Bb X w.heap.size 49 #[.int .i64 0,.int .i64 0,.int .i64 10,.int .i64 0,.int .i64 10,.int .i64 10,.int .i64 0,.int .i64 10]) ⟨An (Below.refl _ _) _,Bb.new _ _ _⟩ ?_
 rintro X ⟨hbX,hP⟩
 have KF:∀W',Below X.heap.size X W'->W'.cell? ⟨w.heap.size,0,none⟩=some (.int .i64 0)/\W'.cell? ⟨w.heap.size,1,none⟩=some (.int .i64 0)/\W'.cell? ⟨w.heap.size,2,none⟩=some (.int .i64 10)/\W'.cell? ⟨w.heap.size,3,none⟩=some (.int .i64 0)/\W'.cell? ⟨w.heap.size,4,none⟩=some (.int .i64 10)/\W'.cell? ⟨w.heap.size,5,none⟩=some (.int .i64 10)/\W'.cell? ⟨w.heap.size,6,none⟩=some (.int .i64 0)/\W'.cell? ⟨w.heap.size,7,none⟩=some (.int .i64 10):=fun W' hb=>by
  have h:=hP.keep hb;exact⟨(h.cell 0).trans rfl,(h.cell 1).trans rfl,(h.cell 2).trans rfl,(h.cell 3).trans rfl,(h.cell 4).trans rfl,(h.cell 5).trans rfl,(h.cell 6).trans rfl,(h.cell 7).trans rfl⟩
 have hP0:=hP;clear hP
 go_region_held3 (fun W'=>W'.cell? ⟨w.heap.size,0,none⟩=some (.int .i64 0)/\W'.cell? ⟨w.heap.size,1,none⟩=some (.int .i64 0)/\W'.cell? ⟨w.heap.size,2,none⟩=some (.int .i64 10)/\W'.cell? ⟨w.heap.size,3,none⟩=some (.int .i64 0)/\W'.cell? ⟨w.heap.size,4,none⟩=some (.int .i64 10)/\W'.cell? ⟨w.heap.size,5,none⟩=some (.int .i64 10)/\W'.cell? ⟨w.heap.size,6,none⟩=some (.int .i64 0)/\W'.cell? ⟨w.heap.size,7,none⟩=some (.int .i64 10))
  (first
   | with_reducible exact KF _ (Aw (Below.refl _ _))
   | with_reducible exact KF _ (Below.refl _ _)
   | with_reducible exact KF _ (Aw (An (Below.refl _ _) _))
   | with_reducible exact KF _ (An (Below.refl _ _) _)
   | with_reducible exact KF _ (Aw (An (An (Below.refl _ _) _) _))
   | with_reducible exact KF _ (An (An (Below.refl _ _) _) _)
   | with_reducible exact KF _ (Aw (An (An (An (Below.refl _ _) _) _) _))
   | with_reducible exact KF _ (An (An (An (Below.refl _ _) _) _) _)
   | with_reducible exact KF _ (Aw (An (An (An (An (Below.refl _ _) _) _) _) _))
   | with_reducible exact KF _ (An (An (An (An (Below.refl _ _) _) _) _) _)
   | with_reducible exact KF _ (Aw (An (An (An (An (An (Below.refl _ _) _) _) _) _) _))
   | with_reducible exact KF _ (An (An (An (An (An (Below.refl _ _) _) _) _) _) _))
  ((first|fail))
 all_goals go_wp2_with fail
 all_goals go_ret
 all_goals
  refine⟨_,rfl,fun W' hW=>Ah1 (Uk hW ?_ ?_) (Uk hW ?_ ?_) (Uk hW ?_ ?_) (Uk hW ?_ ?_) (Uk hW ?_ (bk4 _ _ _ _ _ _ _)),Ao hbX (Aw (An (An (An (An (An (Below.refl _ _) _) _) _) _) _))⟩
  all_goals first
   | with_reducible exact bk0 _ _ _ _ _ _ _
   | with_reducible exact bk1 _ _ _ _ _ _ _
   | with_reducible exact bk2 _ _ _ _ _ _ _
   | with_reducible exact bk3 _ _ _ _ _ _ _
   | (clear KF hP0;have:=hbX.size;omega)
def Ahl:PieceP:=⟨⟨#[102,114,111,110,116]⟩,ve,1,[],[(0,0),(1,0),(1,0),(0,0)],[0,0,0,0],false⟩
def Ib:StyleP:=⟨⟨#[115,104,105,114,116]⟩,[⟨#[83]⟩,⟨#[77]⟩],[0,2],[Ahl],[⟨0,2,true⟩],[],0⟩
theorem xm:SmS Ib:=⟨by decide,by decide,by decide,by decide,by decide,by decide⟩
theorem Y5 (W:World) {g:Nat} (hg:g=W.heap.size) {t:TypeId} {cs:Array Value}:Bb (W.alloc (.cells cs t)) g t cs:=by rw[hg];exact Bb.new W t cs
theorem Afh {W:World} {g h:Nat} {t:TypeId} {cs:Array Value} (H:Bb W g t cs) (hne:g≠h) (u0 u1 u2 u3 u4 u5 u6:Value):Bb (((((((W.setCell ⟨h,0,none⟩ u0).setCell ⟨h,1,none⟩ u1).setCell ⟨h,2,none⟩ u2).setCell ⟨h,3,none⟩ u3).setCell ⟨h,4,none⟩ u4).setCell ⟨h,5,none⟩ u5).setCell ⟨h,6,none⟩ u6) g t cs:=(Bb.far (Bb.far (Bb.far (Bb.far (Bb.far (Bb.far (Bb.far H (p:=⟨h,0,none⟩) hne u0) (p:=⟨h,1,none⟩) hne u1) (p:=⟨h,2,none⟩) hne u2) (p:=⟨h,3,none⟩) hne u3) (p:=⟨h,4,none⟩) hne u4) (p:=⟨h,5,none⟩) hne u5) (p:=⟨h,6,none⟩) hne u6)
theorem Ak6 {a W:World} {b h:Nat} (hb:Below b a W) (hg:b<=h) (u0 u1 u2 u3 u4 u5 u6:Value):Below b a (((((((W.setCell ⟨h,0,none⟩ u0).setCell ⟨h,1,none⟩ u1).setCell ⟨h,2,none⟩ u2).setCell ⟨h,3,none⟩ u3).setCell ⟨h,4,none⟩ u4).setCell ⟨h,5,none⟩ u5).setCell ⟨h,6,none⟩ u6) :=
 Below.setCell (Below.setCell (Below.setCell (Below.setCell (Below.setCell (Below.setCell (Below.setCell hb hg _) hg _) hg _) hg _) hg _) hg _) hg _
theorem Ahf {W:World} {h k:Nat} (hne:k≠h) (u0 u1 u2 u3 u4 u5 u6:Value):(((((((W.setCell ⟨h,0,none⟩ u0).setCell ⟨h,1,none⟩ u1).setCell ⟨h,2,none⟩ u2).setCell ⟨h,3,none⟩ u3).setCell ⟨h,4,none⟩ u4).setCell ⟨h,5,none⟩ u5).setCell ⟨h,6,none⟩ u6).heap[k]? = W.heap[k]? :=
 (Dq _ _ _ _ hne).trans ((Dq _ _ _ _ hne).trans ((Dq _ _ _ _ hne).trans ((Dq _ _ _ _ hne).trans ((Dq _ _ _ _ hne).trans ((Dq _ _ _ _ hne).trans (Dq _ _ _ _ hne))))))
def Ac6 (A:Option Addr) (B:Nat):Array Value:=#[.string ⟨#[115,104,105,114,116]⟩,.slice (some ⟨B+1+1+1,0,none⟩) 2 2,.slice (some ⟨B+1+1+1+1,0,none⟩) 2 2,.slice (some ⟨B+1+1+1+1+1,0,none⟩) 1 1,.slice (some ⟨B+1+1+1+1+1+1,0,none⟩) 1 1,.slice none 0 0,.slice none 0 0]
theorem xk {F:World} {A:Option Addr} {B:Nat} (hE:EdS F A 4 ve) (h0:Bb F B 49 #[.int .i64 0,.int .i64 0,.int .i64 1,.int .i64 0,.int .i64 1,.int .i64 0,.int .i64 0,.int .i64 0]) (h1:Bb F (B+1) 3 #[.int .i64 0,.int .i64 0,.int .i64 0,.int .i64 0])
 (h3:Bb F (B+1+1+1) 9 #[.string ⟨#[83]⟩,.string ⟨#[77]⟩]) (h4:Bb F (B+1+1+1+1) 3 #[.int .i64 0,.int .i64 2])
 (h5:Bb F (B+1+1+1+1+1) 64 #[.string ⟨#[102,114,111,110,116]⟩,.slice A 4 4,.int .i64 1,.slice none 0 0,.slice (some ⟨B,0,none⟩) 4 4,.slice (some ⟨B+1,0,none⟩) 4 4,.bool false]) (h6:Bb F (B+1+1+1+1+1+1) 53 #[.int .i64 0,.int .i64 2,.bool true]) :
 StV F (Ac6 A B) Ib:=by
 have hsp:SpS F (some ⟨B,0,none⟩) 4 [(0,0),(1,0),(1,0),(0,0)]:=by
  refine⟨rfl,.inr ⟨B,0,rfl,fun k hk=>?_⟩⟩
  match k,hk with
  | 0,_=>exact⟨(h0.cell 0).trans rfl,(h0.cell 1).trans rfl⟩
  | 1,_=>exact⟨(h0.cell 2).trans rfl,(h0.cell 3).trans rfl⟩
  | 2,_=>exact⟨(h0.cell 4).trans rfl,(h0.cell 5).trans rfl⟩
  | 3,_=>exact⟨(h0.cell 6).trans rfl,(h0.cell 7).trans rfl⟩
 have hin:InS F (some ⟨B+1,0,none⟩) 4 [0,0,0,0]:=by
  refine⟨rfl,.inr ⟨B+1,0,rfl,fun k hk=>?_⟩⟩
  match k,hk with
  | 0,_=>exact(h1.cell 0).trans rfl
  | 1,_=>exact(h1.cell 1).trans rfl
  | 2,_=>exact(h1.cell 2).trans rfl
  | 3,_=>exact(h1.cell 3).trans rfl
 refine⟨_,2,_,2,_,1,_,1,none,0,none,0,rfl,⟨Nat.le_refl _,by omega,rfl,.inr ⟨_,0,rfl,fun k hk=>?_⟩⟩,⟨Nat.le_refl _,by omega,rfl,.inr ⟨_,0,rfl,fun k hk=>?_⟩⟩,⟨Nat.le_refl _,by omega,rfl,.inr ⟨_,0,rfl,fun k hk=>?_⟩⟩,⟨Nat.le_refl _,by omega,rfl,.inr ⟨_,0,rfl,fun k hk=>?_⟩⟩,⟨Nat.le_refl _,by omega,rfl,.inl rfl⟩,Nat.le_refl _,by omega⟩
 ·match k,hk with
  | 0,_=>exact⟨(h3.cell 0).trans rfl,by decide⟩
  | 1,_=>exact⟨(h3.cell 1).trans rfl,by decide⟩
 ·match k,hk with
  | 0,_=>exact(h4.cell 0).trans rfl
  | 1,_=>exact(h4.cell 1).trans rfl
 ·match k,hk with
  | 0,_ =>
    refine⟨_,⟨A,4,none,0,some ⟨B,0,none⟩,4,some ⟨B+1,0,none⟩,4,rfl,⟨Nat.le_refl _,by omega,hE⟩,⟨Nat.le_refl _,by omega,rfl,.inl rfl⟩,⟨Nat.le_refl _,by omega,hsp⟩,Nat.le_refl _,by omega,hin⟩,fun j u hj=>?_⟩
    rw[show 0+0*7+j=j by omega]
    exact(h5.cell j).trans hj
 ·match k,hk with
  | 0,_=>exact⟨(h6.cell 0).trans rfl,(h6.cell 1).trans rfl,(h6.cell 2).trans rfl⟩
theorem xl (w:World) :
 Calls Tryz.prog 23 #[] w fun e w'=>∃vs,e=.returned (.agg vs)/\StV w' vs Ib/\Below w.heap.size w w':=by
 go_enter Tryz.func23,Tryz.ntmps23
 go_upto_region 2 with (go_at_call 41;refine(iq _).mono ?_;rintro e w1 ⟨A,rfl,hE,hb1⟩)
 obtain⟨B,hB⟩:∃B,w1.heap.size=B:=⟨_,rfl⟩
 refine Ar (fun Y=>Below w1.heap.size w1 Y/\Bb Y B 49 #[.int .i64 0,.int .i64 0,.int .i64 1,.int .i64 0,.int .i64 1,.int .i64 0,.int .i64 0,.int .i64 0]/\Bb Y (B+1) 3 #[.int .i64 0,.int .i64 0,.int .i64 0,.int .i64 0]/\Bb Y (B+1+1) 64 #[.string ⟨#[102,114,111,110,116]⟩,.slice A 4 4,.int .i64 1,.slice none 0 0,.slice (some ⟨B,0,none⟩) 4 4,.slice (some ⟨B+1,0,none⟩) 4 4,.bool false]/\Y.heap.size=B+1+1+1) (by
  subst hB;refine⟨An (An (An (Below.refl _ _) _) _) _,((Bb.new _ _ _).alloc _).alloc _,(Bb.new2 _ _ _ _).alloc _,?_,by simp⟩
  rw[<-Dw w1 (.cells #[.int .i64 0,.int .i64 0,.int .i64 1,.int .i64 0,.int .i64 1,.int .i64 0,.int .i64 0,.int .i64 0] 49)];exact Bb.new2 _ _ _ _) ?_
 rintro Y ⟨hbY,hC,hW,hPc,hYs⟩;obtain⟨c0,c1,c2,c3,c4,c5,c6⟩:=st7 hPc;have hRY:Bb Y w.heap.size 29 #[.string ⟨#[]⟩,.slice none 0 0,.slice none 0 0,.slice none 0 0,.slice none 0 0,.slice none 0 0,.slice none 0 0]:=((Bb.new w _ _).keep hb1).keep hbY;have hR4:=fun o1 o2 o3 o4=>(((hRY.alloc o1).alloc o2).alloc o3).alloc o4
 have hP2:=fun o1 o2=>(hPc.alloc o1).alloc o2
 have r0:=fun o1 o2 o3 o4=>(st7 (hR4 o1 o2 o3 o4)).1
 have g0:=fun o1 o2 o3 o4=>(hR4 o1 o2 o3 o4).frozen 0
 have d0:=fun o1 o2=>(st7 (hP2 o1 o2)).1
 have r1:=fun o1 o2 o3 o4=>(st7 (hR4 o1 o2 o3 o4)).2.1
 have g1:=fun o1 o2 o3 o4=>(hR4 o1 o2 o3 o4).frozen 1
 have d1:=fun o1 o2=>(st7 (hP2 o1 o2)).2.1
 have r2:=fun o1 o2 o3 o4=>(st7 (hR4 o1 o2 o3 o4)).2.2.1
 have g2:=fun o1 o2 o3 o4=>(hR4 o1 o2 o3 o4).frozen 2
 have d2:=fun o1 o2=>(st7 (hP2 o1 o2)).2.2.1
 have r3:=fun o1 o2 o3 o4=>(st7 (hR4 o1 o2 o3 o4)).2.2.2.1
 have g3:=fun o1 o2 o3 o4=>(hR4 o1 o2 o3 o4).frozen 3
 have d3:=fun o1 o2=>(st7 (hP2 o1 o2)).2.2.2.1
 have r4:=fun o1 o2 o3 o4=>(st7 (hR4 o1 o2 o3 o4)).2.2.2.2.1
 have g4:=fun o1 o2 o3 o4=>(hR4 o1 o2 o3 o4).frozen 4
 have d4:=fun o1 o2=>(st7 (hP2 o1 o2)).2.2.2.2.1
 have r5:=fun o1 o2 o3 o4=>(st7 (hR4 o1 o2 o3 o4)).2.2.2.2.2.1
 have g5:=fun o1 o2 o3 o4=>(hR4 o1 o2 o3 o4).frozen 5
 have d5:=fun o1 o2=>(st7 (hP2 o1 o2)).2.2.2.2.2.1
 have r6:=fun o1 o2 o3 o4=>(st7 (hR4 o1 o2 o3 o4)).2.2.2.2.2.2
 have g6:=fun o1 o2 o3 o4=>(hR4 o1 o2 o3 o4).frozen 6
 have d6:=fun o1 o2=>(st7 (hP2 o1 o2)).2.2.2.2.2.2
 have hYs2:=hYs;rw[hB];go_wp2_with fail;clear r0 r1 r2 r3 r4 r5 r6 g0 g1 g2 g3 g4 g5 g6 d0 d1 d2 d3 d4 d5 d6 c0 c1 c2 c3 c4 c5 c6;obtain⟨s0,s1,s2,s3,s4,s5,s6⟩:=st7 ((((((((hR4 (.cells #[.string ⟨#[83]⟩,.string ⟨#[77]⟩] 9) (.cells #[.int .i64 0,.int .i64 2] 3) (.cells #[.string ⟨#[102,114,111,110,116]⟩,.slice A 4 4,.int .i64 1,.slice none 0 0,.slice (some ⟨B,0,none⟩) 4 4,.slice (some ⟨B+1,0,none⟩) 4 4,.bool false] 64) (.cells #[.int .i64 0,.int .i64 2,.bool true] 53)).set_ 0 (.string ⟨#[115,104,105,114,116]⟩)).set_ 1 (.slice (some ⟨B+1+1+1,0,none⟩) 2 2)).set_ 2 (.slice (some ⟨B+1+1+1+1,0,none⟩) 2 2)).set_ 3 (.slice (some ⟨B+1+1+1+1+1,0,none⟩) 1 1)).set_ 4 (.slice (some ⟨B+1+1+1+1+1+1,0,none⟩) 1 1)).set_ 5 (.slice none 0 0)).set_ 6 (.slice none 0 0));refine bodyPost_ret (v:=.agg (Ac6 A B)) (by simp[results,Tryz.results23,go_sem,s0,s1,s2,s3,s4,s5,s6,Ac6]) rfl ?_
 have hBw:w.heap.size<B:=by have:=hb1.size;rw[Dw] at this;omega
 refine⟨_,rfl,xk (hE _ fun k hk hk2=>?_) (Afh ((((hC.alloc _).alloc _).alloc _).alloc _) (by omega) _ _ _ _ _ _ _) (Afh ((((hW.alloc _).alloc _).alloc _).alloc _) (by omega) _ _ _ _ _ _ _) (Afh ((((Y5 _ (by omega)).alloc _).alloc _).alloc _) (by omega) _ _ _ _ _ _ _) (Afh (((Y5 _ (by simp;omega)).alloc _).alloc _) (by omega) _ _ _ _ _ _ _) (Afh ((Y5 _ (by simp;omega)).alloc _) (by omega) _ _ _ _ _ _ _) (Afh (Y5 _ (by simp;omega)) (by omega) _ _ _ _ _ _ _),Ak6 (An (An (An (An (Ao (Ao (An (Below.refl _ _) _) hb1) hbY) _) _) _) _) (Nat.le_refl _) _ _ _ _ _ _ _⟩
 rw[Dw] at hk;exact(Ahf (by omega) _ _ _ _ _ _ _).trans ((An (An (An (An hbY _) _) _) _).block k hk2)
theorem T8 (a b:List (Int×Int)):Dv a b=Dv b a:=by unfold Dv;omega
theorem du (ss ts:List (List (Int×Int))):1<=Fq ss ts ss.length->1<=Fq ts ss ts.length:=by
 rw[Ky (by omega),Ky (by omega)]
 rintro⟨i,hi,j,hj,h⟩;exact⟨j,hj,i,hi,by rw[T8];exact h⟩
theorem zm (ss ts:List (List (Int×Int))) (k:Nat):Fq ss ts k<=1:=by
 apply Classical.byContradiction;intro h;obtain⟨i,_,j,_,h2⟩:=(Ky (ss:=ss) (ts:=ts) (v:=2) (by omega) k).1 (by omega)
 have:=dr (lt_ ss i) (lt_ ts j);omega
theorem Tb {a b:List (Int×Int)} (h:Ej a b=(false,0)):Ej b a=(false,0):=by
 unfold Ej at h ⊢;by_cases ha:(Ba a).1=0
 ·by_cases hb:(Ba b).1=0
  ·rw[jh ha hb] at h
   rw[jh hb ha]
   have h1:¬Fq (Ba a).2 (Ba b).2 (Ba a).2.length=1:=by
    intro e;rw[e] at h;simp at h
   have h2:¬Fq (Ba b).2 (Ba a).2 (Ba b).2.length=1:=by
    intro e;have:=du (Ba b).2 (Ba a).2 (by omega)
    have:=zm (Ba a).2 (Ba b).2 (Ba a).2.length;omega
   simp[h2]
  ·rw[Abb ha hb] at h
   have:=congrArg Prod.snd h;exact absurd this hb
 ·rw[Abc ha] at h
  have:=congrArg Prod.snd h;exact absurd this ha
def tk (S:List Shp) (p q:Pt5):Prop:=Ej (Be S p).2 (Be S q).2=(false,0)
theorem eh {S:List Shp}:∀{p q:Pt5},tk S p q->tk S q p:=fun h=>Tb h
theorem Qa {S:List Shp} {r:List (Int×Int)} {ps:List Pt5}:∀k,Jh S r ps k=0↔∀j,j<k->(Be S (pt ps j)).1=0/\Ej (Be S (pt ps j)).2 r=(false,0)
 | 0=>by simp[Jh]
 | k+1=>by
   have ih:=Qa (S:=S) (r:=r) (ps:=ps) k;rw[Jh];constructor
   ·intro h
    split at h
    ·rename_i g;exact absurd h g
    ·rename_i g0
     split at h
     ·rename_i g;exact absurd h g
     ·rename_i g1
      split at h
      ·rename_i g;exact absurd h g
      ·rename_i g2
       split at h
       ·cases h
       ·rename_i g3
        intro j hj;rcases Nat.lt_or_ge j k with hk|hk
        ·exact(ih.1 (by simpa using g0)) j hk
        ·obtain rfl:j=k:=by omega
         exact⟨by simpa using g1,Prod.ext (by simpa using g3) (by simpa using g2)⟩
   ·intro h
    rw[if_neg (by rw[ih.2 fun j hj=>h j (by omega)];simp),if_neg (by rw[(h k (by omega)).1];simp),(h k (by omega)).2]
    simp
theorem Rg {b:Bed4} {S:List Shp} {ps:List Pt5} {p:Pt5}:Dm b S ps p=0↔Dm b S [] p=0/\∀j,j<ps.length->(Be S (pt ps j)).1=0/\tk S (pt ps j) p:=by
 unfold Dm tk;by_cases h0:Dc b=true
 ·simp[h0]
 ·rw[if_neg h0,if_neg h0]
  by_cases h1:(Be S p).1≠0
  ·rw[if_pos h1,if_pos h1]
   exact⟨fun h=>absurd h h1,fun h=>h.1⟩
  ·rw[if_neg h1,if_neg h1]
   unfold Lt;by_cases h2:Zf (shp S p.sh.toNat).grain false p.fl p.qu=false
   ·simp[h2]
   ·rw[if_neg h2,if_neg h2]
    by_cases h3:Bq (fun i=>Da b (gt (Be S p).2 i)) (Be S p).2.length=true
    ·simp[h3]
    ·rw[if_neg h3,if_neg h3]
     by_cases h4:((shp S p.sh.toNat).mat&&!tm b.rx b.ry (shp S p.sh.toNat).anc p)=true
     ·simp[h4]
     ·rw[if_neg h4,if_neg h4,Qa]
      exact⟨fun h=>⟨rfl,h⟩,fun h=>h.2⟩
theorem U6 {ps:List Pt5} {i j:Nat} (h:j<i):pt (ps.take i) j=pt ps j:=by
 unfold pt;simp[List.getD,h]
theorem Dy {ps:List Pt5} {i:Nat} (h:i<ps.length):pt ps i=ps[i]:=by
 unfold pt;rw[List.getD,List.getElem?_eq_getElem h];rfl
theorem L6 {b:Bed4} {S:List Shp} {ps:List Pt5}:Ic b S ps=0↔ps.length<=60/\(∀p∈ps,Dm b S [] p=0)/\ps.Pairwise (tk S):=by
 unfold Ic;by_cases h60:60<ps.length
 ·rw[if_pos h60]
  exact⟨fun h=>by omega,fun h=>by omega⟩
 ·rw[if_neg h60,Gj]
  have hl:∀i,i<ps.length->(ps.take i).length=i:=fun i hi=>by rw[List.length_take];omega
  constructor
  ·intro h
   refine⟨by omega,fun p hp=>?_,?_⟩
   ·obtain⟨i,hi,rfl⟩:=List.mem_iff_getElem.1 hp
    have:=(Rg.1 (h i hi)).1
    rwa [Dy hi] at this
   ·rw[List.pairwise_iff_getElem]
    intro i j hi hj hij;have:=(Rg.1 (h j hj)).2 i (by rw[hl j hj];exact hij)
    rw[U6 hij,Dy hi,Dy hj] at this;exact this.2
  ·rintro⟨_,h1,h2⟩ k hk
   rw[Rg,Dy hk];refine⟨h1 _ (List.getElem_mem hk),fun j hj=>?_⟩
   rw[hl k hk] at hj;have hjl:j<ps.length:=by omega
   rw[U6 hj,Dy hjl];refine⟨(Co (h1 _ (List.getElem_mem hjl))).2.1,?_⟩;rw[List.pairwise_iff_getElem] at h2;exact h2 j k hjl hk hj
theorem Kz {b:Bed4} {S:List Shp} {ps qs:List Pt5} (h:ps.Perm qs):Ic b S ps=0↔Ic b S qs=0:=by
 rw[L6,L6,h.length_eq,h.pairwise_iff eh];constructor
 ·rintro⟨a,b,c⟩;exact⟨a,fun p hp=>b p (h.mem_iff.2 hp),c⟩
 ·rintro⟨a,b,c⟩;exact⟨a,fun p hp=>b p (h.mem_iff.1 hp),c⟩
def kI (C:List PlcP) (p:PlcP):Int:=Pw C p C.length
def Kc (C:List PlcP) (p:PlcP):Pt5:=⟨kI C p,false,p.qu,p.x,p.y⟩
theorem Vl (C:List PlcP) (p:PlcP):∀n,Pw C p n<n
 | 0=>by simp[Pw]
 | n+1=>by
   rw[Pw];have:=Vl C p n;split<;>omega
theorem Dd {P:List PlcP} {i:Nat} (h:i<P.length):plc P i=P[i]:=by
 unfold plc;rw[List.getD,List.getElem?_eq_getElem h];rfl
theorem Ad0 {l:List Bool} {i t:Nat} (h:i<l.length):gbo (l.set i true) t=if i=t then true else gbo l t:=by
 unfold gbo;rw[List.getD,List.getD,List.getElem?_set];by_cases e:i=t
 ·subst e;simp[h]
 ·simp[e]
theorem Qm {P:List PlcP} {k:Nat} (h:k<P.length):P.take (k+1)=P.take k++[plc P k]:=by
 rw[List.take_succ_eq_append_getElem h,Dd h]
theorem I4 {C P:List PlcP}:∀k,k<=P.length->(Ft C P k).1=0->(∀p∈P.take k,0<=kI C p)/\((P.take k).map (kI C)).Nodup/\(Ft C P k).2.2=(P.take k).map (Kc C)/\(Ft C P k).2.1.length=C.length/\∀t:Nat,(gbo (Ft C P k).2.1 t=true↔(t:Int)∈(P.take k).map (kI C))
 | 0,_,_=>by
   refine⟨by simp,by simp,by simp[Ft],by simp[Ft],fun t=>?_⟩
   unfold Ft gbo;simp[List.getD,List.getElem?_replicate];split<;>simp
 | k+1,hk,h=>by
   have ih:=I4 (C:=C) (P:=P) k (by omega)
   rw[Ft] at h ⊢;split at h
   ·rename_i g;exact absurd h g
   ·rename_i g0
    obtain⟨i1,i2,i3,i4,i5⟩:=ih (by simpa using g0)
    rw[if_neg g0];split at h
    ·cases h
    ·rename_i g1
     rw[if_neg g1];split at h
     ·cases h
     ·rename_i g2
      rw[if_neg g2,Qm (by omega)]
      have hlt:(Pw C (plc P k) C.length).toNat<(Ft C P k).2.1.length:=by rw[i4];have:=Vl C (plc P k) C.length;omega
      have hnew:¬kI C (plc P k)∈(P.take k).map (kI C):=by
       intro hm
       have:=(i5 (Pw C (plc P k) C.length).toNat).2 (by
        have e:(((Pw C (plc P k) C.length).toNat:Nat):Int)=kI C (plc P k):=by unfold kI;omega
        rw[e];exact hm)
       exact g2 this
      refine⟨fun p hp=>?_,?_,?_,?_,fun t=>?_⟩
      ·rcases List.mem_append.1 hp with hp|hp
       ·exact i1 p hp
       ·simp at hp;subst hp;unfold kI;omega
      ·rw[List.map_append,List.nodup_append]
       exact⟨i2,by simp,fun a ha b hb e=>by simp at hb;subst hb;exact hnew (e ▸ ha)⟩
      ·rw[i3,List.map_append];rfl
      ·rw[List.length_set];exact i4
      ·dsimp only
       rw[Ad0 hlt,List.map_append,List.mem_append];by_cases e:(Pw C (plc P k) C.length).toNat=t
       ·rw[if_pos e]
        have:(t:Int)=kI C (plc P k):=by unfold kI;omega
        simp[this]
       ·rw[if_neg e,i5 t]
        have:¬(t:Int)=kI C (plc P k):=by unfold kI;omega
        simp[this]
theorem Wg {C P:List PlcP}:∀k,k<=P.length->(∀p∈P.take k,0<=kI C p)->((P.take k).map (kI C)).Nodup->(Ft C P k).1=0
 | 0,_,_,_=>rfl
 | k+1,hk,h1,h2=>by
   rw[Qm (by omega)] at h1 h2
   rw[List.map_append,List.nodup_append] at h2;have h0:=Wg (C:=C) (P:=P) k (by omega) (fun p hp=>h1 p (List.mem_append_left _ hp)) h2.1
   obtain⟨_,_,_,i4,i5⟩:=I4 k (by omega) h0
   have hk0:=h1 (plc P k) (by simp)
   rw[Ft,if_neg (by rw[h0];simp),if_neg (by unfold kI at hk0;omega)]
   rw[if_neg];intro hg;have hm:=(i5 _).1 hg;have e:(((Pw C (plc P k) C.length).toNat:Nat):Int)=kI C (plc P k):=by unfold kI at *;omega
   rw[e] at hm;exact h2.2.2 _ hm _ (by simp) rfl
end Go.Proofs.YtpbchbcdgikonaaGreat
