/- Lean texts of the claim. -/
import Derived.Test.YtlogblbfbihleaaGreatZr33
namespace Go.Proofs.YtlogblbfbihleaaGreat
set_option linter.all false
set_option maxRecDepth 100000
set_option maxHeartbeats 0
open Go.RowKit
variable{a:Option Addr}{b j p:Nat}{e q:World}{f:List PlcP}{g:Value}{h:TypeId}{i:List Int}{k:Program}{l:Int}{m:List Pt5}{n:List Shp}{o:StyleP}
section
open Go.ChangeShapes Go.WideShapes Go.ChangeAt Go.RowKit Go.Deep Go.Joins
section
variable {H : Type} {enc : TypeId × Value -> H} {w : World} {base b0 : Nat} {spare : Nat -> Bool} {held : Bool} {fuel : Nat} {cs : List Value} {x : DataW H × List MemPlace} {r : Reach} {v : Value} {d : DataW H} {p : List MemPlace}
theorem Ahh {P:Program} {t:TypeId} {fs:Array Field} (ht:P.underlying t=some (.struct fs)) (h:DataW.trod enc P w base spare held fuel t cs=some x) :
 cs.length=P.cellsOf t/\∃n,∀(i:Nat) (f:Field),fs[i]? = some f->∃y,DataW.trod enc P w base spare held n f.type ((cs.drop f.offset).take (P.cellsOf f.type))=some y:=by
 obtain⟨xs,n,_,_,hl,hlen,hf⟩:=DataW.trod_struct ht h;refine⟨hl,n,fun i f hif=>?_⟩
 have hi:i<fs.size:=by
  rcases Nat.lt_or_ge i fs.size with g|g
  ·exact g
  ·rw[Array.getElem?_eq_none g] at hif;cases hif
 exact⟨xs[i]'(by omega),by rw[hf i f hif,List.getElem?_eq_getElem]⟩
theorem jj {P:Program} {t e:TypeId} {u:Value} (ht:P.underlying t=some (.slice e)) (h:DataW.trod enc P w base spare held fuel t [u]=some x):∃A n c,u=.slice A n c:=by
 rcases open_slice ht h with ⟨g,-⟩|⟨a,len,cap,m,k,D,Pl,g,-⟩
 ·simp at g;exact⟨_,_,_,g⟩
 ·simp at g;exact⟨_,_,_,g⟩
theorem Gz {α:Type} [Inhabited α] {P:Program} {t e:TypeId} {sz:Nat} {A:Option Addr} {n c:Nat} (Q:Nat->Nat->α->Prop) (ht:P.underlying t=some (.slice e)) (hc:P.cellsOf e=sz) (hs:0<sz)
 (hel:∀fuel cs' y b o,w.cells? base ⟨b,o,none⟩ sz=some cs'->DataW.trod enc P w base spare held fuel e cs'=some y->∃q,Q b o q)
 (h:DataW.trod enc P w base spare held fuel t [.slice A n c]=some x) :
 n<=c/\c<=9223372036854775807/\(A=none->c=0)/\∃l:List α,l.length=n/\(n=0\/∃b off,A=some ⟨b,off,none⟩/\∀k,k<n->Q b (off+k*sz) (l.getD k default)):=by
 rcases open_slice ht h with ⟨h1,-⟩|⟨a,len,cap,m,k,D,Pl,h1,h2,h3,h4,h5,-,h6⟩
 ·simp at h1
  obtain⟨rfl,rfl,rfl⟩:=h1;exact⟨Nat.le_refl _,by omega,fun _=>rfl,[],rfl,.inl rfl⟩
 ·simp at h1
  obtain⟨rfl,rfl,rfl⟩:=h1;refine⟨h3,by unfold maxLen at h4;exact h4,(fun h=>by cases h),?_⟩
  have hm:n<=m:=by rw[h5];split<;>omega
  rw[hc] at h6;rcases Nat.eq_zero_or_pos n with h0|h0
  ·exact⟨[],by simp[h0],.inl h0⟩
  ·obtain⟨cs0,g0,-⟩:=h6 0 (by omega)
   rw[Nat.zero_mul,Em] at g0;have hl0:=(World.cells?_some g0).2.1
   have ea:a=⟨a.block,a.off,none⟩:=by
    have c0:=C5 g0 hs;rw[Em] at c0;have:∃u,cs0[0]? = some u:=⟨_,List.getElem?_eq_getElem (by omega)⟩
    obtain⟨u,hu⟩:=this;rw[hu] at c0;exact Ro c0
   obtain⟨f,hf⟩:=choose_lt (n:=n) (p:=fun i q=>Q a.block (a.off+i*sz) q) fun i hi=>by
    obtain⟨cs',g1,g2⟩:=h6 i (by omega)
    rw[ea,M7] at g1;exact hel _ _ _ _ _ g1 g2
   refine⟨(List.range n).map f,by simp,.inr ⟨a.block,a.off,by rw[<-ea],fun k hk=>?_⟩⟩
   have e:((List.range n).map f).getD k default=f k:=by simp[List.getD,hk]
   rw[e];exact hf k hk
theorem Nw:Tryz.prog.cellsOf 9=1:=by kernel_rfl
theorem Vd:Tryz.prog.cellsOf 50=2:=by kernel_rfl
theorem Rk:Tryz.prog.cellsOf 197=2:=by kernel_rfl
theorem Zu:Tryz.prog.cellsOf 52=3:=by kernel_rfl
theorem Vc:Tryz.prog.cellsOf 99=6:=by kernel_rfl
theorem Rj:Tryz.prog.cellsOf 48=7:=by kernel_rfl
theorem gz:Tryz.prog.cellsOf 29=7:=by kernel_rfl
theorem Ab0:Tryz.prog.cellsOf 22=1:=by kernel_rfl
theorem Zw:Tryz.prog.cellsOf 23=1:=by kernel_rfl
theorem Abz:Tryz.prog.cellsOf 24=1:=by kernel_rfl
theorem Aby:Tryz.prog.cellsOf 25=1:=by kernel_rfl
theorem Abx:Tryz.prog.cellsOf 26=1:=by kernel_rfl
theorem Abw:Tryz.prog.cellsOf 27=1:=by kernel_rfl
theorem Abv:Tryz.prog.cellsOf 44=1:=by kernel_rfl
theorem Abu:Tryz.prog.cellsOf 45=1:=by kernel_rfl
instance:Inhabited EdgeP:=⟨⟨ByteArray.empty,[]⟩⟩
instance:Inhabited PieceP:=⟨⟨ByteArray.empty,[],0,[],[],[],false⟩⟩
instance:Inhabited UseP:=⟨⟨0,0,false⟩⟩
instance:Inhabited SeamP:=⟨⟨0,0,0,0,false,0⟩⟩
instance:Inhabited PlcP:=⟨⟨0,0,0,false,0,0,0⟩⟩
instance:Inhabited ByteArray:=⟨ByteArray.empty⟩
theorem xd {u:Value} (h:DataW.trod enc Tryz.prog w base spare held fuel 3 [u]=some x):∃z,u=.int .i64 z:=by
 obtain⟨z,e,-⟩:=DataW.trod_int Tryz.underlying3 h;simp at e;exact⟨z,e⟩
theorem Aex {u:Value} (h:DataW.trod enc Tryz.prog w base spare held fuel 4 [u]=some x):∃z,u=.bool z:=by
 obtain⟨z,e,-⟩:=DataW.trod_bool Tryz.underlying4 h;simp at e;exact⟨z,e⟩
theorem Alx {u:Value} (h:DataW.trod enc Tryz.prog w base spare held fuel 9 [u]=some x):∃z:ByteArray,u=.string z/\z.size<=9223372036854775807:=by
 obtain⟨z,e,-,hz⟩:=DataW.trod_string Tryz.underlying9 h;simp at e;exact⟨z,e,by unfold maxLen at hz;exact hz⟩
theorem Pb {A:Option Addr} {n c:Nat} (h:DataW.trod enc Tryz.prog w base spare held fuel 23 [.slice A n c]=some x):n<=c/\c<=9223372036854775807/\(A=none->c=0)/\∃l,InS w A n l:=by
 obtain⟨h1,h2,h3,l,h4,h5⟩:=Gz (α:=Int) (fun b o q=>Cq w b o q) Tryz.underlying23 Ju (by decide) (fun fuel cs' y b o g1 g2=>by
  obtain⟨z,rfl,-⟩:=DataW.trod_int Tryz.underlying3 g2;have c0:=C5 g1 (show 0<1 by omega)
  rw[Em] at c0;exact⟨z,c0⟩) h
 refine⟨h1,h2,h3,l,h4,?_⟩;rcases h5 with h5|⟨b,off,e,h5⟩
 ·exact .inl h5
 ·exact .inr ⟨b,off,e,fun k hk=>by have:=h5 k hk;rw[Nat.mul_one] at this;exact this⟩
theorem jn {A:Option Addr} {n c:Nat} (h:DataW.trod enc Tryz.prog w base spare held fuel 22 [.slice A n c]=some x):n<=c/\c<=9223372036854775807/\(A=none->c=0)/\∃l,StS w A n l:=by
 obtain⟨h1,h2,h3,l,h4,h5⟩:=Gz (α:=ByteArray) (fun b o q=>Cq w b o (.string q)/\q.size<=9223372036854775807) Tryz.underlying22 Nw (by decide) (fun fuel cs' y b o g1 g2=>by
  obtain⟨z,rfl,-,hz⟩:=DataW.trod_string Tryz.underlying9 g2;have c0:=C5 g1 (show 0<1 by omega)
  rw[Em] at c0;exact⟨z,c0,by unfold maxLen at hz;exact hz⟩) h
 refine⟨h1,h2,h3,l,h4,?_⟩;rcases h5 with h5|⟨b,off,e,h5⟩
 ·exact .inl h5
 ·exact .inr ⟨b,off,e,fun k hk=>by have:=h5 k hk;rw[Nat.mul_one] at this;exact this⟩
theorem tm (h:DataW.trod enc Tryz.prog w base spare held fuel 50 cs=some x):∃A n c nm l,cs=[.string nm,.slice A n c]/\n<=c/\c<=9223372036854775807/\SpS w A n l:=by
 obtain⟨hl,n,hf⟩:=Ahh Tryz.underlying50 h;rw[Vd] at hl;obtain⟨c0,c1,rfl⟩:=Afx hl;obtain⟨y0,h0⟩:=hf 0 _ rfl;obtain⟨y1,h1⟩:=hf 1 _ rfl;simp only[List.getElem_toArray,List.getElem_cons_zero,List.getElem_cons_succ] at h0 h1;rw[Nw] at h0;rw[ur] at h1;simp at h0 h1;obtain⟨nm,rfl,-⟩:=Alx h0;obtain⟨A,nn,c,rfl⟩:=jj Tryz.underlying46 h1;obtain⟨g1,g2,g3,l,g4,g5⟩:=Qo h1;exact⟨A,nn,c,nm,l,rfl,g1,g2,g4⟩
theorem gk {A:Option Addr} {n c:Nat} (h:DataW.trod enc Tryz.prog w base spare held fuel 44 [.slice A n c]=some x):n<=c/\c<=9223372036854775807/\(A=none->c=0)/\∃l,EdS w A n l:=by
 obtain⟨h1,h2,h3,l,h4,h5⟩:=Gz (α:=EdgeP) (fun b o q=>Ala w b o q) Tryz.underlying44 Vd (by decide) (fun fuel cs' y b o g1 g2=>by
  obtain⟨A,n,c,nm,l,rfl,k1,k2,k3⟩:=tm g2;have c0:=C5 g1 (show 0<2 by omega)
  have c1:=C5 g1 (show 1<2 by omega)
  rw[Em] at c0;rw[M7] at c1;have hl:=k3.1;subst hl;exact⟨⟨nm,l⟩,c0,A,c,c1,k1,k2,k3⟩) h
 exact⟨h1,h2,h3,l,h4,h5⟩
theorem dz (h:DataW.trod enc Tryz.prog w base spare held fuel 197 cs=some x):∃a b,cs=[.int .i64 a,.int .i64 b]:=by
 obtain⟨hl,n,hf⟩:=Ahh Tryz.underlying197 h;rw[Rk] at hl;obtain⟨c0,c1,rfl⟩:=Afx hl;obtain⟨y0,h0⟩:=hf 0 _ rfl;obtain⟨y1,h1⟩:=hf 1 _ rfl;simp only[List.getElem_toArray,List.getElem_cons_zero,List.getElem_cons_succ] at h0 h1;rw[Ju] at h0 h1;simp at h0 h1;obtain⟨a,rfl⟩:=xd h0;obtain⟨b,rfl⟩:=xd h1;exact⟨a,b,rfl⟩
theorem Ug {A:Option Addr} {n c:Nat} (h:DataW.trod enc Tryz.prog w base spare held fuel 45 [.slice A n c]=some x):n<=c/\c<=9223372036854775807/\(A=none->c=0)/\∃l,SpS w A n l:=by
 obtain⟨h1,h2,h3,l,h4,h5⟩:=Gz (α:=Int×Int) (fun b o q=>Cq w b o q.1/\Cq w b (o+1) q.2) Tryz.underlying45 Rk (by decide) (fun fuel cs' y b o g1 g2=>by
  obtain⟨u,v,rfl⟩:=dz g2;have c0:=C5 g1 (show 0<2 by omega)
  have c1:=C5 g1 (show 1<2 by omega)
  rw[Em] at c0;rw[M7] at c1;exact⟨(u,v),c0,c1⟩) h
 exact⟨h1,h2,h3,l,h4,h5⟩
theorem Ajo {α:Type} {l:List α} (h:l.length=7):∃a b c d e f g,l=[a,b,c,d,e,f,g]:=by
 match l,h with
 | [a,b,c,d,e,f,g],_=>exact⟨a,b,c,d,e,f,g,rfl⟩
theorem Amn {α:Type} {l:List α} (h:l.length=6):∃a b c d e f,l=[a,b,c,d,e,f]:=by
 match l,h with
 | [a,b,c,d,e,f],_=>exact⟨a,b,c,d,e,f,rfl⟩
theorem Amo {α:Type} {l:List α} (h:l.length=3):∃a b c,l=[a,b,c]:=by
 match l,h with
 | [a,b,c],_=>exact⟨a,b,c,rfl⟩
theorem dq (h:DataW.trod enc Tryz.prog w base spare held fuel 48 cs=some x):∃p:PieceP,PcV w cs.toArray p:=by
 obtain⟨hl,n,hf⟩:=Ahh Tryz.underlying48 h;rw[Rj] at hl;obtain⟨c0,c1,c2,c3,c4,c5,c6,rfl⟩:=Ajo hl;obtain⟨y0,h0⟩:=hf 0 _ rfl;obtain⟨y1,h1⟩:=hf 1 _ rfl;obtain⟨y2,h2⟩:=hf 2 _ rfl;obtain⟨y3,h3⟩:=hf 3 _ rfl;obtain⟨y4,h4⟩:=hf 4 _ rfl;obtain⟨y5,h5⟩:=hf 5 _ rfl;obtain⟨y6,h6⟩:=hf 6 _ rfl;simp only[List.getElem_toArray,List.getElem_cons_zero,List.getElem_cons_succ] at h0 h1 h2 h3 h4 h5 h6;rw[Nw] at h0;rw[Abv] at h1;rw[Ju] at h2;rw[Abu] at h3;rw[ur] at h4;rw[Zw] at h5;rw[Pt] at h6;simp at h0 h1 h2 h3 h4 h5 h6;obtain⟨nm,rfl,-⟩:=Alx h0;obtain⟨A1,n1,d1,rfl⟩:=jj Tryz.underlying44 h1;obtain⟨gr,rfl⟩:=xd h2;obtain⟨A2,n2,d2,rfl⟩:=jj Tryz.underlying45 h3;obtain⟨A3,n3,d3,rfl⟩:=jj Tryz.underlying46 h4;obtain⟨A4,n4,d4,rfl⟩:=jj Tryz.underlying23 h5;obtain⟨mt,rfl⟩:=Aex h6;obtain⟨a1,a2,-,la,a3⟩:=gk h1;obtain⟨b1,b2,-,lb,b3⟩:=Ug h3;obtain⟨e1,e2,-,lc,e3,-⟩:=Qo h4;obtain⟨f1,f2,-,ld,f3⟩:=Pb h5;have q1:=a3.1;have q2:=b3.1;have q3:=e3.1;have q4:=f3.1;subst q1 q2 q3 q4;exact⟨⟨nm,la,gr,lb,lc,ld,mt⟩,A1,d1,A2,d2,A3,d3,A4,d4,rfl,⟨a1,a2,a3⟩,⟨b1,b2,b3⟩,⟨e1,e2,e3⟩,f1,f2,f3⟩
theorem Wc {A:Option Addr} {n c:Nat} (h:DataW.trod enc Tryz.prog w base spare held fuel 24 [.slice A n c]=some x):n<=c/\c<=9223372036854775807/\(A=none->c=0)/\∃l,PcS w A n l:=by
 obtain⟨h1,h2,h3,l,h4,h5⟩:=Gz (α:=PieceP) (fun b o q=>∃vs,PcV w vs q/\∀j u,vs[j]? = some u->Cq w b (o+j) u) Tryz.underlying24 Rj (by decide) (fun fuel cs' y b o g1 g2=>by
  obtain⟨q,hq⟩:=dq g2;refine⟨q,cs'.toArray,hq,fun j u hu=>?_⟩
  rw[List.getElem?_toArray] at hu;have hl:cs'.length=7:=(World.cells?_some g1).2.1
  have hj:j<7:=by
   rcases Nat.lt_or_ge j 7 with g|g
   ·exact g
   ·rw[List.getElem?_eq_none (by omega)] at hu;cases hu
  have c0:=C5 g1 hj;rw[M7,hu] at c0;exact c0) h
 exact⟨h1,h2,h3,l,h4,h5⟩
theorem xp (h:DataW.trod enc Tryz.prog w base spare held fuel 52 cs=some x):∃a b c,cs=[.int .i64 a,.int .i64 b,.bool c]:=by
 obtain⟨hl,n,hf⟩:=Ahh Tryz.underlying52 h;rw[Zu] at hl;obtain⟨c0,c1,c2,rfl⟩:=Amo hl;obtain⟨y0,h0⟩:=hf 0 _ rfl;obtain⟨y1,h1⟩:=hf 1 _ rfl;obtain⟨y2,h2⟩:=hf 2 _ rfl;simp only[List.getElem_toArray,List.getElem_cons_zero,List.getElem_cons_succ] at h0 h1 h2;rw[Ju] at h0 h1;rw[Pt] at h2;simp at h0 h1 h2;obtain⟨a,rfl⟩:=xd h0;obtain⟨b,rfl⟩:=xd h1;obtain⟨c,rfl⟩:=Aex h2;exact⟨a,b,c,rfl⟩
theorem iz {A:Option Addr} {n c:Nat} (h:DataW.trod enc Tryz.prog w base spare held fuel 25 [.slice A n c]=some x):n<=c/\c<=9223372036854775807/\(A=none->c=0)/\∃l,UsS w A n l:=by
 obtain⟨h1,h2,h3,l,h4,h5⟩:=Gz (α:=UseP) (fun b o q=>Cq w b o q.pc/\Cq w b (o+1) q.ct/\Cq w b (o+2) (.bool q.pr)) Tryz.underlying25 Zu (by decide) (fun fuel cs' y b o g1 g2=>by
  obtain⟨u,v,q,rfl⟩:=xp g2;have c0:=C5 g1 (show 0<3 by omega)
  have c1:=C5 g1 (show 1<3 by omega)
  have c2:=C5 g1 (show 2<3 by omega)
  rw[Em] at c0;rw[M7] at c1 c2;exact⟨⟨u,v,q⟩,c0,c1,c2⟩) h
 exact⟨h1,h2,h3,l,h4,h5⟩
theorem k7 (h:DataW.trod enc Tryz.prog w base spare held fuel 99 cs=some x):∃a b c d e f,cs=[.int .i64 a,.int .i64 b,.int .i64 c,.int .i64 d,.bool e,.int .i64 f]:=by
 obtain⟨hl,n,hf⟩:=Ahh Tryz.underlying99 h;rw[Vc] at hl;obtain⟨c0,c1,c2,c3,c4,c5,rfl⟩:=Amn hl;obtain⟨y0,h0⟩:=hf 0 _ rfl;obtain⟨y1,h1⟩:=hf 1 _ rfl;obtain⟨y2,h2⟩:=hf 2 _ rfl;obtain⟨y3,h3⟩:=hf 3 _ rfl;obtain⟨y4,h4⟩:=hf 4 _ rfl;obtain⟨y5,h5⟩:=hf 5 _ rfl;simp only[List.getElem_toArray,List.getElem_cons_zero,List.getElem_cons_succ] at h0 h1 h2 h3 h4 h5;rw[Ju] at h0 h1 h2 h3 h5;rw[Pt] at h4;simp at h0 h1 h2 h3 h4 h5;obtain⟨a,rfl⟩:=xd h0;obtain⟨b,rfl⟩:=xd h1;obtain⟨c,rfl⟩:=xd h2;obtain⟨d,rfl⟩:=xd h3;obtain⟨e,rfl⟩:=Aex h4;obtain⟨f,rfl⟩:=xd h5;exact⟨a,b,c,d,e,f,rfl⟩
theorem aq {A:Option Addr} {n c:Nat} (h:DataW.trod enc Tryz.prog w base spare held fuel 26 [.slice A n c]=some x):n<=c/\c<=9223372036854775807/\(A=none->c=0)/\∃l,SeS w A n l:=by
 obtain⟨h1,h2,h3,l,h4,h5⟩:=Gz (α:=SeamP) (fun b o q=>Cq w b o q.pa/\Cq w b (o+1) q.ea/\Cq w b (o+2) q.pb/\Cq w b (o+3) q.eb/\Cq w b (o+4) (.bool q.rv)/\Cq w b (o+5) q.es) Tryz.underlying26 Vc (by decide) (fun fuel cs' y b o g1 g2=>by
  obtain⟨q0,q1,q2,q3,q4,q5,rfl⟩:=k7 g2;have c0:=C5 g1 (show 0<6 by omega)
  have c1:=C5 g1 (show 1<6 by omega)
  have c2:=C5 g1 (show 2<6 by omega)
  have c3:=C5 g1 (show 3<6 by omega)
  have c4:=C5 g1 (show 4<6 by omega)
  have c5:=C5 g1 (show 5<6 by omega)
  rw[Em] at c0;rw[M7] at c1 c2 c3 c4 c5;exact⟨⟨q0,q1,q2,q3,q4,q5⟩,c0,c1,c2,c3,c4,c5⟩) h
 exact⟨h1,h2,h3,l,h4,h5⟩
theorem aa (h:DataW.trod enc Tryz.prog w base spare held fuel 29 cs=some x):∃s:StyleP,StV w cs.toArray s:=by
 obtain⟨hl,n,hf⟩:=Ahh Tryz.underlying29 h;rw[gz] at hl;obtain⟨c0,c1,c2,c3,c4,c5,c6,rfl⟩:=Ajo hl;obtain⟨y0,h0⟩:=hf 0 _ rfl;obtain⟨y1,h1⟩:=hf 1 _ rfl;obtain⟨y2,h2⟩:=hf 2 _ rfl;obtain⟨y3,h3⟩:=hf 3 _ rfl;obtain⟨y4,h4⟩:=hf 4 _ rfl;obtain⟨y5,h5⟩:=hf 5 _ rfl;obtain⟨y6,h6⟩:=hf 6 _ rfl;simp only[List.getElem_toArray,List.getElem_cons_zero,List.getElem_cons_succ] at h0 h1 h2 h3 h4 h5 h6;rw[Nw] at h0;rw[Ab0] at h1;rw[Zw] at h2;rw[Abz] at h3;rw[Aby] at h4;rw[Abx] at h5;rw[Abw] at h6;simp at h0 h1 h2 h3 h4 h5 h6;obtain⟨nm,rfl,-⟩:=Alx h0;obtain⟨A1,n1,d1,rfl⟩:=jj Tryz.underlying22 h1;obtain⟨A2,n2,d2,rfl⟩:=jj Tryz.underlying23 h2;obtain⟨A3,n3,d3,rfl⟩:=jj Tryz.underlying24 h3;obtain⟨A4,n4,d4,rfl⟩:=jj Tryz.underlying25 h4;obtain⟨A5,n5,d5,rfl⟩:=jj Tryz.underlying26 h5;obtain⟨A6,n6,d6,rfl⟩:=jj Tryz.underlying27 h6;obtain⟨a1,a2,-,la,a3⟩:=jn h1;obtain⟨b1,b2,-,lb,b3⟩:=Pb h2;obtain⟨e1,e2,-,lc,e3⟩:=Wc h3;obtain⟨f1,f2,-,ld,f3⟩:=iz h4;obtain⟨g1,g2,-,le,g3⟩:=aq h5
 have hop:n6<=d6/\d6<=9223372036854775807:=by
  rcases open_slice Tryz.underlying27 h6 with ⟨q1,-⟩|⟨a,len,cap,m,k,D,Pl,q1,q2,q3,q4,-⟩
  ·simp at q1;omega
  ·simp at q1;unfold maxLen at q4;omega
 have q1:=a3.1;have q2:=b3.1;have q3:=e3.1;have q4:=f3.1;have q5:=g3.1;subst q1 q2 q3 q4 q5;exact⟨⟨nm,la,lb,lc,ld,le,n6⟩,A1,d1,A2,d2,A3,d3,A4,d4,A5,d5,A6,d6,rfl,⟨a1,a2,a3⟩,⟨b1,b2,b3⟩,⟨e1,e2,e3⟩,⟨f1,f2,f3⟩,⟨g1,g2,g3⟩,hop⟩
def MkV (w:World) (vs:Array Value) (m:MkP):Prop:=∃A1 c1 A2 c2,vs=#[.int .i64 m.len,.int .i64 m.wid,.int .i64 m.rx,.int .i64 m.ry,.slice A1 m.sz.length c1,.slice A2 m.pl.length c2]/\(m.sz.length<=c1/\c1<=9223372036854775807/\InS w A1 m.sz.length m.sz)/\m.pl.length<=c2/\c2<=9223372036854775807/\(A2=none->c2=0)/\PlS w A2 m.pl.length m.pl
end
section
variable {H : Type} {enc : TypeId × Value -> H} {w : World} {base b0 : Nat} {spare : Nat -> Bool} {held : Bool} {r : Reach} {v : Value} {d : DataW H} {p : List MemPlace}
theorem dt (hv:Value.okWide Tryz.prog w r b0 29 v) (h:DataW.Trod enc Tryz.prog w base spare held 29 v d p):∃vs s,v=.agg vs/\StV w vs s:=by
 obtain⟨cs,rfl,hsz⟩:=okWide_struct Tryz.underlying29 hv;obtain⟨fuel,hf⟩:=h;obtain⟨s,hs⟩:=aa hf;exact⟨cs,s,rfl,by simpa[Value.cells] using hs⟩
end
end
def Aem:Array Value:=#[.int .i64 0,.int .i64 0,.int .i64 0,.int .i64 0,.slice none 0 0,.slice none 0 0]
theorem Acr(w:World):MkV w Aem Qa:=⟨none,0,none,0,rfl,⟨Nat.le_refl _,by omega,rfl,.inl rfl⟩,Nat.le_refl _,by omega,λ_=>rfl,rfl,.inl rfl⟩
def Ahe (w:World) (r:Int×MkP) (e:Ending) (a:World):Prop:=∃c,e=.returned (.tuple #[.agg c,r.1])/\(∀b:World,(∀k,w.heap.size<=k->k<a.heap.size->b.heap[k]? = a.heap[k]?)->MkV b c r.2)/\Be w a
theorem mk6{w:World}   {a c d e f:Value} (H:Bf w b h #[g,a,c,d,e,f]):Cq w b 0 g/\Cq w b 1 a/\Cq w b 2 c/\Cq w b 3 d/\Cq w b 4 e/\Cq w b 5 f :=
 ⟨(H.cell 0).trans rfl,(H.cell 1).trans rfl,(H.cell 2).trans rfl,(H.cell 3).trans rfl,(H.cell 4).trans rfl,(H.cell 5).trans rfl⟩
theorem Ali{w:World}  (h:Below b e w)  (a:b<=j) (u0 u1 u2 u3 u4 u5:Value):Below b e ((((((w.setCell ⟨j,0,none⟩ u0).setCell ⟨j,1,none⟩ u1).setCell ⟨j,2,none⟩ u2).setCell ⟨j,3,none⟩ u3).setCell ⟨j,4,none⟩ u4).setCell ⟨j,5,none⟩ u5) :=
 Below.setCell (Below.setCell (Below.setCell (Below.setCell (Below.setCell (Below.setCell h a _) a _) a _) a _) a _) a _
theorem H8{w:World} {a:Option Nat} {p:Addr}  (d:w.grownBy e a) (h:w.cell? p=some g) (b:some p.block≠a):e.cell? p=some g:=by
 have c:=d.block p.block (Bi h) b;have:e.cell? p=w.cell? p:=by unfold World.cell?;rw[c]
 rw[this];exact h
theorem si(h:b<f.length) (q x y:Int):(((f.flatMap xi).set (b*7+4) (.int .i64 q)).set (b*7+5) (.int .i64 x)).set (b*7+6) (.int .i64 y)=(f.set b ⟨(plc f b).ga,(plc f b).us,(plc f b).cp,(plc f b).fl,q,x,y⟩).flatMap xi:=by
 induction f generalizing b with
 | nil=>simp at h
 | cons a f ih =>
   cases b with
   | zero=>simp[xi,List.flatMap_cons,plc]
   | succ b =>
     rw[List.set_cons_succ,List.flatMap_cons,List.flatMap_cons];have e:plc (a::f) (b+1)=plc f b:=by unfold plc;simp[List.getD]
     rw[e,<-ih (by simpa using h)];simp only[xi,List.cons_append,List.nil_append];rw[show (b+1)*7+4=(b*7+4)+1+1+1+1+1+1+1 by omega,show (b+1)*7+5=(b*7+5)+1+1+1+1+1+1+1 by omega,show (b+1)*7+6=(b*7+6)+1+1+1+1+1+1+1 by omega];simp only[List.set_cons_succ]
theorem Tb.store3{w:World} {n:Nat}  (h:Tb w b (.slice (some ⟨j,0,none⟩) n p) f) (g:f.length=n) {k:Nat} (e:k<n) (q x y:Int) :
 Tb (((w.setCell ⟨j,k*7+4,none⟩ (.int .i64 q)).setCell ⟨j,k*7+5,none⟩ (.int .i64 x)).setCell ⟨j,k*7+6,none⟩ (.int .i64 y)) b (.slice (some ⟨j,0,none⟩) n p) (f.set k ⟨(plc f k).ga,(plc f k).us,(plc f k).cp,(plc f k).fl,q,x,y⟩):=by
 subst g;have c:=(World.ownsRow.stored h (k*7+4) (.int .i64 q)).1;have d:=(World.ownsRow.stored c (k*7+5) (.int .i64 x)).1;have a:=(World.ownsRow.stored d (k*7+6) (.int .i64 y)).1;rw[si e]at a;unfold Tb OwG;rw[List.length_set];exact a
theorem OwI.insA{w:World} {c:Nat}   (h:OwI w b (.slice a j c) i) (f:i.length=j):InS w a j i:=by
 subst f;obtain⟨g,k,e,-,d,-⟩:=OwI.ins h;injection e with e1
 rw[e1];exact d
theorem Tb.plsA{w:World} {c:Nat}   (h:Tb w b (.slice a j c) f) (g:f.length=j):PlS w a j f:=by
 subst g;obtain⟨i,k,e,-,-,d⟩:=Tb.pls h;injection e with e1
 rw[e1];exact d
theorem Aqj(q:Array Value) (s:StyleP) (b:Bed4) (A:Option Addr) (n c:Nat) (Z:List Int) (w:World) (D:n<=c) (j:c<=9223372036854775807) (B:InS w A n Z) (l:SmS s) (p:StV w q s) (h:(Bc s Z).1≠0) :
 Calls Tryz.prog 11 #[.agg q,Jw b,.slice A n c] w (Ahe w ((Bc s Z).1,Qa)):=by
 let⟨r,k⟩:=gN (Bc s Z)
 rw[k]at h ⊢;have t:=Ar k;obtain⟨x,S,C⟩:=r;dsimp only at h ⊢;have E:(x != 0)=true:=by simpa using h
 clear k h;obtain⟨V,c1,W,c2,A3,c3,A4,c4,A5,c5,A6,c6,rfl,⟨v1,v2,v3⟩,⟨v4,v5,v6⟩,⟨v7,v8,v9⟩,⟨L,M,N⟩,⟨O,P,Q⟩,R,T⟩:=id p;obtain⟨bl,bw,rx,ry⟩:=b;unfold Jw;dsimp only at *
 go_enter Tryz.func11,Tryz.ntmps11;go_upto_region 1 with fail;refine Jy λX d y hK z=>?_
 let⟨p0,p1,p2,p3,p4,p5,p6⟩:=st7 y;have m:=p.keep d
 go_upto_region 3 with (go_at_call 6;refine(Gr _ s A n c Z _ D j (B.keep d) l m).mono ?_;rintro e U ⟨u1,u2,rfl,i,F,f⟩;rw[t.out]at i ⊢;let⟨xs,o⟩:=i.own;obtain⟨AS,cS,rfl,-⟩:=OwG.form2 o)
 refine Cj (λY=>Be U Y) blA ?_;intro Y g;have a:=(z.keep f).keep g;let⟨q0,q1,q2,q3,q4,q5⟩:=mk6 a;have g0:=a.frozen 0;have g1:=a.frozen 1;have g2:=a.frozen 2;have g3:=a.frozen 3;have g4:=a.frozen 4;have g5:=a.frozen 5;go_wp2_with fail;let⟨G,H,s2,I,J,K⟩:=mk6 ((((((a.set_ 0 (.int .i64 0)).set_ 1 (.int .i64 0)).set_ 2 (.int .i64 0)).set_ 3 (.int .i64 0)).set_ 4 (.slice none 0 0)).set_ 5 (.slice none 0 0));exact bR ⟨Aem,rfl,λu _=>Acr u,Ali (An (An d f) g) (by omega) _ _ _ _ _ _⟩ rfl (by simp[results,Tryz.results11,go_sem,G,H,s2,I,J,K,Aem])
theorem X5{S:List Shp} {C:List PlcP} (h:Bc o i=(0,S,C)):S.length=C.length/\S.length<=60:=by
 have b:(Bc o i).1=0:=by rw[h]
 obtain⟨e,-,-,-,-,a,-⟩:=Kz b;rw[h]at e;injection e with _ e
 injection e with e1 e2
 rw[e1,e2,Lp,Pf,Nat.mul_comm];exact⟨rfl,a⟩
theorem Aqi(vs:Array Value) (s:StyleP) (b:Bed4) (A:Option Addr) (n c:Nat) (Z:List Int) (w:World) (hn:n<=c) (n5:c<=9223372036854775807) (la:A=none->c=0) (hZ:InS w A n Z) (lf:SmS s) (hv:StV w vs s) (h:(Bc s Z).1=0) (ak:(Bc s Z).2.1.length<20) :
 Calls Tryz.prog 11 #[.agg vs,Jw b,.slice A n c] w (Ahe w (Hg s b Z)):=by
 let⟨r,hr⟩:=gN (Bc s Z)
 obtain⟨x,S,C⟩:=r;rw[hr]at h ak;dsimp only at h ak;subst h;obtain⟨j5,-⟩:=X5 hr;have rm:n<=6:=by have:=(Kz (s:=s) (Z:=Z) (by rw[hr])).2.2.2.1;rw[hZ.1]at this;exact this
 have HE:=Ar hr
 have R:=Ar (show Hg s b Z=if (Jz b S (No S)).1≠0 then ((Jz b S (No S)).1,Qa) else if (Vn S (Jz b S (No S)).2).1≠0 then ((Vn S (Jz b S (No S)).2).1,Qa) else (0,⟨(Vn S (Jz b S (No S)).2).2,b.wid,b.rx,b.ry,Z,Hv C (Jz b S (No S)).2 (Jz b S (No S)).2.length⟩) by
  unfold Hg;rw[hr];dsimp only;rw[if_neg (show ¬((0:Int)≠0) by simp)])
 have bx:=Ar (show Jb (Ov S) (upI S.length S.length) S.length=No S by rw[Xo];rfl)
 have bt:=Ar (show ∀z∈No S,0<=z/\z<S.length from λz hz=>by
  have:=(Ud S).mem_iff.1 hz;simp at this;omega)
 have y:=Ar (show (No S).length=S.length by rw[(Ud S).length_eq];simp);let⟨rr,bb⟩:=gN (Jz b S (No S))
 have ai:=Ar (λ(h:rr.1=0)=>lh (b:=b) (S:=S) (os:=No S) (by rw[bb];exact h));have bs:=Ar (λ(h:rr.1=0)=>az (b:=b) (S:=S) (os:=No S) (by rw[bb];exact h));rw[bb]at R bs ai;have e8:=Ar bb;obtain⟨er,t⟩:=rr;dsimp only at R bs ai;let⟨O,hO⟩:=gN (No S)
 rw[hO]at bx bt y ai e8;have h9:=Ar j5;have hh:=Ar (show S.length<=1000000 by omega);clear hr bb hO j5;obtain⟨A1,c1,A2,c2,A3,c3,A4,c4,A5,c5,A6,c6,rfl,⟨v1,v2,v3⟩,⟨v4,v5,v6⟩,⟨v7,v8,v9⟩,⟨nz,o0,o1⟩,⟨o2,o3,o4⟩,o5,h3⟩:=id hv;obtain⟨bl,bw,rx,ry⟩:=b;unfold Jw;dsimp only at *
 go_enter Tryz.func11,Tryz.ntmps11;go_upto_region 1 with fail;refine Jy λX U hP hK hR=>?_
 let⟨p0,p1,p2,p3,p4,p5,p6⟩:=st7 hP;have lg:=hv.keep U
 go_upto_region 4 with (go_at_call 6;refine(Gr _ s A n c Z _ hn n5 (hZ.keep U) lf lg).mono ?_;rintro e w1 ⟨u1,u2,rfl,ck,a,cd⟩;rw[HE.out]at ck a ⊢;dsimp only at ck a ⊢;obtain⟨AS,cS,rfl,lS,mS,fb⟩:=ck.shs hh.out;obtain⟨AP,cP,rfl,lP,mP,-⟩:=Tb.pls a)
 let⟨nq,ch⟩:=gN S.length
 have gf:C.length=nq:=by rw[<-h9.out,ch]
 rw[ch]at fb ak bx bt y lS ⊢;rw[gf]at a lP ⊢;have ha:=Ar gf;have ml:=Ar ch;refine Bq λY a1 hV=>?_
 let⟨ZZ,nd,k0⟩:=qd nq (by omega);have iy:=(hK.keep cd).keep a1;have j0:=(hR.keep cd).keep a1;have fc:=fb.keep a1;have e5:=OwG.keep a a1;have b4:=An cd a1;have j9:=(hZ.keep U).keep b4;have n0:w.heap.size+1+1<X.heap.size:=hR.lt;have N:=k0 Y;have ds:=Ao (Below.refl Y.heap.size Y) (.cells ZZ 3);let⟨B8,im⟩:=gN w1.heap.size
 let⟨BO,ek⟩:=gN Y.heap.size
 rw[im]at hV ⊢;have v0:Cq Y B8 0 (.slice AS nq cS):=(hV.cell 0).trans rfl;have ec:=Ar (show SoW Y B8 nq S from ⟨AS,cS,hV,fc⟩);have e7:=Ar ek;clear hP hK hR ck a fb cd a1 p0 p1 p2 p3 p4 p5 p6 lg k0 gf ch v3 v6 v9 o1 o4 im;go_upto_region 6 with fail;clear nd;rw[<-xq]at N;rw[ek]at N;clear ek;go_loopw [12,34] (λ_ i wx=>∃k:Nat,k<=nq/\i=.int .i64 k/\OwI wx Y.heap.size (.slice (some ⟨BO,0,none⟩) nq nq) (upI nq k)/\Be Y wx) λ_ i _=>nq-(intOf i).toNat
 case atStart=>exact⟨0,Nat.zero_le _,rfl,by rw[e7.out];exact N,ds⟩
 clear N ds;obtain⟨k,Q,rfl,cj,hb⟩:=hrel;by_cases gw:k<nq
 .obtain⟨e0,f0⟩:=OwI.cellsI cj (Vq nq k) gw;have B1:(k:Int)<(nq:Int):=by omega
  have HU:=Ar (xt gw);go_wp2_with fail;exact⟨⟨k+1,by omega,by go_num,by rw[<-HU.out];exact OwI.storeI cj (Vq nq k) k (k:Int),Ba hb (p:=⟨BO,k,none⟩) (by show Y.heap.size<=BO;rw[e7.out];exact Nat.le_refl _) _⟩,by simp[intOf];omega⟩
 obtain rfl:nq=k:=by omega
 have hc:Hid (Ahs nq (upI nq nq)):=Ar (λz hz=>by
  rw[Xo]at hz;obtain⟨i,hi,rfl⟩:=List.mem_map.1 hz;have:=List.mem_range.1 hi;omega)
 have da:=Ar (show Calls Tryz.prog 27 #[.slice (some ⟨BO,0,none⟩) nq nq,.func (.func 28) #[] #[.pointer (some ⟨B8,0,none⟩)]] wr λe w'=>e=.returned (.tuple #[])/\OwI w' Y.heap.size (.slice (some ⟨BO,0,none⟩) nq nq) (Jb (Ov S) (upI nq nq) nq)/\Be Y w' from jt B8 nq S BO nq nq (upI nq nq) Y wr ak (Vq _ _) ec.out hb hc.out cj)
 go_upto_region 11 with (go_at_call 27;refine da.out.mono ?_;rintro e w2 ⟨rfl,gx,E⟩;rw[bx.out]at gx)
 have ca:=iy.keep E
 have j6:=(show Bf w2 B8 32 #[.slice AS nq cS] from by
  obtain⟨A',c',h1,-⟩:=ec.out;have:=h1.keep E;have e:=(h1.cell 0).symm.trans v0;simp at e;rw[e.1,e.2]at this;exact this)
 have ar:=fc.keep E;have c9:=OwI.insA gx y.out;have cc:=j0.keep E;have b8:=OwG.keep e5 E;have P:=An b4 E;have fr:=j9.keep E
 have e9:=Ar (λ(W:World) (h1:ShS W AS nq S) (h2:InS W (some ⟨BO,0,none⟩) nq O)=>show Calls Tryz.prog 30 #[.agg #[bl,bw,rx,ry],.slice AS nq cS,.slice (some ⟨BO,0,none⟩) nq nq] W (Aeh W (er,t)) from by
  rw[<-e8.out];exact Ae8 AS (some ⟨BO,0,none⟩) cS nq nq nq ⟨bl,bw,rx,ry⟩ S O W (by omega) h1 h2)
 obtain⟨b0,b1,b2,b3,-⟩:=ca.cells4;have h4:Cq w2 B8 0 (.slice AS nq cS):=(j6.cell 0).trans rfl;clear cj hb hV fc iy j0 e5 b4 j9 v0 Q;by_cases cf:er=0
 .subst cf;obtain⟨-,-,G,dx⟩:=ai.out rfl;have gg:=bs.out rfl;let⟨xx,h0⟩:=gN ((Vn S t).2)
  have HX:=Ar (show Vn S t=(0,xx) from Prod.ext gg h0)
  have h8:=Ar (show Hg s ⟨bl,bw,rx,ry⟩ Z=(0,⟨xx,bw,rx,ry,Z,Hv C t nq⟩) by
   rw[R.out,if_neg (show ¬((0:Int)≠0) by simp),if_neg (by rw[gg];simp),h0]
   try dsimp only
   rw[show t.length=nq by rw[G];exact y.out])
  have ba:t.length=nq:=by rw[G];exact y.out
  have hd:=Ar ba
  have hf:=Ar (λk (Q:k<nq)=>show ∃q:Nat,(pt t k).sh=q/\q<nq from by
   have h1:=(dx k (by rw[y.out];exact Q)).2;have h2:=bt.out _ (rp (show k<O.length by rw[y.out];exact Q));exact⟨(gi O k).toNat,by omega,by omega⟩)
  clear G dx gg h0 ai bs R
  go_upto_region 14 with (go_at_call 30;refine(e9.out _ ar c9).mono ?_;rintro e w3 ⟨v3,rfl,b7,f⟩;dsimp only at b7 ⊢;have o7:=Aq f h4)
  have b9:=OwG.keep b8 f;have fs:=OwG.apart b7 b9 (by decide);obtain⟨Au,cu,rfl,cb⟩:=OwP.pus b7;rw[ba]at cb fs ⊢;have j4:=ar.keep f;have ix:=ca.keep f;have d:=cc.keep f;have dk:=An P f;have j8:=fr.keep f;clear ba b7 b8 ar ca cc P fr f b0 b1 b2 b3 h4 c9 gx j6 E
  go_upto_region 18 with (go_at_call 31;refine rR (gj AS Au cS cu nq nq S t _ (by omega) j4 cb) λw4 I=>?_;rw[HX.out])
  have F:=OwG.keep b9 I;have eo:=ix.keep I;have ey:=d.keep I;have aw:=An dk I;have n3:=j8.keep I;have dc:=cb.keep I;have dy:=OwG.neB F eo (by decide);have e4:=OwG.neB F ey (by decide);have kz:=λk Q=>(OwG.lt F k Q).1
  clear b9 j4 ix d dk j8 cb I o7;go_loopw [16,68] (λ_ i wx=>∃k:Nat,k<=nq/\i=.int .i64 k/\Tb wx X.heap.size (.slice AP nq cP) (Hv C t k)/\w4.grownBy wx (Value.slice AP nq cP).ownBlock) λ_ i _=>nq-(intOf i).toNat
  case atStart=>exact⟨0,Nat.zero_le _,rfl,F,World.grownBy.refl _ _⟩
  clear F;obtain⟨k,Q,rfl,a,hg⟩:=hrel;have T:=Ar (show (Hv C t k).length=nq by rw[(Q9 k).1];exact ha.out);by_cases kp:k<nq
  .rcases OwG.form a with⟨e,-⟩|⟨gP,mr,e,g1,g2,g3,g4⟩
   .injection e with _ e2 _;omega
   injection e with e1 e2 e3
   subst e1 e3;let⟨q,hx,kk⟩:=hf.out k kp;obtain⟨bu,ou,rfl,-,x1,x2,x3,x4,x5⟩:=dc.at_ kp
   have a8:some bu≠(Value.slice (some ⟨gP,0,none⟩) nq cP).ownBlock:=by
    rcases fs with h|h
    .simp[Value.ownBlock]at h
    simpa[Value.ownBlock] using h
   have y1:=H8 hg x1 a8;have y2:=H8 hg x2 a8;have y3:=H8 hg x3 a8;have y4:=H8 hg x4 a8;have y5:=H8 hg x5 a8;have ad:=Ar (show Hv C t (k+1)=(Hv C t k).set (pt t k).sh.toNat (Alm (plc (Hv C t k) (pt t k).sh.toNat) (pt t k)) from rfl);rw[hx]at y1 ad;rw[Int.toNat_natCast]at ad;let⟨L,hL⟩:=gN (Hv C t k)
   rw[hL]at a ad T;let⟨⟨vm,vd,nk,px,py⟩,hp⟩:∃p,pt t k=p:=⟨_,rfl⟩
   rw[hp]at y2 y3 y4 y5 ad;dsimp only at y2 y3 y4 y5;have B1:(k:Int)<(nq:Int):=by omega
   have B2:(q:Int)<(nq:Int):=by omega
   clear x1 x2 x3 x4 x5 hL hp hx e2 g3 g4;go_upto_region 20 with fail;refine Bq λV k6 hT=>?_
   have gy:=OwG.keep a k6;let⟨l0,l1,l2,l3,l4,l5,l6⟩:=Tb.cells gy T.out kk
   have cg:∀j,V.frozen? ⟨gP,j,none⟩=false:=by
    have h2:=gy;rw[<-T.out]at h2;exact λj=>OwG.frozen h2 j
   have f4:=cg (q*7+4);have f5:=cg (q*7+5);have f6:=cg (q*7+6);let⟨t0,t1,t2,t3,t4⟩:=sh5 hT;have n9:=Gb.below hg k6;have p7:wr.heap.size≠gP:=by omega
   have nf:gP≠wr.heap.size:=by omega
   clear y1 y2 y3 y4 y5 a cg;go_wp2_with fail;exact⟨⟨k+1,by omega,by go_num,by rw[ad.out];exact Tb.store3 gy T.out kk nk px py,Gb.set (Gb.set (Gb.set n9 _ _) _ _) _ _⟩,by simp[intOf];omega⟩
  obtain rfl:nq=k:=by omega
  have ev:=eo.grown hg dy;have fa:=ey.grown hg e4;have b5:=Below.grown aw hg aw.size kz;have au:=An U b5;have k1:=hZ.keep au;obtain⟨-,b1,b2,b3,-⟩:=ev.cells4;have k5:=Aw (Below.refl wr.heap.size wr);clear eo ey aw n3 dc hg dy e4;go_upto_region 23 with fail;go_cut [17] λh3 wx=>∃bm H u,h3=.pointer (some ⟨bm,0,none⟩)/\Bf wx bm 42 #[xx,bw,rx,ry,.slice H n u,.slice AP nq cP]/\OwI wx wr.heap.size (.slice H n u) Z/\n<=u/\Be wr wx
  case first =>
   have mf:=Ar (λ(W:World) (hW:Be wr W)=>show Calls Tryz.prog 32 #[.slice A n c] W (λe M=>∃H u,e=.returned (.slice H n u)/\n<=u/\OwI M wr.heap.size (.slice H n u) Z/\Be wr M/\(∀g cs,Bf W g 42 cs->Bf M g 42 cs)/\True) from
    (gq A c n Z W (by omega) (k1.keep hW) la).mono λe M h=>by
     obtain⟨v5,rfl,K,k4⟩:=h;obtain⟨H,u,rfl,J,ni,-⟩:=OwI.ins K;have hl:=ni.1;have nc:Z.length=n:=k1.1;rw[nc]at J K ⊢;exact⟨H,u,rfl,J,K.lower hW.size,An hW k4,λg cs h=>h.keep k4,trivial⟩)
   have KF:∀M,Be wr M->(Cq M (w.heap.size+1) 1 bw/\Cq M (w.heap.size+1) 2 rx/\Cq M (w.heap.size+1) 3 ry):=λM hb=>by
    obtain⟨-,j1,j2,j3,-⟩:=(ev.keep hb).cells4;exact⟨j1,j2,j3⟩
   clear fa b5 au kz fs HE h8 bx bt y e8 h9 hh ha ml ec e7 hc da e9 HX hd hf hv lf T a lS mS lP mP v1 v2 v4 v5 v7 v8 nz o0 o2 o3 o5 h3 ak n0 gw Q;have sa:=λo=>(KF _ (Ao (Below.refl wr.heap.size wr) o)).1
   have sb:=λo=>(KF _ (Ao (Below.refl wr.heap.size wr) o)).2.1
   have sd:=λo=>(KF _ (Ao (Below.refl wr.heap.size wr) o)).2.2
   go_region_law ((go_simp;go_at_call 32;refine(mf.out _ (by first|(with_reducible exact k5)|(with_reducible exact Aw blA))).mono ?_;rintro e w5 ⟨H,u,rfl,J,K,l,nb,-⟩;let⟨b1,b2,b3⟩:=KF _ l;have sn:=λo=>(KF _ (Ao l o)).1;have sq:=λo=>(KF _ (Ao l o)).2.1;have sr:=λo=>(KF _ (Ao l o)).2.2;try (have kB:Bf w5 wr.heap.size 42 #[.int .i64 0,.int .i64 0,.int .i64 0,.int .i64 0,.slice none 0 0,.slice none 0 0]:=nb _ _ (by exact Bf.new wr _ _);let⟨m0,m1,m2,m3,m4,m5⟩:=mk6 kB;have f0:=kB.frozen 0;have f1:=kB.frozen 1;have f2:=kB.frozen 2;have f3:=kB.frozen 3;have f4:=kB.frozen 4;have f5:=kB.frozen 5)))
   all_goals go_wp2_with fail
   all_goals go_meet
   all_goals first
    | (with_reducible refine⟨w5.heap.size,H,u,?_,?_,?_,J,Ao l _⟩
       .rfl
       .exact Bf.new _ _ _
       exact OwG.alloc K _)
    | (with_reducible refine⟨wr.heap.size,H,u,?_,?_,?_,J,Ali l (Nat.le_refl _) _ _ _ _ _ _⟩
       .rfl
       .exact(((((kB.set_ 0 _).set_ 1 _).set_ 2 _).set_ 3 _).set_ 4 _).set_ 5 _
       have a7:=Ne.symm (OwG.neB K kB (by decide));exact(((((OwG.far K (p:=⟨wr.heap.size,0,none⟩) a7 _).far (p:=⟨wr.heap.size,1,none⟩) a7 _).far (p:=⟨wr.heap.size,2,none⟩) a7 _).far (p:=⟨wr.heap.size,3,none⟩) a7 _).far (p:=⟨wr.heap.size,4,none⟩) a7 _).far (p:=⟨wr.heap.size,5,none⟩) a7 _)
  obtain⟨bm,H,u,rfl,hM,lb,J,l⟩:=hcut;have D:=fa.keep l;let⟨m0,m1,m2,m3,m4,m5⟩:=mk6 hM;let⟨q0,q1,q2,q3,q4,q5⟩:=mk6 D;have g0:=D.frozen 0;have g1:=D.frozen 1;have g2:=D.frozen 2;have g3:=D.frozen 3;have g4:=D.frozen 4;have g5:=D.frozen 5;have fv:=An au l;have e6:=OwG.keep a l;have r5:X.heap.size<=wr.heap.size:=b5.size
  have k2:AP=none->cP=0:=λh=>by
   rcases OwG.form e6 with⟨e,-⟩|⟨g,mr,e,-⟩
   .injection e
   injection e with e1;rw[h]at e1;cases e1
  have k9:u<=9223372036854775807:=by
   obtain⟨A',c',e,-,h2,-⟩:=OwG.form2 lb;injection e with _ _ e3
   rw[e3];unfold maxLen at h2;exact h2
  clear ev fa b1 b2 b3 k5;go_wp2_with fail;let⟨s0,s1,s2,s3,s4,s5⟩:=mk6 ((((((D.set_ 0 (.int .i64 xx)).set_ 1 (.int .i64 bw)).set_ 2 (.int .i64 rx)).set_ 3 (.int .i64 ry)).set_ 4 (.slice H n u)).set_ 5 (.slice AP nq cP));refine bodyPost_ret (v:=.tuple #[.agg #[xx,bw,rx,ry,.slice H n u,.slice AP nq cP],.int .i64 0]) (by simp[results,Tryz.results11,go_sem,s0,s1,s2,s3,s4,s5]) rfl ?_;rw[h8.out];have cn:Z.length=n:=hZ.1;have G:(Hv C t nq).length=nq:=T.out
  have na:∀k,X.heap.size<=k->((((((wc.setCell ⟨w.heap.size+1+1,0,none⟩ (.int .i64 xx)).setCell ⟨w.heap.size+1+1,1,none⟩ (.int .i64 bw)).setCell ⟨w.heap.size+1+1,2,none⟩ (.int .i64 rx)).setCell ⟨w.heap.size+1+1,3,none⟩ (.int .i64 ry)).setCell ⟨w.heap.size+1+1,4,none⟩ (.slice H n u)).setCell ⟨w.heap.size+1+1,5,none⟩ (.slice AP nq cP)).heap[k]? = wc.heap[k]? := λk Q=>by
   have a6:k≠w.heap.size+1+1:=by omega
   exact(Dv _ _ _ _ a6).trans ((Dv _ _ _ _ a6).trans ((Dv _ _ _ _ a6).trans ((Dv _ _ _ _ a6).trans ((Dv _ _ _ _ a6).trans (Dv _ _ _ _ a6)))))
  have r6:=U.size;refine⟨_,rfl,λM n2=>?_,Ali fv (by omega) _ _ _ _ _ _⟩;have kl:∀k,X.heap.size<=k->k<wc.heap.size->M.heap[k]? = wc.heap[k]? := λk Q b6=>(n2 k (by omega) (by simpa[World.setCell] using b6)).trans (na k Q)
  refine⟨H,u,AP,cP,?_,⟨?_,k9,?_⟩,?_,mP,k2,?_⟩
  .dsimp only;rw[cn,G]
  .dsimp only;rw[cn];exact J
  .dsimp only;rw[cn];exact OwI.insA (lb.keepAbove λk Q b6=>kl k (by omega) b6) cn
  .dsimp only;rw[G];exact lP
  dsimp only;rw[G];exact Tb.plsA (e6.keepAbove λk Q b6=>kl k Q b6) G
 have a8:(er != 0)=true:=by simpa using cf
 have ly:=Ar (show Hg s ⟨bl,bw,rx,ry⟩ Z=(er,Qa) by rw[R.out,if_pos cf]);clear cf R
 go_upto_region 13 with (go_at_call 30;refine(e9.out _ ar c9).mono ?_;rintro e w3 ⟨v3,rfl,b7,f⟩)
 have d:=cc.keep f;let⟨q0,q1,q2,q3,q4,q5⟩:=mk6 d;have g0:=d.frozen 0;have g1:=d.frozen 1;have g2:=d.frozen 2;have g3:=d.frozen 3;have g4:=d.frozen 4;have g5:=d.frozen 5;have fv:=An U (An P f);clear ca ar c9 cc b8 P fr b0 b1 b2 b3 h4;go_wp2_with fail;let⟨s0,s1,s2,s3,s4,s5⟩:=mk6 ((((((d.set_ 0 (.int .i64 0)).set_ 1 (.int .i64 0)).set_ 2 (.int .i64 0)).set_ 3 (.int .i64 0)).set_ 4 (.slice none 0 0)).set_ 5 (.slice none 0 0));refine bodyPost_ret (v:=.tuple #[.agg Aem,er]) (by simp[results,Tryz.results11,go_sem,s0,s1,s2,s3,s4,s5,Aem]) rfl ?_;rw[ly.out];exact⟨Aem,rfl,λM _=>Acr M,Ali fv (by omega) _ _ _ _ _ _⟩
theorem Pu(f:Array Value) (s:StyleP) (b:Bed4) (A:Option Addr) (n c:Nat) (Z:List Int) (w:World) (j:n<=c) (a:c<=9223372036854775807) (d:A=none->c=0) (i:InS w A n Z) (e:SmS s) (k:StV w f s) (g:(Bc s Z).1=0->(Bc s Z).2.1.length<20) :
 Calls Tryz.prog 11 #[.agg f,Jw b,.slice A n c] w (Ahe w (Hg s b Z)):=by
 by_cases h:(Bc s Z).1=0
 .exact Aqi f s b A n c Z w j a d i e k h (g h)
 rw[show Hg s b Z=((Bc s Z).1,Qa) by unfold Hg;rw[if_pos h]];exact Aqj f s b A n c Z w j a i e k h
theorem PuS.take{w:World}    (h:PuS w a b m) {i:Nat} (g:i<=b):PuS w a i (m.take i):=by
 refine⟨by rw[List.length_take,h.1];omega,?_⟩;obtain⟨f,h⟩:=h;rcases h with rfl|⟨d,c,rfl,h⟩
 .exact .inl (by omega)
 refine .inr ⟨d,c,rfl,λk e=>?_⟩;rw[Afd e];exact h k (by omega)
def iu (b:Bed4) (S:List Shp) (a:List Pt5) (k:Nat):Int:=Fh (λi=>Ha b S (a.take i) (pt a i)) k
theorem uo(b:Bed4) (S:List Shp) (a:List Pt5) (k:Nat):iu b S a (k+1)=if iu b S a k≠0 then iu b S a k else Ha b S (a.take k) (pt a k):=by
 unfold iu;rw[Fh];simp only[ite_not]
theorem Abt{a:Bed4}    {x:Int} (h:iu a n m b=x) (c:x≠0) (d:Nat):iu a n m (b+d)=x:=by
 unfold iu at h ⊢;rw[Uv (by rw[h];exact c),h]
theorem uq(V W:Option Addr) (B o n1 g:Nat) (b:Bed4) (S:List Shp) (j:List Pt5) (w:World) (b8:g<=9223372036854775807) (b5:g<=o) (b7:o<=9223372036854775807) (hS:ShS w V n1 S) (q:PuS w W g j) :
 Calls Tryz.prog 55 #[Jw b,.slice V n1 B,.slice W g o] w (Bz w (Zt b S j)):=by
 have t:=Ar (Bf.new w 57 #[b.len,b.wid,b.rx,b.ry]);have d:=Ar (show Be w (w.alloc (.cells #[b.len,b.wid,b.rx,b.ry] 57)) from (Ao (Below.refl _ _) _));obtain⟨len,a,rx,l⟩:=b;unfold Jw;dsimp only at t d ⊢;have K:=q.1;by_cases C:60<g
 .have I:=Ar (show Zt ⟨len,a,rx,l⟩ S j=5 by unfold Zt;rw[K,if_pos C]);clear K;go_enter Tryz.func55,Tryz.ntmps55;go_wp2_with fail;go_ret;exact⟨Bm I.out.symm,d.out⟩
 have I:=Ar (show Zt ⟨len,a,rx,l⟩ S j=iu ⟨len,a,rx,l⟩ S j g by unfold Zt iu;rw[K,if_neg C]);clear K;go_enter Tryz.func55,Tryz.ntmps55;go_wp2_with fail;refine Cu (λX=>Be w X/\Bf X w.heap.size 57 #[len,a,rx,l]) ⟨d.out,t.out⟩ ?_;clear d t;rintro X ⟨d,t⟩;have R:=hS.keep d;have E:=q.keep d;have HB:=Ar t;clear hS q t;go_loopw [15] (λi wr=>∃k:Nat,k<=g/\i=.int .i64 k/\Hid (iu ⟨len,a,rx,l⟩ S j k=0)/\Be X wr) λi _=>g-(intOf i).toNat
 case atStart=>exact⟨0,Nat.zero_le _,rfl,Ar rfl,bl0⟩
 obtain⟨k,hk,rfl,hz,J⟩:=hrel;by_cases U:k<g
 .have i2:(k:Int)<=(o:Int):=by omega
  have i3:(k:Int)<=(g:Int):=by omega
  obtain⟨b1,o1,rfl,-,B,o,M,N,O⟩:=(E.keep J).at_ U;have f:=Ar (show iu ⟨len,a,rx,l⟩ S j (k+1)=Ha ⟨len,a,rx,l⟩ S (j.take k) (pt j k) by rw[uo,if_neg (by rw[hz.out];simp)]);let⟨p,hp⟩:=gN (pt j k)
  rw[hp]at B o M N O f;clear hp;obtain⟨u,v,x,y,z⟩:=p;dsimp only at B o M N O;let⟨s,r⟩:=gN (Ha ⟨len,a,rx,l⟩ S (j.take k) ⟨u,v,x,y,z⟩)
  rw[r]at f;have L:=Ar r;clear r;have D:=Ar (Bf.new wr 92 #[u,.bool v,x,y,z]);have F:=Ar (Ao (Below.refl _ wr) (.cells #[u,.bool v,x,y,z] 92));have i1:(0:Int)<=(k:Int):=by omega
  go_upto_region 6 with fail;refine Cu (λY=>Be wr Y/\Bf Y wr.heap.size 92 #[u,.bool v,x,y,z]) ⟨F.out,D.out⟩ ?_;clear F D B o M N O;rintro Y ⟨G,P⟩;obtain⟨e1,e2,e3,e4,e5,-⟩:=P.cells5;let⟨Z,d2,d3,d4,d5⟩:=(HB.out.keep (An J G)).cells4;have h:=An J G;have T:=R.keep h;have Q:=(E.keep h).take hk;go_cut [9] λv9 wx=>v9=.int .i64 s/\Be Y wx
  case first =>
   go_region_held3 (λn=>Cq n w.heap.size 0 len/\Cq n w.heap.size 1 a/\Cq n w.heap.size 2 rx/\Cq n w.heap.size 3 l/\Cq n wr.heap.size 0 u/\Cq n wr.heap.size 1 (.bool v)/\Cq n wr.heap.size 2 x/\Cq n wr.heap.size 3 y/\Cq n wr.heap.size 4 z)
    (first
     | (go_keep;done)
     | exact⟨Aq c Z,Aq c d2,Aq c d3,Aq c d4,Aq c e1,Aq c e2,Aq c e3,Aq c e4,Aq c e5⟩)
    ((first
      | (go_at_call 86;refine rR (Sq _ _ _ _ _ _ ⟨len,a,rx,l⟩ S (j.take k) ⟨u,v,x,y,z⟩ _ (by omega) (T.keep blD) (Q.keep blD)) λw5 c=>?_;rw[L.out])))
   all_goals go_wp2_with fail
   all_goals go_meet
   all_goals exact⟨rfl,An blD c⟩
  clear Z d2 d3 d4 d5 e1 e2 e3 e4 e5;obtain⟨rfl,H⟩:=hcut;by_cases m:s=0
  .subst m
   go_wp2_with fail;exact⟨⟨k+1,by omega,by go_num,Ar f.out,An h H⟩,by simp[intOf];omega⟩
  have qf:(s != 0)=true:=by simpa using m
  have A:=Ar (show iu ⟨len,a,rx,l⟩ S j g=s by have:=Abt f.out m (g-(k+1));rwa [show k+1+(g-(k+1))=g by omega] at this);clear m;go_wp2_with fail;go_ret;exact⟨Bm (by rw[I.out,A.out]),An d (An h H)⟩
 obtain rfl:g=k:=by omega
 go_wp2_with fail;go_ret;exact⟨Bm (by rw[I.out,hz.out]),An d J⟩
def Acp (w:World) (r:Int×List Shp×List Pt5) (e:Ending) (a:World):Prop:=∃b c,e=.returned (.tuple #[b,c,r.1])/\Vj a w.heap.size b r.2.1/\OwG 92 5 enP a w.heap.size c r.2.2/\Be w a
theorem Acp.none_{w:World} {x:Int} (a:Be w e):Acp w (x,[],[]) (.returned (.tuple #[.slice none 0 0,.slice none 0 0,x])) e:=⟨_,_,rfl,Vj.nil,OwG.nil,a⟩
theorem Aeb (U:List UseP):∀i,∀c∈Fi U i,0<=c.cp/\∃k,k<i/\c.cp<max (use U k).ct 0+1
 | 0=>by simp[Fi]
 | i+1=>by
   rw[Fi];intro c a;rcases List.mem_append.1 a with a|a
   .obtain⟨b,k,f,d⟩:=Aeb U i c a;exact⟨b,k,by omega,d⟩
   obtain⟨k,e,rfl⟩:=List.mem_map.1 a;have:=List.mem_range.1 e;unfold Qh;dsimp only;exact⟨by omega,i,by omega,by omega⟩
theorem Ad7 {C:List PlcP} (h:∀c∈C,inR c.us/\inR c.cp):∀j,j<=1000->∀c∈Sn C j,okC (kt c)
 | 0,_=>by simp[Sn]
 | j+1,hj=>by
   rw[Sn];intro c a;rcases List.mem_append.1 a with a|a
   .exact Ad7 h j (by omega) c a
   obtain⟨d,b,rfl⟩:=List.mem_map.1 a;have:=h d b;exact⟨by unfold kt Ts inR;dsimp only;omega,this.1,this.2⟩
theorem ud(h:Bc o i=(0,n,f)):∀c∈f,okC (kt c):=by
 have d:(Bc o i).1=0:=by rw[h]
 obtain⟨e,b,-,q,-⟩:=Kz d;rw[h]at e;injection e with _ e
 injection e with _ e2
 rw[e2];obtain⟨-,r,-,j⟩:=Kw b;refine Ad7 (λc a=>?_) _ (by omega);unfold Kq at a;rw[if_neg (by rw[b];simp)] at a;have l:=(Rg o.us o.us.length).2 c a;let⟨m,k,g,p⟩:=Aeb o.us o.us.length c a;have:=(j k g).2.2.2;unfold inR;omega
theorem Acd{P:List PlcP}  {x:Int} (h:Hh f P b=(x,[],[])) (a:x≠0):∀m,Hh f P (b+m)=(x,[],[]):=by
 intro m;induction m with
 | zero=>exact h
 | succ m ih=>rw[<-Nat.add_assoc,Hh,if_pos (by rw[ih];exact a)];exact ih
theorem Adi{w:World}  (a:Be e w) (c:w.grownBy q (some b)) (h:e.heap.size<=b):Be e q :=
 Below.grown a c a.size λk d=>by cases d;exact h
theorem Aql(k:Array Value) (s:StyleP) (j:Array Value) (m:MkP) (w:World) (f:SmS s) (i:StV w k s) (y:MkV w j m) (h:(Bc s m.sz).1≠0) :
 Calls Tryz.prog 33 #[.agg k,.agg j] w (Acp w ((Bc s m.sz).1,[],[])):=by
 let⟨r,d⟩:=gN (Bc s m.sz)
 rw[d]at h ⊢;have l:=Ar d;obtain⟨x,S,C⟩:=r;dsimp only at h ⊢;have z:(x != 0)=true:=by simpa using h
 clear d h;obtain⟨B,J,D,K,E,L,F,M,G,N,H,O,rfl,-⟩:=id i;obtain⟨n,o,I,P,rfl,⟨p,q,v⟩,Q,R,T,U⟩:=y;go_enter Tryz.func33,Tryz.ntmps33;go_upto_region 1 with fail;refine Eo λX a u t=>?_
 let⟨p0,p1,p2,p3,p4,p5,p6⟩:=st7 u;let⟨V,W,Y,Z,k4,k5⟩:=mk6 t;have g:=i.keep a
 go_wp2_with (go_at_call 6;refine(Gr _ s n _ o m.sz _ p q (v.keep a) f g).mono ?_;rintro e w1 ⟨u1,u2,rfl,c,A,b⟩;rw[l.out]at c ⊢;dsimp only)
 go_ret3
 exact Acp.none_ (An a b)
theorem Aqk(vs:Array Value) (s:StyleP) (ms:Array Value) (m:MkP) (w:World) (o7:SmS s) (hv:StV w vs s) (hm:MkV w ms m) (h:(Bc s m.sz).1=0) (ny:∀p∈m.pl,okC (kt p)) (o6:m.pl.length<=1000) :
 Calls Tryz.prog 33 #[.agg vs,.agg ms] w (Acp w (J6 s m)):=by
 let⟨r,hr⟩:=gN (Bc s m.sz)
 obtain⟨x,S,C⟩:=r;rw[hr]at h;dsimp only at h;subst h;let⟨hy,ni⟩:=X5 hr;have n1:=Ar (ud hr);have HE:=Ar hr;have dc:=Ar (show J6 s m=Akz C S m (Hh C m.pl m.pl.length) by unfold J6;rw[hr,if_neg (by simp)]);have n3:=Ar (show S.length<=1000000 by omega);have n0:=Ar hy;clear hr hy;obtain⟨A1,c1,A2,c2,A3,c3,A4,c4,A5,c5,A6,c6,rfl,-⟩:=id hv;obtain⟨M1,d1,M2,d2,rfl,⟨h1,h2,hZ⟩,h3,h4,h5,hQ⟩:=hm;go_enter Tryz.func33,Tryz.ntmps33;go_upto_region 1 with fail;refine Eo λX aw hP hK=>?_
 let⟨p0,p1,p2,p3,p4,p5,p6⟩:=st7 hP;let⟨k0,k1,k2,k3,k4,k5⟩:=mk6 hK;have j9:=hv.keep aw;have o0:=@run_makeMap Tryz.prog
 go_upto_region 4 with (go_at_call 6;refine(Gr _ s M1 _ d1 m.sz _ h1 h2 (hZ.keep aw) o7 j9).mono ?_;rintro e w1 ⟨u1,u2,rfl,Q,b9,iy⟩;rw[HE.out]at Q b9 ⊢;dsimp only at Q b9 ⊢;obtain⟨AS,cS,rfl,lS,mS,e6⟩:=Q.shs n3.out;obtain⟨AP,cP,rfl,lP,mP,bs⟩:=Tb.pls b9)
 let⟨nq,ev⟩:=gN S.length
 have ec:C.length=nq:=by rw[<-n0.out,ev]
 rw[ev]at e6 ni lS Q ⊢;rw[ec]at b9 lP bs ⊢;have M:=Ar ec;let⟨d,j7⟩:=gN m.pl.length
 rw[j7]at dc hK h3 hQ o6 ⊢;have hc:=hK.keep iy;have au:=An aw iy;have hj:=hQ.keep au;have np:=aw.size;clear hP hK j9 p0 p1 p2 p3 p4 p5 p6 k0 k1 k2 k3 k4 k5 ec ev j7 aw;have dy:=Nh.made w1 C;let⟨BM,bp⟩:=gN w1.heap.size
 have j1:=Ao (Below.refl w1.heap.size w1) (.map #[] 0);rw[bp]at dy;have h8:w1.heap.size<=BM:=Nat.le_of_eq bp;go_upto_region 6 with fail;clear o0;have px:=Ar bp;clear bp;go_loopw [11,12,37] (λ_ _ i wx=>∃k:Nat,k<=nq/\i=.int .i64 k/\Nh wx BM k C k/\Be w1 wx) λ_ _ i _=>nq-(intOf i).toNat
 case atStart=>exact⟨0,Nat.zero_le _,rfl,dy,j1⟩
 clear dy j1;obtain⟨k,hk,rfl,hI,l⟩:=hrel;by_cases j:k<nq
 .obtain⟨b1,o1,rfl,G⟩:=(bs.keep l).at_ j;let⟨l0,l1,l2,l3,l4,l5,l6⟩:=G k j;have bw:=n1.out _ (mw (show k<C.length by rw[M.out];exact j));have bm:=Ar (Yx (plc C k));have B1:(k:Int)<(nq:Int):=by omega
  clear G;go_upto_region 8 with fail;refine Bq λY b hT=>?_
  let⟨t0,t1,t2,t3,t4,t5,t6⟩:=st7 hT;have a1:=hI.keep b;have u:=An l b;have nx:k<maxLen:=by unfold maxLen;omega
  clear l0 l1 l2 l3 l4 l5 l6 hI l b
  go_wp2_with (first
   | (at_mapUpdate;refine Rq rfl _ _ _ rfl rfl (a1.keep a) nx bw (by omega) rfl rfl ?_;intro w6 o5 nr)
   | (go_at_call 53;refine rR (bm.out _) λw5 a=>?_))
  exact⟨⟨k+1,by omega,by go_num,o5,Adi (An u a) nr h8⟩,by simp[intOf];omega⟩
 obtain rfl:nq=k:=by omega
 have bq:=hc.keep l;have E:=hj.keep l;have e7:=e6.keep l;have e5:=bs.keep l;have ba:=Q.keep l;have b4:=An au l;let⟨ZZ,nz,ih⟩:=et nq (by omega);let⟨k0,k1,k2,k3,k4,k5⟩:=mk6 bq;let⟨J,k6⟩:∃J:World,J=wr:=⟨_,rfl⟩
 rw[<-k6]at bq E e7 e5 ba b4 k0 k1 k2 k3 k4 k5 hI ⊢;clear k6 l hc hj e6 bs Q au b9;have e8:=ih J;have ak:=Ao (Below.refl J.heap.size J) (.cells ZZ 4);have ey:=Aq ak k5;let⟨BB,dx⟩:=gN J.heap.size
 rw[dx]at e8;go_upto_region 13 with fail;have mz:=Ar dx;clear nz dx k0 k1 k2 k3 k4 k5 ey ih
 have cb:∀k,k<=d->(Hh C m.pl k).1=0->(Hh C m.pl k).2.1.length=nq/\(Hh C m.pl k).2.2.length=k:=λk hk h0=>by
  have nv:k<=m.pl.length:=by rw[E.1];exact hk
  obtain⟨-,-,h3,h4,-⟩:=S5 k nv h0;refine⟨by rw[h4];exact M.out,?_⟩;rw[h3,List.length_map,List.length_take];omega
 have c7:=Ar cb
 have db:=Ar (λ(k:Nat) (x:Int) (hk:k<d) (h:Hh C m.pl (k+1)=(x,[],[])) (hx:x≠0)=>show J6 s m=(x,[],[]) by
  have:=Acd h hx (d-(k+1));rw[show k+1+(d-(k+1))=d by omega]at this;rw[dc.out,this];unfold Akz;rw[if_pos hx])
 clear cb;go_loopw [14,16,17,18,53] (λv _ _ _ i wx=>∃k:Nat,k<=d/\i=.int .i64 k/\Hid ((Hh C m.pl k).1=0)/\wj wx J.heap.size (.slice (some ⟨BB,0,none⟩) nq nq) (Hh C m.pl k).2.1/\OwG 92 5 enP wx J.heap.size v (Hh C m.pl k).2.2/\Be J wx) λ_ _ _ _ i _=>d-(intOf i).toNat
 case atStart=>exact⟨0,Nat.zero_le _,rfl,Ar rfl,by show wj _ _ _ (List.replicate C.length false);rw[M.out,mz.out];exact e8,OwG.nil,ak⟩
 clear e8 ak;obtain⟨k,hk,rfl,bc,P,F,l⟩:=hrel;by_cases j:k<d
 .obtain⟨b1,o1,rfl,G⟩:=(E.keep l).at_ j;let⟨l0,l1,l2,l3,l4,l5,l6⟩:=G k j;have bw:=ny _ (mw (show k<m.pl.length by rw[E.1];exact j));have bm:=Ar (Yx (plc m.pl k));let⟨H,O⟩:=c7.out k hk bc.out
  have N:=Ar (show Hh C m.pl (k+1)=if kI3 C (kt (plc m.pl k)) nq<0 then (3,[],[]) else if gbo (Hh C m.pl k).2.1 (kI3 C (kt (plc m.pl k)) nq).toNat then (7,[],[]) else (0,(Hh C m.pl k).2.1.set (kI3 C (kt (plc m.pl k)) nq).toNat true,(Hh C m.pl k).2.2++[⟨kI3 C (kt (plc m.pl k)) nq,false,(plc m.pl k).qu,(plc m.pl k).x,(plc m.pl k).y⟩]) by
   rw[Hh,if_neg (by rw[bc.out];simp),M.out,Adz])
  have ns:=Ady C (kt (plc m.pl k)) nq;let⟨TB,ad⟩:=gN ((Hh C m.pl k).2.1)
  let⟨o,ai⟩:=gN ((Hh C m.pl k).2.2)
  rw[ad]at P H N;rw[ai]at F O N;let⟨ix,eo⟩:=gN (kI3 C (kt (plc m.pl k)) nq)
  rw[eo]at N ns;have gg:=Ar eo;have dk:=Ar H;have gw:=Ar O;have B1:(k:Int)<(d:Int):=by omega
  clear G ad ai eo;go_upto_region 15 with fail;refine Bq λY b hT=>?_
  let⟨t0,t1,t2,t3,t4,t5,t6⟩:=st7 hT;have ch:=OwG.keep P b;have cn:=OwG.keep F b;have u:=An l b;have a1:=hI.keep u;let⟨BT,h9⟩:=gN wr.heap.size
  rw[h9]at hT t0 t1 t2 t3 t4 t5 t6 ⊢;clear l0 l1 l2 l3 l4 l5 l6 P F l b h9 H O;by_cases j6:ix<0
  .have W:=Ar (db.out k 3 j (by rw[N.out,if_pos j6]) (by decide));have b7:decide (0<=ix)=false:=by simp;omega
   go_wp2_with (first
    | (at_lookup;refine Ks rfl _ _ rfl rfl (a1.keep a) (kt (plc m.pl k)) bw rfl ?_;intro z hz;rw[gg.out,b7];clear hz)
    | (go_at_call 53;refine rR (bm.out _) λw5 a=>?_))
   go_ret3
   rw[W.out];exact Acp.none_ (An b4 (An u a))
  obtain⟨q,rfl⟩:∃q:Nat,ix=q:=⟨ix.toNat,by omega⟩
  have b7:decide (0<=(q:Int))=true:=by simp
  have hq:q<nq:=by omega
  have B2:(q:Int)<(nq:Int):=by omega
  have K:=Ar (show Hh C m.pl (k+1)=if gbo TB q then (7,[],[]) else (0,TB.set q true,o++[⟨(q:Int),false,(plc m.pl k).qu,(plc m.pl k).x,(plc m.pl k).y⟩]) by
   rw[N.out,if_neg j6,Int.toNat_natCast])
  go_upto_region 16 with (first
   | (at_lookup;refine Ks rfl _ _ rfl rfl (a1.keep a) (kt (plc m.pl k)) bw rfl ?_;intro z hz;rw[gg.out]at hz ⊢;rw[b7];obtain rfl:=hz (by omega);clear hz)
   | (go_at_call 53;refine rR (bm.out _) λw5 a=>?_))
  have bt:=hT.keep a;let⟨z0,z1,z2,z3,z4,z5,z6⟩:=st7 bt;have y:=OwG.keep ch a;have D:=OwG.keep cn a;let⟨x0,f0⟩:=wj.cellsB y dk.out hq;have im:=OwG.apart y D (by decide);have cg:=OwG.neB y bt (by decide);have cf:BB≠BT:=λh=>cg (by rw[h];rfl)
  have b8:BT≠BB:=λh=>cf h.symm
  have ar:=An u a;have j0:J.heap.size<=BB:=(OwG.lt y BB rfl).1
  have cd:(u14:Value).ownBlock≠some BB:=by
   rcases im with h|h
   .simp[Value.ownBlock]at h
   exact λh2=>h (by rw[h2];rfl)
  clear t0 t1 t2 t3 t4 t5 t6 ch cn hT a1 u cg N im;let⟨gx,j4⟩:=gN (gbo TB q)
  rw[j4]at x0 K;clear j4;cases gx with
  | true =>
    have W:=Ar (db.out k 7 j (by rw[K.out,if_pos rfl]) (by decide))
    go_wp2_with fail
    go_ret3
    rw[W.out];exact Acp.none_ (An b4 ar)
  | false =>
    have ds:=Ar (show Hh C m.pl (k+1)=(0,TB.set q true,o++[⟨(q:Int),false,(plc m.pl k).qu,(plc m.pl k).x,(plc m.pl k).y⟩]) by rw[K.out,if_neg (by simp)]);have I:=wj.storeB y dk.out q true;have n:=OwG.far D (p:=⟨BB,q,none⟩) cd (.bool true);have a8:=Bf.far bt (p:=⟨BB,q,none⟩) b8 (.bool true);have t:Be J (w5.setCell ⟨BB,q,none⟩ (.bool true)):=Adi ar (Gb.set (World.grownBy.refl _ _) _ _) j0;clear y D bt cd K db z0 z1 z2 z3 z4 z5 z6;go_upto_region 21 with fail;refine Cj (λY=>wj Y J.heap.size (.slice (some ⟨BB,0,none⟩) nq nq) (TB.set q true)/\OwG 92 5 enP Y J.heap.size u14 o/\Bf Y BT 62 #[(plc m.pl k).ga,(plc m.pl k).us,(plc m.pl k).cp,.bool (plc m.pl k).fl,(plc m.pl k).qu,(plc m.pl k).x,(plc m.pl k).y]/\Be J Y) ⟨I,n,a8,t⟩ ?_;clear I n a8 t ar a cf b8 f0 x0;rintro Z ⟨I,n,a8,t⟩;let⟨z0,z1,z2,z3,z4,z5,z6⟩:=st7 a8;clear a8
    go_wp2_with (at_builtin;refine Co rfl _ _ 87 rfl enP J.heap.size 92 (.agg #[.int .i64 0,.bool false,.int .i64 0,.int .i64 0,.int .i64 0]) 5 40 Tryz.underlying87 Aj4 rfl (by omega) Kl tg _ o rfl (OwG.alloc n _) Z.heap.size 1 ⟨(q:Int),false,(plc m.pl k).qu,(plc m.pl k).x,(plc m.pl k).y⟩ 92 rfl (Bf.new _ _ _) (by rw[gw.out];unfold maxLen;omega) (by rw[gw.out];omega) (Ao t _).size ?_;intro v' w7 o4 j3 od)
    exact⟨⟨k+1,by omega,by go_num,Ar (by rw[ds.out]),by rw[ds.out];exact OwG.kept (OwG.alloc I _) j3 (OwG.apart I n (by decide)),by rw[ds.out];exact o4,Bk (Ao t _) (OwG.alloc n _) j3⟩,by simp[intOf];omega⟩
 obtain rfl:d=k:=by omega
 let⟨H,O⟩:=c7.out d (Nat.le_refl _) bc.out
 have bb:∀i,i<d->∃q:Nat,q<nq/\(pt (Hh C m.pl d).2.2 i).sh=(q:Int):=λi hi=>by
  have qs:i<m.pl.length:=by rw[E.1];exact hi
  obtain⟨g1,-,g3,-⟩:=S5 d (by rw[E.1];exact Nat.le_refl _) bc.out;have j5:i<(m.pl.take d).length:=by rw[List.length_take];omega
  have g4:pt (Hh C m.pl d).2.2 i=Al9 C (m.pl.take d)[i]:=by
   unfold pt;rw[g3,List.getD,List.getElem?_map,List.getElem?_eq_getElem j5];rfl
  have g5:=g1 _ (List.getElem_mem j5);have g6:=Wk C (m.pl.take d)[i] C.length;rw[g4];unfold Al9 kI at *
  rw[M.out]at *
  dsimp only;exact⟨(Sf C (m.pl.take d)[i] nq).toNat,by omega,by omega⟩
 have L:=Ar (show J6 s m=if Bp (λi=>!gbo (Hh C m.pl d).2.1 i) nq then (20,[],[]) else if Bp (λi=>(plc m.pl i).fl != (plc C (pt (Hh C m.pl d).2.2 i).sh.toNat).fl) d then (12,[],[]) else if Zt (uz m) S (Hh C m.pl d).2.2≠0 then (Zt (uz m) S (Hh C m.pl d).2.2,[],[]) else (0,S,(Hh C m.pl d).2.2) by
  rw[dc.out];unfold Akz;rw[if_neg (by rw[bc.out];simp),M.out,E.1])
 let⟨TB,ad⟩:=gN ((Hh C m.pl d).2.1)
 let⟨o,ai⟩:=gN ((Hh C m.pl d).2.2)
 rw[ad]at P H L;rw[ai]at F O L bb;have h6:=Ar bb;have dk:=Ar H;have bl:=Ar (Sv BB nq nq TB wr J.heap.size (by omega) H P);have e2:=bq.keep l;have hl:=E.keep l;have ho:=e7.keep l;have hf:=e5.keep l;have cj:=ba.keep l;have b5:=An b4 l
 obtain⟨AU,cU,rfl,lU,mU,e4⟩:∃AU cU,u14=.slice AU o.length cU/\o.length<=cU/\cU<=9223372036854775807/\PuS wr AU o.length o:=by
  obtain⟨A,c,e,h1,h2,-⟩:=OwG.form2 F;let⟨A',c',e',h'⟩:=OwP.pus F;have e0:=e.symm.trans e';injection e0 with e1 _ e3
  subst e1 e3;exact⟨A,c,e,h1,by unfold maxLen at h2;exact h2,h'⟩
 rw[O]at lU e4 F ⊢;clear bb H ad ai hI bq E e7 e5 ba l j hk;let⟨n9,ca⟩:=gN (Bp (λi=>!gbo TB i) nq)
 rw[ca]at bl L;clear ca;cases n9 with
 | true =>
   have W:=Ar (show J6 s m=(20,[],[]) by rw[L.out,if_pos rfl])
   go_wp2_with (go_at_call 54;refine bl.out.mono ?_;rintro e w5 ⟨rfl,a⟩)
   go_ret3
   rw[W.out];exact Acp.none_ (An b5 a)
 | false =>
   have R:=Ar (show J6 s m=if Bp (λi=>(plc m.pl i).fl != (plc C (pt o i).sh.toNat).fl) d then (12,[],[]) else if Zt (uz m) S o≠0 then (Zt (uz m) S o,[],[]) else (0,S,o) by rw[L.out,if_neg (by simp)]);clear L;let⟨k0,k1,k2,k3,k4,k5⟩:=mk6 e2
   go_upto_region 26 with (go_at_call 54;refine bl.out.mono ?_;rintro e w5 ⟨rfl,a⟩;have ey:=Aq a k5)
   clear k0 k1 k2 k3 k4 k5 ey;have hd:=e2.keep a;have hn:=hl.keep a;have hs:=ho.keep a;have hg:=hf.keep a;have ck:=cj.keep a;have D:=OwG.keep F a;have a6:=e4.keep a;have b6:=An b5 a;clear e2 hl ho hf cj F e4 b5 a bl P;go_loopw [19,20,90] (λ_ _ i wx=>∃k:Nat,k<=d/\i=.int .i64 k/\Hid (Bp (λi=>(plc m.pl i).fl != (plc C (pt o i).sh.toNat).fl) k=false)/\Be w5 wx) λ_ _ i _=>d-(intOf i).toNat
   case atStart=>exact⟨0,Nat.zero_le _,rfl,Bp.zero _,bl0⟩
   obtain⟨k,hk,rfl,hp,l⟩:=hrel;by_cases j:k<d
   .obtain⟨b1,o1,rfl,G⟩:=(hn.keep l).at_ j;let⟨l0,l1,l2,l3,l4,l5,l6⟩:=G k j;let⟨q,hq,bx⟩:=h6.out k j;have B1:(k:Int)<(d:Int):=by omega
    have B2:(q:Int)<(nq:Int):=by omega
    have HY:=Ar (λ(h:((plc m.pl k).fl != (plc C q).fl)=false)=>Bp.succ (f:=λi=>(plc m.pl i).fl != (plc C (pt o i).sh.toNat).fl) hp.out (show ((plc m.pl k).fl != (plc C (pt o k).sh.toNat).fl)=false by rw[bx,Int.toNat_natCast];exact h));have HN:=Ar (λ(h:((plc m.pl k).fl != (plc C q).fl)=true)=>Bp.yes (f:=λi=>(plc m.pl i).fl != (plc C (pt o i).sh.toNat).fl) j (show ((plc m.pl k).fl != (plc C (pt o k).sh.toNat).fl)=true by rw[bx,Int.toNat_natCast];exact h));clear G;go_upto_region 28 with fail;refine Bq λY b hT=>?_
    let⟨t0,t1,t2,t3,t4,t5,t6⟩:=st7 hT;have u:=An l b;obtain⟨b2,o2,rfl,-,y0,-⟩:=(a6.keep u).at_ j;obtain⟨b3,o3,rfl,j2⟩:=(hg.keep u).at_ hq;obtain⟨-,-,-,y3,-⟩:=j2 q hq;rw[bx]at y0;let⟨fa,eg⟩:=gN ((plc m.pl k).fl)
    let⟨fb,ek⟩:=gN ((plc C q).fl)
    rw[eg,ek]at HY HN;rw[eg]at t3;rw[ek]at y3;clear l0 l1 l2 l3 l4 l5 l6 eg ek l b j2 bx hT t0 t1 t2 t4 t5 t6;let⟨fc,bu⟩:=gN (fa != fb)
    cases fc with
    | true =>
      have gy:=Ar (HN.out bu);have W:=Ar (show J6 s m=(12,[],[]) by rw[R.out,if_pos gy.out]);clear HN HY gy;cases fa<;>cases fb<;>first|(exact absurd bu (by decide))|skip
      all_goals go_wp2_with fail
      all_goals go_quiet (fail)
      all_goals go_wp2_with fail
      all_goals go_ret3
      all_goals rw[W.out]
      all_goals exact Acp.none_ (An b6 (Bd u _))
    | false =>
      have n5:=Ar (HY.out bu);clear HN HY;cases fa<;>cases fb<;>first|(exact absurd bu (by decide))|skip
      all_goals go_wp2_with fail
      all_goals go_quiet (fail)
      all_goals go_wp2_with fail
      all_goals exact⟨⟨k+1,by omega,by go_num,n5,Bd u _⟩,by simp[intOf];omega⟩
   obtain rfl:d=k:=by omega
   have U:=Ar (show J6 s m=if Zt (uz m) S o≠0 then (Zt (uz m) S o,[],[]) else (0,S,o) by rw[R.out,if_neg (by rw[hp.out];simp)]);have nj:=hd.keep l;have nk:=hs.keep l;have hh:=a6.keep l;have j8:=ck.keep l;have n:=OwG.keep D l;have cc:=An b6 l;let⟨k0,k1,k2,k3,k4,k5⟩:=mk6 nj;clear hd hn hs a6 hg ck D b6 l R h6;go_upto_region 32 with fail;refine Bq λY b hT=>?_
   obtain⟨b0,b1,b2,b3,-⟩:=hT.cells4;let⟨cv,ee⟩:=gN (Zt (uz m) S o)
   rw[ee]at U;have V:=Ar (uq AS AU cS cU nq d (uz m) S o Y (by omega) lU mU (nk.keep b) (hh.keep b));rw[ee]at V;unfold uz Jw at V;dsimp only at V;clear ee k0 k1 k2 k3 k4 k5;by_cases e9:cv=0
   .subst e9;have W:=Ar (show J6 s m=(0,S,o) by rw[U.out,if_neg (by simp)])
    go_wp2_with (go_at_call 55;refine V.out.mono ?_;rintro e w6 ⟨rfl,t⟩)
    go_ret3
    rw[W.out];exact⟨_,_,rfl,(j8.keep (An b t)).lower np,OwG.lower (OwG.keep n (An b t)) b4.size,An cc (An b t)⟩
   have W:=Ar (show J6 s m=(cv,[],[]) by rw[U.out,if_pos e9]);have qw:(cv != 0)=true:=by simpa using e9
   go_wp2_with (go_at_call 55;refine V.out.mono ?_;rintro e w6 ⟨rfl,t⟩)
   go_ret3
   rw[W.out];exact Acp.none_ (An cc (An b t))
theorem Ji(c:Array Value) (s:StyleP) (b:Array Value) (m:MkP) (w:World) (a:SmS s) (g:StV w c s) (f:MkV w b m) (d:∀p∈m.pl,okC (kt p)) (e:m.pl.length<=1000) :
 Calls Tryz.prog 33 #[.agg c,.agg b] w (Acp w (J6 s m)):=by
 by_cases h:(Bc s m.sz).1=0
 .exact Aqk c s b m w a g f h d e
 rw[show J6 s m=((Bc s m.sz).1,[],[]) by unfold J6;rw[if_pos h]];exact Aql c s b m w a g f h
end Go.Proofs.YtlogblbfbihleaaGreat
