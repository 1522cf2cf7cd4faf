/- Lean texts of the claim. -/
import Derived.Test.YtboghahlhmnblaaGreatZv24
import Derived.ProofKit
import Derived.OpenShut
import Derived.ShutString
import Derived.ChangeOld
import Derived.Below
import Derived.Deep.Slices
import Derived.Deep.Strs
import Derived.Lib.SmallJoins
namespace Go.Proofs.YtboghahlhmnblaaGreat
set_option linter.all false
set_option maxRecDepth 100000
set_option maxHeartbeats 0
open Go.RowKit Go.Proofs.Tryz
variable{a:Option Addr}{b f:Nat}{c:Value}{e:Program}{g:TypeId}{h:Addr}{sz:Nat}{A:Option Addr}{u:Value}{w:World}
section
open Go.ChangeShapes Go.WideShapes Go.ChangeAt Go.RowKit Go.Deep Go.Joins
theorem own:ownKnob prog.godebug=none:=aN
section
variable {H : Type} {enc : TypeId × Value -> H} {w : World} {base b0 : Nat} {spare : Nat -> Bool} {held : Bool} {fuel : Nat} {cs : List Value} {x : DataW H × List MemPlace} {r : Reach} {v : Value} {d : DataW H} {p : List MemPlace}
theorem Vb:prog.cellsOf 65=2:=aN
theorem Ju:prog.cellsOf 3=1:=aN
theorem ur:prog.cellsOf 48=1:=aN
theorem Afx{α:Type}{l:List α}(h:l.length=2):∃a b,l=[a,b]:=by
 match l,h with
 | [a,b],_=>exact⟨a,b,rfl⟩
theorem jy(h:DataW.trod enc prog w base spare held fuel 65 cs=some x):∃a b,cs=[.int .i64 a,.int .i64 b]/\inR a/\inR b:=by
 obtain⟨y0,y1,n,-,hl,h0,h1⟩:=trod_struct2 underlying65 h;rw[Vb] at hl;obtain⟨c0,c1,rfl⟩:=Afx hl;dsimp only at h0 h1;rw[Ju] at h0 h1;obtain⟨a,e0,-,wa⟩:=DataW.trod_int underlying3 h0;obtain⟨b,e1,-,wb⟩:=DataW.trod_int underlying3 h1;simp at e0 e1;subst e0 e1;exact⟨a,b,rfl,bounds_i64 wa,bounds_i64 wb⟩
theorem Ro{a:Addr}(h:w.cell? a=some u):a=⟨a.block,a.off,none⟩:=by
 have:=World.cell?_spot h;obtain⟨b,o,s⟩:=a;simp at this;subst this;rfl
theorem C5{a:Addr}{n k:Nat}{cs:List Value}(h:w.cells? base a n=some cs)(hk:k<n):w.cell? (a.add k)=cs[k]? := (World.cells?_some h).2.2 k hk
theorem Em(a:Addr):a.add 0=a:=by unfold Addr.add;simp
theorem M7(b o k:Nat):(⟨b,o,none⟩:Addr).add k=⟨b,o+k,none⟩:=by
 unfold Addr.add;by_cases h:k=0
 ·subst h;simp
 ·simp[h]
theorem Qo{n c:Nat}(h:DataW.trod enc prog w base spare held fuel 48 [.slice A n c]=some x):n<=c/\c<=9223372036854775807/\(A=none->c=0)/\∃l,SpS w A n l/\∀q∈l,inR q.1/\inR q.2:=by
 rcases open_slice underlying48 h with ⟨h1,-⟩|⟨a,len,cap,m,k,D,Pl,h1,h2,h3,h4,h5,-,h6⟩
 ·simp at h1
  obtain⟨rfl,rfl,rfl⟩:=h1;exact⟨aA,aK,fun _=>rfl,[],⟨rfl,.inl rfl⟩,aL⟩
 ·simp at h1
  obtain⟨rfl,rfl,rfl⟩:=h1;refine⟨h3,by unfold maxLen at h4;exact h4,(fun h=>by cases h),?_⟩
  have hm:n<=m:=by rw[h5];split<;>omega
  have hel:∀i,i<n->∃q:Int×Int,(w.cell? (a.add (i*2))=some q.1/\w.cell? ((a.add (i*2)).add 1)=some q.2)/\inR q.1/\inR q.2:=by
   intro i hi;obtain⟨cs',g1,g2⟩:=h6 i aK
   rw[Vb] at g1;obtain⟨u,v,rfl,wu,wv⟩:=jy g2;have c0:=C5 g1 (show 0<2 by omega)
   have c1:=C5 g1 (show 1<2 by omega)
   rw[Em] at c0;exact⟨(u,v),⟨c0,c1⟩,wu,wv⟩
  obtain⟨f,hf⟩:=choose_lt (α:=Int×Int) (p:=fun i q=>(w.cell? (a.add (i*2))=some q.1/\w.cell? ((a.add (i*2)).add 1)=some q.2)/\inR q.1/\inR q.2) hel
  refine⟨(List.range n).map f,⟨aL,?_⟩,fun q hq=>?_⟩
  ·rcases bK n with h0|h0
   ·exact .inl h0
   ·have c0:=(hf 0 h0).1.1
    rw[eC,Em] at c0;have ea:=Ro c0;refine .inr ⟨a.block,a.off,by rw[<-ea],fun k hk=>?_⟩
    have g:=(hf k hk).1;rw[ea,M7,M7] at g;have e:gt ((List.range n).map f) k=f k:=by unfold gt;simp[List.getD,hk]
    rw[e];exact g
  ·simp at hq
   obtain⟨i,hi,rfl⟩:=hq;exact(hf i hi).2
end
section
variable {H : Type} {enc : TypeId × Value -> H} {w : World} {base b0 : Nat} {spare : Nat -> Bool} {held : Bool} {r : Reach} {v : Value} {d : DataW H} {p : List MemPlace}
end
end
section
open Go.ChangeShapes Go.WideShapes Go.ChangeAt Go.RowKit
end
section
open Go.ChangeShapes Go.WideShapes Go.ChangeAt Go.RowKit Go.Deep Go.Joins
section
variable {H : Type} {enc : TypeId × Value -> H} {w : World} {base b0 : Nat} {spare : Nat -> Bool} {held : Bool} {fuel : Nat} {cs : List Value} {x : DataW H × List MemPlace} {r : Reach} {v : Value} {d : DataW H} {p : List MemPlace}
theorem Auq:prog.cellsOf 31=2:=aN
theorem Ats:prog.cellsOf 64=2:=aN
theorem Pt:prog.cellsOf 4=1:=aN
theorem Awj(h:DataW.trod enc prog w base spare held fuel 31 cs=some x):∃a b,cs=[.int .i64 a,.int .i64 b]/\inR a/\inR b:=by
 obtain⟨y0,y1,n,-,hl,h0,h1⟩:=trod_struct2 underlying31 h;rw[Auq] at hl;obtain⟨c0,c1,rfl⟩:=Afx hl;dsimp only at h0 h1;rw[Ju] at h0 h1;obtain⟨a,e0,-,wa⟩:=DataW.trod_int underlying3 h0;obtain⟨b,e1,-,wb⟩:=DataW.trod_int underlying3 h1;simp at e0 e1;subst e0 e1;exact⟨a,b,rfl,bounds_i64 wa,bounds_i64 wb⟩
theorem Ava(h:DataW.trod enc prog w base spare held fuel 64 cs=some x):∃a b,cs=[.bool a,.int .i64 b]/\inR b:=by
 obtain⟨y0,y1,n,-,hl,h0,h1⟩:=trod_struct2 underlying64 h;rw[Ats] at hl;obtain⟨c0,c1,rfl⟩:=Afx hl;dsimp only at h0 h1;rw[Pt] at h0;rw[Ju] at h1;obtain⟨a,e0,-⟩:=DataW.trod_bool underlying4 h0;obtain⟨b,e1,-,wb⟩:=DataW.trod_int underlying3 h1;simp at e0 e1;subst e0 e1;exact⟨a,b,rfl,bounds_i64 wb⟩
def Azg(s:Shp):Prop:=inR s.grain/\inR s.anc.1/\inR s.anc.2/\∀q∈s.poly,inR q.1/\inR q.2
instance:Inhabited Shp:=⟨⟨[],0,false,(0,0)⟩⟩
instance:Inhabited Pt5:=⟨⟨0,false,0,0,0⟩⟩
def ShW(w:World)(A:Option Addr)(n:Nat)(S:List Shp):Prop:=S.length=n/\n<=9223372036854775807/\(n=0\/∃b off,A=some ⟨b,off,none⟩/\∀k,k<n->Alp w b (off+k*5) (shp S k))/\∀s∈S,Azg s
end
theorem ShW.shs{S:List Shp}(h:ShW w a b S)(c:b<=100000000000000):ShS w a b S:=⟨h.1,c,h.2.2.1⟩
section
variable {H : Type} {enc : TypeId × Value -> H} {w : World} {base b0 : Nat} {spare : Nat -> Bool} {held : Bool} {r : Reach} {v : Value} {d : DataW H} {p : List MemPlace}
end
end
section
open Go.ChangeShapes Go.WideShapes Go.ChangeAt Go.RowKit Go.Deep Go.Joins
section
variable {H : Type} {enc : TypeId × Value -> H} {w : World} {base b0 : Nat} {spare : Nat -> Bool} {held : Bool} {fuel : Nat} {cs : List Value} {x : DataW H × List MemPlace} {r : Reach} {v : Value} {d : DataW H} {p : List MemPlace}
theorem Ahh{P:Program}{t:TypeId}{fs:Array Field}(ht:P.underlying t=some (.struct fs))(h:DataW.trod enc P w base spare held fuel t cs=some x):
 cs.length=P.cellsOf t/\∃n,∀(i:Nat) (f:Field),fs[i]? = some f->∃y,DataW.trod enc P w base spare held n f.type ((cs.drop f.offset).take (P.cellsOf f.type))=some y:=by
 obtain⟨xs,n,_,_,hl,hlen,hf⟩:=DataW.trod_struct ht h;refine⟨hl,n,fun i f hif=>?_⟩
 have hi:i<fs.size:=by
  rcases bG i fs.size with g|g
  ·exact g
  ·rw[fL g] at hif;cases hif
 exact⟨xs[i]'(by omega),by rw[hf i f hif,aW]⟩
theorem jj{P:Program}{t e:TypeId}(ht:P.underlying t=some (.slice e))(h:DataW.trod enc P w base spare held fuel t [u]=some x):∃A n c,u=.slice A n c:=by
 rcases open_slice ht h with ⟨g,-⟩|⟨a,len,cap,m,k,D,Pl,g,-⟩
 ·simp at g;exact⟨_,_,_,g⟩
 ·simp at g;exact⟨_,_,_,g⟩
theorem Gz{α:Type}[Inhabited α]{P:Program}{t e:TypeId}{n c:Nat}(Q:Nat->Nat->α->Prop)(ht:P.underlying t=some (.slice e))(hc:P.cellsOf e=sz)
 (hel:∀fuel cs' y b o,w.cells? base ⟨b,o,none⟩ sz=some cs'->DataW.trod enc P w base spare held fuel e cs'=some y->∃q,Q b o q)
 (h:DataW.trod enc P w base spare held fuel t [.slice A n c]=some x)  (hs:0<sz:=by decide) :
 n<=c/\c<=9223372036854775807/\(A=none->c=0)/\∃l:List α,l.length=n/\(n=0\/∃b off,A=some ⟨b,off,none⟩/\∀k,k<n->Q b (off+k*sz) (l.getD k default)):=by
 rcases open_slice ht h with ⟨h1,-⟩|⟨a,len,cap,m,k,D,Pl,h1,h2,h3,h4,h5,-,h6⟩
 ·simp at h1
  obtain⟨rfl,rfl,rfl⟩:=h1;exact⟨aA,by omega,fun _=>rfl,[],rfl,.inl rfl⟩
 ·simp at h1
  obtain⟨rfl,rfl,rfl⟩:=h1;refine⟨h3,by unfold maxLen at h4;exact h4,(fun h=>by cases h),?_⟩
  have hm:n<=m:=by rw[h5];split<;>omega
  rw[hc] at h6;rcases bK n with h0|h0
  ·exact⟨[],by simp[h0],.inl h0⟩
  ·obtain⟨cs0,g0,-⟩:=h6 0 (by omega)
   rw[eC,Em] at g0;have hl0:=(World.cells?_some g0).2.1
   have ea:a=⟨a.block,a.off,none⟩:=by
    have c0:=C5 g0 hs;rw[Em] at c0;have:∃u,cs0[0]? = some u:=⟨_,aW (by omega)⟩
    obtain⟨u,hu⟩:=this;rw[hu] at c0;exact Ro c0
   obtain⟨f,hf⟩:=choose_lt (n:=n) (p:=fun i q=>Q a.block (a.off+i*sz) q) fun i hi=>by
    obtain⟨cs',g1,g2⟩:=h6 i (by omega)
    rw[ea,M7] at g1;exact hel _ _ _ _ _ g1 g2
   refine⟨(List.range n).map f,by simp,.inr ⟨a.block,a.off,by rw[<-ea],fun k hk=>?_⟩⟩
   have e:((List.range n).map f).getD k default=f k:=by simp[List.getD,hk]
   rw[e];exact hf k hk
theorem Nw:prog.cellsOf 9=1:=aN
theorem Vd:prog.cellsOf 52=2:=aN
theorem Rk:prog.cellsOf 257=2:=aN
theorem Zu:prog.cellsOf 54=3:=aN
theorem Vc:prog.cellsOf 111=6:=aN
theorem Rj:prog.cellsOf 50=7:=aN
theorem gz:prog.cellsOf 29=7:=aN
theorem Asw:prog.cellsOf 67=7:=aN
theorem At9:prog.cellsOf 34=6:=aN
theorem Ab0:prog.cellsOf 22=1:=aN
theorem Zw:prog.cellsOf 23=1:=aN
theorem Abz:prog.cellsOf 24=1:=aN
theorem Aby:prog.cellsOf 25=1:=aN
theorem Abx:prog.cellsOf 26=1:=aN
theorem Abw:prog.cellsOf 27=1:=aN
theorem Abv:prog.cellsOf 46=1:=aN
theorem Abu:prog.cellsOf 47=1:=aN
theorem Aw4:prog.cellsOf 32=1:=aN
instance:Inhabited EdgeP:=⟨⟨ByteArray.empty,[]⟩⟩
instance:Inhabited PieceP:=⟨⟨ByteArray.empty,[],0,[],[],[],false⟩⟩
instance:Inhabited UseP:=⟨⟨0,0,false⟩⟩
instance:Inhabited SeamP:=⟨⟨0,0,0,0,false,0⟩⟩
instance:Inhabited PlcP:=⟨⟨0,0,0,false,0,0,0⟩⟩
instance:Inhabited ByteArray:=⟨ByteArray.empty⟩
theorem xd(h:DataW.trod enc prog w base spare held fuel 3 [u]=some x):∃z,u=.int .i64 z:=by
 obtain⟨z,e,-⟩:=DataW.trod_int underlying3 h;simp at e;exact⟨z,e⟩
theorem Axj(h:DataW.trod enc prog w base spare held fuel 3 [u]=some x):∃z,u=.int .i64 z/\inR z:=by
 obtain⟨z,e,-,hz⟩:=DataW.trod_int underlying3 h;simp at e;exact⟨z,e,bounds_i64 hz⟩
theorem Aex(h:DataW.trod enc prog w base spare held fuel 4 [u]=some x):∃z,u=.bool z:=by
 obtain⟨z,e,-⟩:=DataW.trod_bool underlying4 h;simp at e;exact⟨z,e⟩
theorem Alx(h:DataW.trod enc prog w base spare held fuel 9 [u]=some x):∃z:ByteArray,u=.string z/\z.size<=9223372036854775807:=by
 obtain⟨z,e,-,hz⟩:=DataW.trod_string underlying9 h;simp at e;exact⟨z,e,by unfold maxLen at hz;exact hz⟩
theorem Pb{n c:Nat}(h:DataW.trod enc prog w base spare held fuel 23 [.slice A n c]=some x):n<=c/\c<=9223372036854775807/\(A=none->c=0)/\∃l,InS w A n l:=by
 obtain⟨h1,h2,h3,l,h4,h5⟩:=Gz (α:=Int) (fun b o q=>Cq w b o q) underlying23 Ju (fun fuel cs' y b o g1 g2=>by
  obtain⟨z,rfl,-⟩:=DataW.trod_int underlying3 g2;have c0:=C5 g1 (show 0<1 by omega)
  rw[Em] at c0;exact⟨z,c0⟩) h
 refine⟨h1,h2,h3,l,h4,?_⟩;rcases h5 with h5|⟨b,off,e,h5⟩
 ·exact .inl h5
 ·exact .inr ⟨b,off,e,fun k hk=>by have:=h5 k hk;rw[dM] at this;exact this⟩
theorem jn{n c:Nat}(h:DataW.trod enc prog w base spare held fuel 22 [.slice A n c]=some x):n<=c/\c<=9223372036854775807/\(A=none->c=0)/\∃l,StS w A n l:=by
 obtain⟨h1,h2,h3,l,h4,h5⟩:=Gz (α:=ByteArray) (fun b o q=>Cq w b o (.string q)/\q.size<=9223372036854775807) underlying22 Nw (fun fuel cs' y b o g1 g2=>by
  obtain⟨z,rfl,-,hz⟩:=DataW.trod_string underlying9 g2;have c0:=C5 g1 (show 0<1 by omega)
  rw[Em] at c0;exact⟨z,c0,by unfold maxLen at hz;exact hz⟩) h
 refine⟨h1,h2,h3,l,h4,?_⟩;rcases h5 with h5|⟨b,off,e,h5⟩
 ·exact .inl h5
 ·exact .inr ⟨b,off,e,fun k hk=>by have:=h5 k hk;rw[dM] at this;exact this⟩
theorem tm(h:DataW.trod enc prog w base spare held fuel 52 cs=some x):∃A n c nm l,cs=[.string nm,.slice A n c]/\n<=c/\c<=9223372036854775807/\SpS w A n l:=by
 obtain⟨hl,n,hf⟩:=Ahh underlying52 h;rw[Vd] at hl;obtain⟨c0,c1,rfl⟩:=Afx hl;obtain⟨y0,h0⟩:=hf 0 _ rfl;obtain⟨y1,h1⟩:=hf 1 _ rfl;simp only[List.getElem_toArray,List.getElem_cons_zero,List.getElem_cons_succ] at h0 h1;rw[Nw] at h0;rw[ur] at h1;simp at h0 h1;obtain⟨nm,rfl,-⟩:=Alx h0;obtain⟨A,nn,c,rfl⟩:=jj underlying48 h1;obtain⟨g1,g2,g3,l,g4,g5⟩:=Qo h1;exact⟨A,nn,c,nm,l,rfl,g1,g2,g4⟩
theorem gk{n c:Nat}(h:DataW.trod enc prog w base spare held fuel 46 [.slice A n c]=some x):n<=c/\c<=9223372036854775807/\(A=none->c=0)/\∃l,EdS w A n l:=by
 obtain⟨h1,h2,h3,l,h4,h5⟩:=Gz (α:=EdgeP) (fun b o q=>Ala w b o q) underlying46 Vd (fun fuel cs' y b o g1 g2=>by
  obtain⟨A,n,c,nm,l,rfl,k1,k2,k3⟩:=tm g2;have c0:=C5 g1 (show 0<2 by omega)
  have c1:=C5 g1 (show 1<2 by omega)
  rw[Em] at c0;rw[M7] at c1;have hl:=k3.1;subst hl;exact⟨⟨nm,l⟩,c0,A,c,c1,k1,k2,k3⟩) h
 exact⟨h1,h2,h3,l,h4,h5⟩
theorem dz(h:DataW.trod enc prog w base spare held fuel 257 cs=some x):∃a b,cs=[.int .i64 a,.int .i64 b]:=by
 obtain⟨hl,n,hf⟩:=Ahh underlying257 h;rw[Rk] at hl;obtain⟨c0,c1,rfl⟩:=Afx hl;obtain⟨y0,h0⟩:=hf 0 _ rfl;obtain⟨y1,h1⟩:=hf 1 _ rfl;simp only[List.getElem_toArray,List.getElem_cons_zero,List.getElem_cons_succ] at h0 h1;rw[Ju] at h0 h1;simp at h0 h1;obtain⟨a,rfl⟩:=xd h0;obtain⟨b,rfl⟩:=xd h1;exact⟨a,b,rfl⟩
theorem Ug{n c:Nat}(h:DataW.trod enc prog w base spare held fuel 47 [.slice A n c]=some x):n<=c/\c<=9223372036854775807/\(A=none->c=0)/\∃l,SpS w A n l:=by
 obtain⟨h1,h2,h3,l,h4,h5⟩:=Gz (α:=Int×Int) (fun b o q=>Cq w b o q.1/\Cq w b (o+1) q.2) underlying47 Rk (fun fuel cs' y b o g1 g2=>by
  obtain⟨u,v,rfl⟩:=dz g2;have c0:=C5 g1 (show 0<2 by omega)
  have c1:=C5 g1 (show 1<2 by omega)
  rw[Em] at c0;rw[M7] at c1;exact⟨(u,v),c0,c1⟩) h
 exact⟨h1,h2,h3,l,h4,h5⟩
theorem Ajo{α:Type}{l:List α}(h:l.length=7):∃a b c d e f g,l=[a,b,c,d,e,f,g]:=by
 match l,h with
 | [a,b,c,d,e,f,g],_=>exact⟨a,b,c,d,e,f,g,rfl⟩
theorem Amn{α:Type}{l:List α}(h:l.length=6):∃a b c d e f,l=[a,b,c,d,e,f]:=by
 match l,h with
 | [a,b,c,d,e,f],_=>exact⟨a,b,c,d,e,f,rfl⟩
theorem Amo{α:Type}{l:List α}(h:l.length=3):∃a b c,l=[a,b,c]:=by
 match l,h with
 | [a,b,c],_=>exact⟨a,b,c,rfl⟩
theorem dq(h:DataW.trod enc prog w base spare held fuel 50 cs=some x):∃p:PieceP,PcV w cs.toArray p:=by
 obtain⟨hl,n,hf⟩:=Ahh underlying50 h;rw[Rj] at hl;obtain⟨c0,c1,c2,c3,c4,c5,c6,rfl⟩:=Ajo hl;obtain⟨y0,h0⟩:=hf 0 _ rfl;obtain⟨y1,h1⟩:=hf 1 _ rfl;obtain⟨y2,h2⟩:=hf 2 _ rfl;obtain⟨y3,h3⟩:=hf 3 _ rfl;obtain⟨y4,h4⟩:=hf 4 _ rfl;obtain⟨y5,h5⟩:=hf 5 _ rfl;obtain⟨y6,h6⟩:=hf 6 _ rfl;simp only[List.getElem_toArray,List.getElem_cons_zero,List.getElem_cons_succ] at h0 h1 h2 h3 h4 h5 h6;rw[Nw] at h0;rw[Abv] at h1;rw[Ju] at h2;rw[Abu] at h3;rw[ur] at h4;rw[Zw] at h5;rw[Pt] at h6;simp at h0 h1 h2 h3 h4 h5 h6;obtain⟨nm,rfl,-⟩:=Alx h0;obtain⟨A1,n1,d1,rfl⟩:=jj underlying46 h1;obtain⟨gr,rfl⟩:=xd h2;obtain⟨A2,n2,d2,rfl⟩:=jj underlying47 h3;obtain⟨A3,n3,d3,rfl⟩:=jj underlying48 h4;obtain⟨A4,n4,d4,rfl⟩:=jj underlying23 h5;obtain⟨mt,rfl⟩:=Aex h6;obtain⟨a1,a2,-,la,a3⟩:=gk h1;obtain⟨b1,b2,-,lb,b3⟩:=Ug h3;obtain⟨e1,e2,-,lc,e3,-⟩:=Qo h4;obtain⟨f1,f2,-,ld,f3⟩:=Pb h5;have q1:=a3.1;have q2:=b3.1;have q3:=e3.1;have q4:=f3.1;subst q1 q2 q3 q4;exact⟨⟨nm,la,gr,lb,lc,ld,mt⟩,A1,d1,A2,d2,A3,d3,A4,d4,rfl,⟨a1,a2,a3⟩,⟨b1,b2,b3⟩,⟨e1,e2,e3⟩,f1,f2,f3⟩
theorem Wc{n c:Nat}(h:DataW.trod enc prog w base spare held fuel 24 [.slice A n c]=some x):n<=c/\c<=9223372036854775807/\(A=none->c=0)/\∃l,PcS w A n l:=by
 obtain⟨h1,h2,h3,l,h4,h5⟩:=Gz (α:=PieceP) (fun b o q=>∃vs,PcV w vs q/\∀j u,vs[j]? = some u->Cq w b (o+j) u) underlying24 Rj (fun fuel cs' y b o g1 g2=>by
  obtain⟨q,hq⟩:=dq g2;refine⟨q,cs'.toArray,hq,fun j u hu=>?_⟩
  rw[cA] at hu;have hl:cs'.length=7:=(World.cells?_some g1).2.1
  have hj:j<7:=by
   rcases bG j 7 with g|g
   ·exact g
   ·rw[bI aK] at hu;cases hu
  have c0:=C5 g1 hj;rw[M7,hu] at c0;exact c0) h
 exact⟨h1,h2,h3,l,h4,h5⟩
theorem xp(h:DataW.trod enc prog w base spare held fuel 54 cs=some x):∃a b c,cs=[.int .i64 a,.int .i64 b,.bool c]:=by
 obtain⟨hl,n,hf⟩:=Ahh underlying54 h;rw[Zu] at hl;obtain⟨c0,c1,c2,rfl⟩:=Amo hl;obtain⟨y0,h0⟩:=hf 0 _ rfl;obtain⟨y1,h1⟩:=hf 1 _ rfl;obtain⟨y2,h2⟩:=hf 2 _ rfl;simp only[List.getElem_toArray,List.getElem_cons_zero,List.getElem_cons_succ] at h0 h1 h2;rw[Ju] at h0 h1;rw[Pt] at h2;simp at h0 h1 h2;obtain⟨a,rfl⟩:=xd h0;obtain⟨b,rfl⟩:=xd h1;obtain⟨c,rfl⟩:=Aex h2;exact⟨a,b,c,rfl⟩
theorem iz{n c:Nat}(h:DataW.trod enc prog w base spare held fuel 25 [.slice A n c]=some x):n<=c/\c<=9223372036854775807/\(A=none->c=0)/\∃l,UsS w A n l:=by
 obtain⟨h1,h2,h3,l,h4,h5⟩:=Gz (α:=UseP) (fun b o q=>Cq w b o q.pc/\Cq w b (o+1) q.ct/\Cq w b (o+2) (.bool q.pr)) underlying25 Zu (fun fuel cs' y b o g1 g2=>by
  obtain⟨u,v,q,rfl⟩:=xp g2;have c0:=C5 g1 (show 0<3 by omega)
  have c1:=C5 g1 (show 1<3 by omega)
  have c2:=C5 g1 (show 2<3 by omega)
  rw[Em] at c0;rw[M7] at c1 c2;exact⟨⟨u,v,q⟩,c0,c1,c2⟩) h
 exact⟨h1,h2,h3,l,h4,h5⟩
theorem k7(h:DataW.trod enc prog w base spare held fuel 111 cs=some x):∃a b c d e f,cs=[.int .i64 a,.int .i64 b,.int .i64 c,.int .i64 d,.bool e,.int .i64 f]:=by
 obtain⟨hl,n,hf⟩:=Ahh underlying111 h;rw[Vc] at hl;obtain⟨c0,c1,c2,c3,c4,c5,rfl⟩:=Amn hl;obtain⟨y0,h0⟩:=hf 0 _ rfl;obtain⟨y1,h1⟩:=hf 1 _ rfl;obtain⟨y2,h2⟩:=hf 2 _ rfl;obtain⟨y3,h3⟩:=hf 3 _ rfl;obtain⟨y4,h4⟩:=hf 4 _ rfl;obtain⟨y5,h5⟩:=hf 5 _ rfl;simp only[List.getElem_toArray,List.getElem_cons_zero,List.getElem_cons_succ] at h0 h1 h2 h3 h4 h5;rw[Ju] at h0 h1 h2 h3 h5;rw[Pt] at h4;simp at h0 h1 h2 h3 h4 h5;obtain⟨a,rfl⟩:=xd h0;obtain⟨b,rfl⟩:=xd h1;obtain⟨c,rfl⟩:=xd h2;obtain⟨d,rfl⟩:=xd h3;obtain⟨e,rfl⟩:=Aex h4;obtain⟨f,rfl⟩:=xd h5;exact⟨a,b,c,d,e,f,rfl⟩
theorem aq{n c:Nat}(h:DataW.trod enc prog w base spare held fuel 26 [.slice A n c]=some x):n<=c/\c<=9223372036854775807/\(A=none->c=0)/\∃l,SeS w A n l:=by
 obtain⟨h1,h2,h3,l,h4,h5⟩:=Gz (α:=SeamP) (fun b o q=>Cq w b o q.pa/\Cq w b (o+1) q.ea/\Cq w b (o+2) q.pb/\Cq w b (o+3) q.eb/\Cq w b (o+4) (.bool q.rv)/\Cq w b (o+5) q.es) underlying26 Vc (fun fuel cs' y b o g1 g2=>by
  obtain⟨q0,q1,q2,q3,q4,q5,rfl⟩:=k7 g2;have c0:=C5 g1 (show 0<6 by omega)
  have c1:=C5 g1 (show 1<6 by omega)
  have c2:=C5 g1 (show 2<6 by omega)
  have c3:=C5 g1 (show 3<6 by omega)
  have c4:=C5 g1 (show 4<6 by omega)
  have c5:=C5 g1 (show 5<6 by omega)
  rw[Em] at c0;rw[M7] at c1 c2 c3 c4 c5;exact⟨⟨q0,q1,q2,q3,q4,q5⟩,c0,c1,c2,c3,c4,c5⟩) h
 exact⟨h1,h2,h3,l,h4,h5⟩
theorem aa(h:DataW.trod enc prog w base spare held fuel 29 cs=some x):∃s:StyleP,StV w cs.toArray s:=by
 obtain⟨hl,n,hf⟩:=Ahh underlying29 h;rw[gz] at hl;obtain⟨c0,c1,c2,c3,c4,c5,c6,rfl⟩:=Ajo hl;obtain⟨y0,h0⟩:=hf 0 _ rfl;obtain⟨y1,h1⟩:=hf 1 _ rfl;obtain⟨y2,h2⟩:=hf 2 _ rfl;obtain⟨y3,h3⟩:=hf 3 _ rfl;obtain⟨y4,h4⟩:=hf 4 _ rfl;obtain⟨y5,h5⟩:=hf 5 _ rfl;obtain⟨y6,h6⟩:=hf 6 _ rfl;simp only[List.getElem_toArray,List.getElem_cons_zero,List.getElem_cons_succ] at h0 h1 h2 h3 h4 h5 h6;rw[Nw] at h0;rw[Ab0] at h1;rw[Zw] at h2;rw[Abz] at h3;rw[Aby] at h4;rw[Abx] at h5;rw[Abw] at h6;simp at h0 h1 h2 h3 h4 h5 h6;obtain⟨nm,rfl,-⟩:=Alx h0;obtain⟨A1,n1,d1,rfl⟩:=jj underlying22 h1;obtain⟨A2,n2,d2,rfl⟩:=jj underlying23 h2;obtain⟨A3,n3,d3,rfl⟩:=jj underlying24 h3;obtain⟨A4,n4,d4,rfl⟩:=jj underlying25 h4;obtain⟨A5,n5,d5,rfl⟩:=jj underlying26 h5;obtain⟨A6,n6,d6,rfl⟩:=jj underlying27 h6;obtain⟨a1,a2,-,la,a3⟩:=jn h1;obtain⟨b1,b2,-,lb,b3⟩:=Pb h2;obtain⟨e1,e2,-,lc,e3⟩:=Wc h3;obtain⟨f1,f2,-,ld,f3⟩:=iz h4;obtain⟨g1,g2,-,le,g3⟩:=aq h5
 have hop:n6<=d6/\d6<=9223372036854775807:=by
  rcases open_slice underlying27 h6 with ⟨q1,-⟩|⟨a,len,cap,m,k,D,Pl,q1,q2,q3,q4,-⟩
  ·simp at q1;omega
  ·simp at q1;unfold maxLen at q4;omega
 have q1:=a3.1;have q2:=b3.1;have q3:=e3.1;have q4:=f3.1;have q5:=g3.1;subst q1 q2 q3 q4 q5;exact⟨⟨nm,la,lb,lc,ld,le,n6⟩,A1,d1,A2,d2,A3,d3,A4,d4,A5,d5,A6,d6,rfl,⟨a1,a2,a3⟩,⟨b1,b2,b3⟩,⟨e1,e2,e3⟩,⟨f1,f2,f3⟩,⟨g1,g2,g3⟩,hop⟩
theorem Auy(h:DataW.trod enc prog w base spare held fuel 67 cs=some x):∃p:PlcP,cs=xi p/\inR p.ga/\inR p.us/\inR p.cp:=by
 obtain⟨hl,n,hf⟩:=Ahh underlying67 h;rw[Asw] at hl;obtain⟨c0,c1,c2,c3,c4,c5,c6,rfl⟩:=Ajo hl;obtain⟨y0,h0⟩:=hf 0 _ rfl;obtain⟨y1,h1⟩:=hf 1 _ rfl;obtain⟨y2,h2⟩:=hf 2 _ rfl;obtain⟨y3,h3⟩:=hf 3 _ rfl;obtain⟨y4,h4⟩:=hf 4 _ rfl;simp only[List.getElem_toArray,List.getElem_cons_zero,List.getElem_cons_succ] at h0 h1 h2 h3 h4;rw[Ju] at h0 h1 h2;rw[Ats] at h3;rw[Vb] at h4;simp at h0 h1 h2 h3 h4;obtain⟨a,rfl,ra⟩:=Axj h0;obtain⟨b,rfl,rb⟩:=Axj h1;obtain⟨c,rfl,rc⟩:=Axj h2;obtain⟨f,q,e3,-⟩:=Ava h3;obtain⟨ex,ey,e4,-⟩:=jy h4;simp at e3 e4;obtain⟨rfl,rfl⟩:=e3;obtain⟨rfl,rfl⟩:=e4;exact⟨⟨a,b,c,f,q,ex,ey⟩,rfl,ra,rb,rc⟩
theorem At2{n c:Nat}(h:DataW.trod enc prog w base spare held fuel 32 [.slice A n c]=some x):n<=c/\c<=9223372036854775807/\(A=none->c=0)/\∃l,PlS w A n l/\∀p∈l,inR p.ga/\inR p.us/\inR p.cp:=by
 obtain⟨h1,h2,h3,l,h4,h5⟩:=Gz (α:=PlcP) (fun b o q=>Ak6 w b o q/\inR q.ga/\inR q.us/\inR q.cp) underlying32 Asw (fun fuel cs' y b o g1 g2=>by
  obtain⟨p,rfl,hp⟩:=Auy g2;have c0:=C5 g1 (show 0<7 by omega)
  have c1:=C5 g1 (show 1<7 by omega)
  have c2:=C5 g1 (show 2<7 by omega)
  have c3:=C5 g1 (show 3<7 by omega)
  have c4:=C5 g1 (show 4<7 by omega)
  have c5:=C5 g1 (show 5<7 by omega)
  have c6:=C5 g1 (show 6<7 by omega)
  rw[Em] at c0;rw[M7] at c1 c2 c3 c4 c5 c6;exact⟨p,⟨c0,c1,c2,c3,c4,c5,c6⟩,hp⟩) h
 refine⟨h1,h2,h3,l,⟨h4,?_⟩,fun p hp=>?_⟩
 ·rcases h5 with h5|⟨b,o,e,h5⟩
  ·exact .inl h5
  ·exact .inr ⟨b,o,e,fun k hk=>(h5 k hk).1⟩
 ·obtain⟨k,hk,rfl⟩:=List.mem_iff_getElem.1 hp
  rcases h5 with h5|⟨b,o,e,h5⟩
  ·omega
  ·have:=(h5 k aK).2
   rw[show l.getD k default=l[k] by simp[List.getD,hk]] at this
   exact this
def MkV(w:World)(vs:Array Value)(m:MkP):Prop:=∃A1 c1 A2 c2,vs=#[.int .i64 m.len,.int .i64 m.wid,.int .i64 m.rx,.int .i64 m.ry,.slice A1 m.sz.length c1,.slice A2 m.pl.length c2]/\(m.sz.length<=c1/\c1<=9223372036854775807/\InS w A1 m.sz.length m.sz)/\m.pl.length<=c2/\c2<=9223372036854775807/\(A2=none->c2=0)/\PlS w A2 m.pl.length m.pl
theorem At4(h:DataW.trod enc prog w base spare held fuel 34 cs=some x):∃m:MkP,MkV w cs.toArray m/\∀p∈m.pl,inR p.ga/\inR p.us/\inR p.cp:=by
 obtain⟨hl,n,hf⟩:=Ahh underlying34 h;rw[At9] at hl;obtain⟨c0,c1,c2,c3,c4,c5,rfl⟩:=Amn hl;obtain⟨y0,h0⟩:=hf 0 _ rfl;obtain⟨y1,h1⟩:=hf 1 _ rfl;obtain⟨y2,h2⟩:=hf 2 _ rfl;obtain⟨y3,h3⟩:=hf 3 _ rfl;obtain⟨y4,h4⟩:=hf 4 _ rfl;simp only[List.getElem_toArray,List.getElem_cons_zero,List.getElem_cons_succ] at h0 h1 h2 h3 h4;rw[Ju] at h0 h1;rw[Auq] at h2;rw[Zw] at h3;rw[Aw4] at h4;simp at h0 h1 h2 h3 h4;obtain⟨a,rfl⟩:=xd h0;obtain⟨b,rfl⟩:=xd h1;obtain⟨rx,ry,e2,-⟩:=Awj h2;simp at e2;obtain⟨rfl,rfl⟩:=e2;obtain⟨A1,n1,d1,rfl⟩:=jj underlying23 h3;obtain⟨A2,n2,d2,rfl⟩:=jj underlying32 h4;obtain⟨a1,a2,-,la,a3⟩:=Pb h3;obtain⟨b1,b2,b4,lb,b3,b5⟩:=At2 h4;have q1:=a3.1;have q2:=b3.1;subst q1 q2;exact⟨⟨a,b,rx,ry,la,lb⟩,⟨A1,d1,A2,d2,rfl,⟨a1,a2,a3⟩,b1,b2,b4,b3⟩,b5⟩
end
section
variable {H : Type} {enc : TypeId × Value -> H} {w : World} {base b0 : Nat} {spare : Nat -> Bool} {held : Bool} {r : Reach} {v : Value} {d : DataW H} {p : List MemPlace}
theorem dt(hv:Value.okWide prog w r b0 29 v)(h:DataW.Trod enc prog w base spare held 29 v d p):∃vs s,v=.agg vs/\StV w vs s:=by
 obtain⟨cs,rfl,hsz⟩:=okWide_struct underlying29 hv;obtain⟨fuel,hf⟩:=h;obtain⟨s,hs⟩:=aa hf;exact⟨cs,s,rfl,by simpa[Value.cells] using hs⟩
theorem At3(hv:Value.okWide prog w r b0 34 v)(h:DataW.Trod enc prog w base spare held 34 v d p):∃vs m,v=.agg vs/\MkV w vs m/\∀p∈m.pl,inR p.ga/\inR p.us/\inR p.cp:=by
 obtain⟨cs,rfl,hsz⟩:=okWide_struct underlying34 hv;obtain⟨fuel,hf⟩:=h;obtain⟨s,hs,hr⟩:=At4 hf;exact⟨cs,s,rfl,by simpa[Value.cells] using hs,hr⟩
end
end
end Go.Proofs.YtboghahlhmnblaaGreat
