/- Lean texts of the claim. -/
import Derived.Test.YtpbchbcdgikonaaGreatQ16
import Derived.ProofKit
import Derived.OpenShut
import Derived.ShutString
import Derived.ChangeOld
import Derived.Below
import Derived.Deep.Slices
import Derived.Deep.Strs
import Derived.Lib.SmallJoins
namespace Go.Proofs.YtpbchbcdgikonaaGreat
set_option linter.unusedVariables false
set_option linter.unusedSimpArgs false
set_option maxRecDepth 100000
set_option maxHeartbeats 4000000
open Go.RowKit
theorem Sv {M:Int} (hM:M<=10000000) {q:Int×Int} (h:Ep M q):Ep M (Afc q):=by
 unfold Ep Afc at *
 dsimp only;rw[Dn (by omega) (by omega)];omega
theorem Su {M:Int} (hM:M<=10000000):∀(n:Nat) {q:Int×Int},Ep M q->Ep M (R6 n q):=by
 intro n;induction n with
 | zero=>intro q h;exact h
 | succ n ih=>intro q h;unfold R6;first|exact ih (Sv hM h)|exact Sv hM (ih h)
theorem mh {M:Int} (hM:M<=10000000) {f:Bool} {q:Int×Int} (h:Ep M q):Ep M (Ad7 f q):=by
 unfold Ad7;split
 ·unfold Ep at *;dsimp only;rw[Dn (by omega) (by omega)];omega
 ·exact h
theorem Qj {M:Int} (hM:M<=10000000) {f:Bool} {u:Int} {q:Int×Int} (h:Ep M q):Ep M (C4 f u q):=Su hM _ (mh hM h)
theorem fm {M:Int} (hM:M<=10000000) {f:Bool} {u:Int} {l:List (Int×Int)} (h:∀q∈l,Ep M q):∀q∈Fv f u l,Ep M q:=by
 intro q hq;unfold Fv at hq;split at hq
 ·obtain⟨x,hx,rfl⟩:=List.mem_map.1 (List.mem_reverse.1 hq)
  exact Qj hM (h x hx)
 ·obtain⟨x,hx,rfl⟩:=List.mem_map.1 hq
  exact Qj hM (h x hx)
def km (l:List (Int×Int)) (x y:Int):List (Int×Int):=l.map fun q=>(q.1+x,q.2+y)
theorem kj {l:List (Int×Int)} {x y:Int} (h:∀q∈l,Ep 1048576 q) (hx:Ep 1048576 (x,y)):Th l (x,y)=km l x y:=by
 unfold Th km;apply List.map_congr_left;intro q hq;have:=h q hq;unfold Ep at this hx;dsimp only at hx ⊢;rw[Dn (by omega) (by omega),Dn (by omega) (by omega)]
def tpS (S:List Shp) (p:Pt5):List (Int×Int):=Fv p.fl p.qu (shp S p.sh.toNat).poly
theorem G9 {S:List Shp} {p:Pt5} (h:(Be S p).1=0):(∀q∈tpS S p,Ep 1048576 q)/\Ep 1048576 (p.x,p.y)/\(Be S p).2=km (tpS S p) p.x p.y/\(∀q∈(Be S p).2,Ep 1048576 q)/\3<=(tpS S p).length/\Bf (shp S p.sh.toNat).poly (shp S p.sh.toNat).poly.length=0:=by
 have hc:=Ed h;unfold Be at h hc ⊢;split at h
 ·cases h
 ·rename_i h0
  rw[if_neg h0] at hc ⊢
  have hxy:Ep 1048576 (p.x,p.y):=Nu (by
   cases ho:Ce 1048576 (p.x,p.y) with
   | false=>rfl
   | true=>exact absurd (.inr (.inr ho)) h0)
  unfold Ip at h hc ⊢;split at h
  ·rename_i h1;exact absurd h h1
  ·rename_i h1
   rw[if_neg h1] at hc ⊢;have h1':Bf (shp S p.sh.toNat).poly (shp S p.sh.toNat).poly.length=0:=by simpa using h1
   split at h
   ·rename_i h2;exact absurd h h2
   ·rename_i h2
    rw[if_neg h2] at hc ⊢;have hn:=fm (M:=1048576) (by omega) (f:=p.fl) (u:=p.qu) (Jg h1')
    refine⟨hn,hxy,kj hn hxy,Jg hc,?_,h1'⟩;unfold tpS;rw[Fg];exact(D9 h1').1
theorem Ahd {l:List (Int×Int)}:∀{n i:Nat},i<n->(gt l i).1<=hiX l n:=by
 intro n;induction n with
 | zero=>intro i hi;omega
 | succ n ih =>
   intro i hi;rw[hiX];by_cases h:i<n
   ·have:=ih h;split<;>omega
   ·obtain rfl:i=n:=by omega
    split<;>omega
theorem Ahe {l:List (Int×Int)}:∀{n:Nat},0<n->∃i,i<n/\hiX l n=(gt l i).1:=by
 intro n;induction n with
 | zero=>intro h;omega
 | succ n ih =>
   intro _;rw[hiX];split
   ·exact⟨n,by omega,rfl⟩
   ·rcases Nat.eq_zero_or_pos n with h0|h0
    ·subst h0;exact⟨0,by omega,rfl⟩
    ·obtain⟨i,hi,e⟩:=ih h0;exact⟨i,by omega,e⟩
def O3 (l:List (Int×Int)):Int:=hiX l l.length
theorem Jz {l:List (Int×Int)} (h0:0<l.length) {z:Int}:O3 l<=z↔∀q∈l,q.1<=z:=by
 unfold O3;constructor
 ·intro h q hq
  obtain⟨i,hi,rfl⟩:=Nx hq;have:=Ahd (l:=l) hi;omega
 ·intro h
  obtain⟨i,hi,e⟩:=Ahe (l:=l) h0;rw[e];exact h _ (Oa hi)
def Gz (b:Bed4) (l:Int):Bed4:=⟨l,b.wid,b.rx,b.ry⟩
theorem Jn {ps:List Pt5} {i:Nat} (h:i<ps.length):pt ps i∈ps:=by
 unfold pt;rw[List.getD,List.getElem?_eq_getElem h];exact List.getElem_mem h
theorem oj {f:Bool} {l:List (Int×Int)} {e:Int}:∀{n:Nat},(∀i,i<n->(gt l i).1<=Iz f l e n)/\(f=false->e<=Iz f l e n)/\(0<n->(∃i,i<n/\Iz f l e n=(gt l i).1)\/(f=false/\Iz f l e n=e)):=by
 intro n;induction n with
 | zero=>exact⟨fun i hi=>absurd hi (by omega),fun _=>Int.le_refl _,fun h=>absurd h (by omega)⟩
 | succ n ih =>
   obtain⟨g1,g2,g3⟩:=ih;rw[Iz];by_cases hc:(f&&decide (n=0))=true\/Iz f l e n<(gt l n).1
   ·rw[if_pos hc]
    refine⟨fun i hi=>?_,fun hf=>?_,fun _=>.inl ⟨n,by omega,rfl⟩⟩
    ·by_cases h:i<n
     ·have:=g1 i h
      rcases hc with hc|hc
      ·simp at hc;omega
      ·omega
     ·obtain rfl:i=n:=by omega
      exact Int.le_refl _
    ·rcases hc with hc|hc
     ·simp[hf] at hc
     ·have:=g2 hf;omega
   ·rw[if_neg hc]
    have hc2:(gt l n).1<=Iz f l e n:=Int.not_lt.1 fun h=>hc (.inr h)
    refine⟨fun i hi=>?_,g2,fun _=>?_⟩
    ·by_cases h:i<n
     ·exact g1 i h
     ·obtain rfl:i=n:=by omega
      exact hc2
    ·rcases Nat.eq_zero_or_pos n with h0|h0
     ·subst h0
      refine .inr ⟨?_,rfl⟩;cases f with
      | false=>rfl
      | true=>exact absurd (.inl (by simp)) hc
     ·rcases g3 h0 with ⟨i,hi,he⟩|h
      ·exact .inl ⟨i,by omega,he⟩
      ·exact .inr h
theorem Ty {S:List Shp} {ps:List Pt5}:∀{k:Nat},(Ef S ps k).1=0->(∀i,i<k->(Be S (pt ps i)).1=0/\O3 (Be S (pt ps i)).2<=(Ef S ps k).2)/\(0<k->∃i,i<k/\(Ef S ps k).2=O3 (Be S (pt ps i)).2):=by
 intro k;induction k with
 | zero=>intro _;exact⟨fun i hi=>absurd hi (by omega),fun h=>absurd h (by omega)⟩
 | succ k ih =>
   intro h;rw[Ef] at h ⊢;by_cases h0:(Ef S ps k).1≠0
   ·rw[if_pos h0] at h;exact absurd h h0
   ·have h0':(Ef S ps k).1=0:=by simpa using h0
    rw[if_neg h0] at h ⊢;by_cases h1:(Be S (pt ps k)).1≠0
    ·rw[if_pos h1] at h;exact absurd h h1
    ·have h1':(Be S (pt ps k)).1=0:=by simpa using h1
     rw[if_neg h1] at h ⊢;obtain⟨ih1,ih2⟩:=ih h0';have hpos:0<(Be S (pt ps k)).2.length:=by obtain⟨_,_,e,_,h5,_⟩:=G9 h1';rw[e];unfold km;simp;omega
     have hm:=oj (f:=decide (k=0)) (l:=(Be S (pt ps k)).2) (e:=(Ef S ps k).2) (n:=(Be S (pt ps k)).2.length);obtain⟨m1,m2,m3⟩:=hm
     have hle:O3 (Be S (pt ps k)).2<=Iz (decide (k=0)) (Be S (pt ps k)).2 (Ef S ps k).2 (Be S (pt ps k)).2.length:=by
      rw[Jz hpos];intro q hq;obtain⟨i,hi,rfl⟩:=Nx hq;exact m1 i hi
     dsimp only;refine⟨fun i hi=>?_,fun _=>?_⟩
     ·by_cases hik:i<k
      ·have hk0:decide (k=0)=false:=by simp;omega
       have:=m2 hk0;exact⟨(ih1 i hik).1,by have:=(ih1 i hik).2;omega⟩
      ·obtain rfl:i=k:=by omega
       exact⟨h1',hle⟩
     ·rcases m3 hpos with ⟨i,hi,he⟩|⟨hf,he⟩
      ·refine⟨k,by omega,?_⟩
       apply Int.le_antisymm
       ·rw[he]
        exact(Jz hpos).1 (Int.le_refl _) _ (Oa hi)
       ·exact hle
      ·have hk:0<k:=by simp at hf;omega
       obtain⟨i,hi,hi2⟩:=ih2 hk;exact⟨i,by omega,by rw[he];exact hi2⟩
theorem Tx {b:Bed4} {S:List Shp} {ps:List Pt5} {p:Pt5} (h:Dm b S ps p=0):O3 (Be S p).2<=b.len:=by
 obtain⟨hb,h1,h2⟩:=Co h;have hpos:0<(Be S p).2.length:=by obtain⟨_,_,e,_,h5,_⟩:=G9 h1;rw[e];unfold km;simp;omega
 rw[Jz hpos];intro q hq;obtain⟨i,hi,rfl⟩:=Nx hq;unfold Lt at h2;split at h2
 ·cases h2
 ·split at h2
  ·cases h2
  ·rename_i h3
   have h3':Bq (fun i=>Da b (gt (Be S p).2 i)) (Be S p).2.length=false:=by simpa using h3
   have:Da b (gt (Be S p).2 i)=false:=by
    cases ho:Da b (gt (Be S p).2 i) with
    | false=>rfl
    | true=>rw[Bq.yes hi ho] at h3';cases h3'
   unfold Da at this;simp at this;omega
section
open Go.ChangeShapes Go.WideShapes Go.ChangeAt Go.RowKit Go.Deep Go.Joins
theorem own:ownKnob Tryz.prog.godebug=none:=by kernel_rfl
section
variable {H : Type} {enc : TypeId × Value -> H} {w : World} {base b0 : Nat} {spare : Nat -> Bool} {held : Bool} {fuel : Nat} {cs : List Value} {x : DataW H × List MemPlace} {r : Reach} {v : Value} {d : DataW H} {p : List MemPlace}
theorem Oo:Tryz.prog.cellsOf 49=2:=by kernel_rfl
theorem En:Tryz.prog.cellsOf 3=1:=by kernel_rfl
theorem qv:Tryz.prog.cellsOf 54=1:=by kernel_rfl
theorem lh {α:Type} {l:List α} (h:l.length=2):∃a b,l=[a,b]:=by
 match l,h with
 | [a,b],_=>exact⟨a,b,rfl⟩
theorem Sl (h:DataW.trod enc Tryz.prog w base spare held fuel 49 cs=some x):∃a b,cs=[.int .i64 a,.int .i64 b]/\inR a/\inR b:=by
 obtain⟨y0,y1,n,-,hl,h0,h1⟩:=trod_struct2 Tryz.underlying49 h;rw[Oo] at hl;obtain⟨c0,c1,rfl⟩:=lh hl;dsimp only at h0 h1;rw[En] at h0 h1;obtain⟨a,e0,-,wa⟩:=DataW.trod_int Tryz.underlying3 h0;obtain⟨b,e1,-,wb⟩:=DataW.trod_int Tryz.underlying3 h1;simp at e0 e1;subst e0 e1;exact⟨a,b,rfl,bounds_i64 wa,bounds_i64 wb⟩
theorem Qk {a:Addr} {u:Value} (h:w.cell? a=some u):a=⟨a.block,a.off,none⟩:=by
 have:=World.cell?_spot h;obtain⟨b,o,s⟩:=a;simp at this;subst this;rfl
theorem Bs {a:Addr} {n k:Nat} {cs:List Value} (h:w.cells? base a n=some cs) (hk:k<n):w.cell? (a.add k)=cs[k]? := (World.cells?_some h).2.2 k hk
theorem Dt (a:Addr):a.add 0=a:=by unfold Addr.add;simp
theorem K9 (b o k:Nat):(⟨b,o,none⟩:Addr).add k=⟨b,o+k,none⟩:=by
 unfold Addr.add;by_cases h:k=0
 ·subst h;simp
 ·simp[h]
theorem Pb {A:Option Addr} {n c:Nat} (h:DataW.trod enc Tryz.prog w base spare held fuel 54 [.slice A n c]=some x):n<=c/\c<=9223372036854775807/\(A=none->c=0)/\∃l,SpS w A n l/\∀q∈l,inR q.1/\inR q.2:=by
 rcases open_slice Tryz.underlying54 h with ⟨h1,-⟩|⟨a,len,cap,m,k,D,Pl,h1,h2,h3,h4,h5,-,h6⟩
 ·simp at h1
  obtain⟨rfl,rfl,rfl⟩:=h1;exact⟨Nat.le_refl _,by omega,fun _=>rfl,[],⟨rfl,.inl rfl⟩,by simp⟩
 ·simp at h1
  obtain⟨rfl,rfl,rfl⟩:=h1;refine⟨h3,by unfold maxLen at h4;exact h4,(fun h=>by cases h),?_⟩
  have hm:n<=m:=by rw[h5];split<;>omega
  have hel:∀i,i<n->∃q:Int×Int,(w.cell? (a.add (i*2))=some (.int .i64 q.1)/\w.cell? ((a.add (i*2)).add 1)=some (.int .i64 q.2))/\inR q.1/\inR q.2:=by
   intro i hi;obtain⟨cs',g1,g2⟩:=h6 i (by omega)
   rw[Oo] at g1;obtain⟨u,v,rfl,wu,wv⟩:=Sl g2;have c0:=Bs g1 (show 0<2 by omega)
   have c1:=Bs g1 (show 1<2 by omega)
   rw[Dt] at c0;exact⟨(u,v),⟨c0,c1⟩,wu,wv⟩
  obtain⟨f,hf⟩:=choose_lt (α:=Int×Int) (p:=fun i q=>(w.cell? (a.add (i*2))=some (.int .i64 q.1)/\w.cell? ((a.add (i*2)).add 1)=some (.int .i64 q.2))/\inR q.1/\inR q.2) hel
  refine⟨(List.range n).map f,⟨by simp,?_⟩,fun q hq=>?_⟩
  ·rcases Nat.eq_zero_or_pos n with h0|h0
   ·exact .inl h0
   ·have c0:=(hf 0 h0).1.1
    rw[Nat.zero_mul,Dt] at c0;have ea:=Qk c0;refine .inr ⟨a.block,a.off,by rw[<-ea],fun k hk=>?_⟩
    have g:=(hf k hk).1;rw[ea,K9,K9] at g;have e:gt ((List.range n).map f) k=f k:=by unfold gt;simp[List.getD,hk]
    rw[e];exact g
  ·simp at hq
   obtain⟨i,hi,rfl⟩:=hq;exact(hf i hi).2
end
section
variable {H : Type} {enc : TypeId × Value -> H} {w : World} {base b0 : Nat} {spare : Nat -> Bool} {held : Bool} {r : Reach} {v : Value} {d : DataW H} {p : List MemPlace}
end
end
section
open Go.ChangeShapes Go.WideShapes Go.ChangeAt Go.RowKit
end
section
open Go.ChangeShapes Go.WideShapes Go.ChangeAt Go.RowKit Go.Deep Go.Joins
section
variable {H : Type} {enc : TypeId × Value -> H} {w : World} {base b0 : Nat} {spare : Nat -> Bool} {held : Bool} {fuel : Nat} {cs : List Value} {x : DataW H × List MemPlace} {r : Reach} {v : Value} {d : DataW H} {p : List MemPlace}
theorem Rp:Tryz.prog.cellsOf 31=2:=by kernel_rfl
theorem Y0:Tryz.prog.cellsOf 33=4:=by kernel_rfl
theorem K5:Tryz.prog.cellsOf 4=1:=by kernel_rfl
theorem Ajk {α:Type} {l:List α} (h:l.length=4):∃a b c d,l=[a,b,c,d]:=by
 match l,h with
 | [a,b,c,d],_=>exact⟨a,b,c,d,rfl⟩
theorem Xh (h:DataW.trod enc Tryz.prog w base spare held fuel 31 cs=some x):∃a b,cs=[.int .i64 a,.int .i64 b]/\inR a/\inR b:=by
 obtain⟨y0,y1,n,-,hl,h0,h1⟩:=trod_struct2 Tryz.underlying31 h;rw[Rp] at hl;obtain⟨c0,c1,rfl⟩:=lh hl;dsimp only at h0 h1;rw[En] at h0 h1;obtain⟨a,e0,-,wa⟩:=DataW.trod_int Tryz.underlying3 h0;obtain⟨b,e1,-,wb⟩:=DataW.trod_int Tryz.underlying3 h1;simp at e0 e1;subst e0 e1;exact⟨a,b,rfl,bounds_i64 wa,bounds_i64 wb⟩
theorem Aae (h:DataW.trod enc Tryz.prog w base spare held fuel 33 cs=some x):∃a b c e,cs=[.int .i64 a,.int .i64 b,.int .i64 c,.int .i64 e]/\inR a/\inR b/\inR c/\inR e:=by
 obtain⟨y0,y1,y2,n,-,hl,h0,h1,h2⟩:=trod_struct3 Tryz.underlying33 h;rw[Y0] at hl;obtain⟨c0,c1,c2,c3,rfl⟩:=Ajk hl;dsimp only at h0 h1 h2;rw[En] at h0 h1;rw[Rp] at h2;obtain⟨a,e0,-,wa⟩:=DataW.trod_int Tryz.underlying3 h0;obtain⟨b,e1,-,wb⟩:=DataW.trod_int Tryz.underlying3 h1;obtain⟨c,e,e2,w1,w2⟩:=Xh h2;simp at e0 e1 e2;obtain⟨rfl,rfl⟩:=e2;subst e0 e1;exact⟨a,b,c,e,rfl,bounds_i64 wa,bounds_i64 wb,w1,w2⟩
instance:Inhabited Shp:=⟨⟨[],0,false,(0,0)⟩⟩
instance:Inhabited Pt5:=⟨⟨0,false,0,0,0⟩⟩
end
section
variable {H : Type} {enc : TypeId × Value -> H} {w : World} {base b0 : Nat} {spare : Nat -> Bool} {held : Bool} {r : Reach} {v : Value} {d : DataW H} {p : List MemPlace}
end
end
theorem Adk {p q:Int×Int} {b:List (Int×Int)} {v:Int} (hv:0<=v):∀k,v<=Km p q b k↔∃i,i<k/\v<=Er (Bo p q (gt b i)) 0
 | 0=>by simp[Km];omega
 | k+1=>by
   rw[Km,show (v<=max (Km p q b k) (Er (Bo p q (gt b k)) 0))↔(v<=Km p q b k\/v<=Er (Bo p q (gt b k)) 0) by omega,Adk hv k]
   constructor
   ·rintro(⟨i,hi,h⟩|h)
    ·exact⟨i,by omega,h⟩
    ·exact⟨k,by omega,h⟩
   ·rintro⟨i,hi,h⟩
    by_cases c:i=k
    ·subst c;exact .inr h
    ·exact .inl ⟨i,by omega,h⟩
theorem Pj {a b:List (Int×Int)} {na nb:Nat}:∀k,Gy a b na nb k<=1
 | 0=>by simp[Gy]
 | k+1=>by rw[Gy];have:=Pj (a:=a) (b:=b) (na:=na) (nb:=nb) k;omega
theorem dr (a b:List (Int×Int)):Dv a b<=1:=by
 unfold Dv Xl;have:=Pj (a:=a) (b:=b) (na:=a.length) (nb:=b.length) a.length;omega
theorem Ue {s:List (Int×Int)} {ts:List (List (Int×Int))} {c0 v:Int}:∀k,v<=Jp s ts c0 k↔v<=c0\/∃i,i<k/\v<=Dv s (lt_ ts i)
 | 0=>by simp[Jp]
 | k+1=>by
   rw[Jp,show (v<=max (Jp s ts c0 k) (Dv s (lt_ ts k)))↔(v<=Jp s ts c0 k\/v<=Dv s (lt_ ts k)) by omega,Ue k]
   constructor
   ·rintro((h|⟨i,hi,h⟩)|h)
    ·exact .inl h
    ·exact .inr ⟨i,by omega,h⟩
    ·exact .inr ⟨k,by omega,h⟩
   ·rintro(h|⟨i,hi,h⟩)
    ·exact .inl (.inl h)
    ·by_cases c:i=k
     ·subst c;exact .inr h
     ·exact .inl (.inr ⟨i,by omega,h⟩)
theorem Ky {ss ts:List (List (Int×Int))} {v:Int} (hv:0<=v):∀k,v<=Fq ss ts k↔∃i,i<k/\∃j,j<ts.length/\v<=Dv (lt_ ss i) (lt_ ts j)
 | 0=>by simp[Fq];omega
 | k+1=>by
   rw[Fq,Ue,Ky hv k];constructor
   ·rintro(⟨i,hi,j,hj,h⟩|⟨j,hj,h⟩)
    ·exact⟨i,by omega,j,hj,h⟩
    ·exact⟨k,by omega,j,hj,h⟩
   ·rintro⟨i,hi,j,hj,h⟩
    by_cases c:i=k
    ·subst c;exact .inr ⟨j,hj,h⟩
    ·exact .inl ⟨i,by omega,j,hj,h⟩
def Ah6 (c:Int):Bool:=decide (48<=c)&&decide (c<=57)
theorem Gf (c:Int) (w:World):Calls Tryz.prog 242 #[.int .u8 c] w fun e w'=>e=.returned (.bool (Ah6 c))/\w=w':=by
 go_enter Tryz.func242,Tryz.ntmps242;go_wp2;all_goals go_ret
 all_goals exact⟨Bn (by first|(simp[Ah6]<;>omega)|(simp[Ah6, *];done)),rfl⟩
def byI (s:ByteArray) (i:Nat):Int:=if h:i<s.size then (s[i].toNat:Int) else 0
def chB (i:Nat) (c:Int):Bool:=(decide (97<=c)&&decide (c<=122)) || (!(i == 0)&&(c == 95 || Ah6 c))
def al (s:ByteArray):Bool:=decide (s.size=0) || decide (24<s.size) || s.toList == [109,105,110] || s.toList == [109,97,120]
def Dg (s:ByteArray):Bool:=!al s&&!Bq (fun i=>!chB i (byI s i)) s.size
theorem bj (s:ByteArray) (w:World) (h:al s=true):Calls Tryz.prog 232 #[.string s] w fun e w'=>e=.returned (.bool false)/\Below w.heap.size w w':=by
 unfold al at h;simp at h;go_enter Tryz.func232,Tryz.ntmps232;go_upto_region 4 with fail
 all_goals first
  | (go_ret;exact⟨rfl,Below.refl _ _⟩)
  | (exfalso;simp_all;done)
  | (exfalso;simp_all;omega)
theorem Vn (s:ByteArray) (w:World) (h:al s=false):Calls Tryz.prog 232 #[.string s] w fun e w'=>e=.returned (.bool (Dg s))/\Below w.heap.size w w':=by
 have HN:=Lib.hid (show Dg s=!Bq (fun i=>!chB i (byI s i)) s.size by unfold Dg;rw[h];rfl)
 unfold al at h;simp only[Bool.or_eq_false_iff,decide_eq_false_iff_not] at h;obtain⟨⟨⟨h1,h2⟩,h3⟩,h4⟩:=h;have h2':(s.size:Int)<=24:=by omega
 have e1:((s.size:Int) == 0)=false:=by rw[beq_eq_false_iff_ne];omega
 have e2:decide (24<(s.size:Int))=false:=by rw[decide_eq_false_iff_not];omega
 clear h1 h2;go_enter Tryz.func232,Tryz.ntmps232;go_upto_region 4 with fail;go_loopw [3,4,5,24] (fun _ _ _ i wr=>∃k:Nat,k<=s.size/\i=.int .i64 k/\Hid (Bq (fun i=>!chB i (byI s i)) k=false)/\wr=w) (fun _ _ _ i _=>s.size-(intOf i).toNat)
 case atStart=>exact⟨0,Nat.zero_le _,rfl,Bq.zero _,rfl⟩
 case round =>
  obtain⟨k,hk,rfl,hp,rfl⟩:=hrel;by_cases hlt:k<s.size
  ·have B1:(k:Int)<(s.size:Int):=by omega
   obtain⟨c,hc⟩:∃c:Int,(s[k].toNat:Int)=c:=⟨_,rfl⟩
   have hby:byI s k=c:=by unfold byI;rw[dif_pos hlt,hc]
   obtain⟨kz,hkz⟩:∃kz,((k:Int) == 0)=kz:=⟨_,rfl⟩
   have hkz2:(k == 0)=kz:=by rw[<-hkz];cases k<;>rfl
   obtain⟨dg,hdg⟩:∃d,Ah6 c=d:=⟨_,rfl⟩
   obtain⟨us,hus⟩:∃u,(c == 95)=u:=⟨_,rfl⟩
   have hus2:(c != 95)=!us:=by rw[<-hus];rfl
   have HBY:=Lib.hid hby;rcases(show (97<=c/\c<=122)\/(c<97\/97<=c/\decide (c<=122)=false) by rw[decide_eq_false_iff_not];omega) with ⟨l1,l2⟩|hno
   ·have HCH:=Lib.hid (show chB k c=true by unfold chB;simp[l1,l2])
    clear hby hkz2 hdg hus2 hus;have HS:=Bq.succ (f:=fun i=>!chB i (byI s i)) hp.out (by rw[HBY.out,HCH.out];rfl)
    skip
    all_goals go_wp2_with (go_at_call 242;refine(Gf _ _).mono ?_;rintro e w1 ⟨rfl,rfl⟩)
    all_goals (first|exact⟨⟨k+1,by omega,by go_num,HS,trivial⟩,by simp[intOf];omega⟩|(go_roundw;(case rel=>exact⟨k+1,by omega,by go_num,HS,rfl⟩);(case measure=>simp[intOf];omega)))
   ·have HCH:=Lib.hid (show chB k c=(!kz&&(us || dg)) by
     have:(decide (97<=c)&&decide (c<=122))=false:=by rcases hno with h|⟨_,h⟩<;>simp at h ⊢<;>omega
     unfold chB;rw[this,hkz2,hus,hdg];rfl)
    clear hby hkz2;cases kz with
    | true =>
      have HF:=Lib.hid (show Dg s=false by rw[HN.out,Bq.yes (f:=fun i=>!chB i (byI s i)) hlt (by rw[HBY.out,HCH.out];rfl)];rfl)
      rcases hno with hno|⟨hno,hno2⟩
      all_goals go_wp2_with (go_at_call 242;refine(Gf _ _).mono ?_;rintro e w1 ⟨rfl,rfl⟩)
      all_goals (go_ret;exact⟨by rw[HF.out];rfl,Below.refl _ _⟩)
    | false =>
      cases us with
      | true =>
        have HS:=Bq.succ (f:=fun i=>!chB i (byI s i)) hp.out (by rw[HBY.out,HCH.out];rfl)
        rcases hno with hno|⟨hno,hno2⟩
        all_goals go_wp2_with (go_at_call 242;refine(Gf _ _).mono ?_;rintro e w1 ⟨rfl,rfl⟩)
        all_goals (first|exact⟨⟨k+1,by omega,by go_num,HS,trivial⟩,by simp[intOf];omega⟩|(go_roundw;(case rel=>exact⟨k+1,by omega,by go_num,HS,rfl⟩);(case measure=>simp[intOf];omega)))
      | false =>
        cases dg with
        | true =>
          have HS:=Bq.succ (f:=fun i=>!chB i (byI s i)) hp.out (by rw[HBY.out,HCH.out];rfl)
          rcases hno with hno|⟨hno,hno2⟩
          all_goals go_wp2_with (go_at_call 242;refine(Gf _ _).mono ?_;rintro e w1 ⟨rfl,rfl⟩)
          all_goals (first|exact⟨⟨k+1,by omega,by go_num,HS,trivial⟩,by simp[intOf];omega⟩|(go_roundw;(case rel=>exact⟨k+1,by omega,by go_num,HS,rfl⟩);(case measure=>simp[intOf];omega)))
        | false =>
          have HF:=Lib.hid (show Dg s=false by rw[HN.out,Bq.yes (f:=fun i=>!chB i (byI s i)) hlt (by rw[HBY.out,HCH.out];rfl)];rfl)
          rcases hno with hno|⟨hno,hno2⟩
          all_goals go_wp2_with (go_at_call 242;refine(Gf _ _).mono ?_;rintro e w1 ⟨rfl,rfl⟩)
          all_goals (go_ret;exact⟨by rw[HF.out];rfl,Below.refl _ _⟩)
  ·obtain rfl:k=s.size:=by omega
   have HR:=Lib.hid (show Dg s=true by rw[HN.out,hp.out];rfl)
   go_wp2_with fail;go_ret;exact⟨by rw[HR.out];rfl,Below.refl _ _⟩
theorem Ar {P:Program} {c:Code} {Q:Exit->Act->World->Prop} {a:Act} {w:World} (F:World->Prop) (hF:F w) (h:∀X,F X->c.wp P Q a X):c.wp P Q a w:=h w hF
theorem Bb.pair {w:World} {g:Nat} {t:TypeId} {u v:Value} (h:Bb w g t #[u,v]):w.cell? ⟨g,0,none⟩=some u/\w.cell? ⟨g,1,none⟩=some v/\w.frozen? ⟨g,0,none⟩=false/\w.frozen? ⟨g,1,none⟩=false/\g<w.heap.size :=
 ⟨(h.cell 0).trans rfl,(h.cell 1).trans rfl,h.frozen 0,h.frozen 1,h.lt⟩
theorem Eb {z:Int} (h0:0<=z) (h1:z<18446744073709551616):IntKind.u64.wrap z=z:=by rw[IntKind.wrap_u64];omega
end Go.Proofs.YtpbchbcdgikonaaGreat
