/- Lean texts of the claim. -/
import Derived.Test.YtboghahlhmnblaaGreatZv09
import Derived.Test.YtboghahlhmnblaaGreatZv10
namespace Go.Proofs.YtboghahlhmnblaaGreat
set_option linter.all false
set_option maxRecDepth 100000
set_option maxHeartbeats 0
open Go.RowKit Go.Proofs.Tryz
variable{a o:World}{b k n s:Nat}{c q r:Int}{e t:LP}{f:TypeId}{g u:Value}{h:List Shp}{i:List LP}{j:Option Addr}{l:List Pt5}{m:Program}{p:Int×Int}{K:Bool}{x:Int}{B nb:Nat}{sv u2 u3 u4:Value}{w w':World}
def Aaj(rx b:Int)(a:Int×Int)(p:Pt5):Bool :=
 !Cc 1048576 a&&(!Cc 1048576 (xk (Cd p.fl p.qu a) (p.x,p.y))&&Ae7 rx b (xk (Cd p.fl p.qu a) (p.x,p.y)).1 (xk (Cd p.fl p.qu a) (p.x,p.y)).2 0 0)
theorem Bf.cells5(h:Bf w b f #[g,u,u2,u3,u4]):Cq w b 0 g/\Cq w b 1 u/\Cq w b 2 u2/\Cq w b 3 u3/\Cq w b 4 u4/\b<w.heap.size:=⟨h.cell 0,h.cell 1,h.cell 2,h.cell 3,h.cell 4,h.lt⟩
theorem Bf.cells4(h:Bf w b f #[g,u,u2,u3]):Cq w b 0 g/\Cq w b 1 u/\Cq w b 2 u2/\Cq w b 3 u3/\b<w.heap.size:=⟨h.cell 0,h.cell 1,h.cell 2,h.cell 3,h.lt⟩
theorem O4{rx:Int}(p:Pt5):Calls prog 102 #[.agg #[rx,c],.agg #[q,r],L7 p] w (Bz w (.bool (Aaj rx c (q,r) p))):=by
 obtain⟨sh,v,D,x,y⟩:=p;unfold L7;dsimp only;let⟨t,d⟩:∃t,t=(((w.alloc (.cells #[rx,c] 31)).alloc (.cells #[q,r] 65)).alloc (.cells #[sh,.bool v,D,x,y] 72)):=⟨_,rfl⟩
 have P:Bf t w 31 #[rx,c]:=by rw[d];exact((Bf.new _ _ _).alloc _).alloc _
 have Q:Bf t (w+1) 65 #[q,r]:=by rw[d];exact(Bf.new2 _ _ _ _).alloc _
 have R:Bf t (w+1+1) 72 #[sh,.bool v,D,x,y]:=by rw[d];exact Bf.new3 _ _ _ _ _
 have z:Be w t:=by rw[d];exact(Ao (Ao (Ao (aV _ _))))
 have M:=Ar P;have N:=Ar Q;have O:=Ar R;have l:=Ar z;subst d;clear P Q R z;by_cases F:Cc 1048576 (q,r)=true
 .have A:Aaj rx c (q,r) ⟨sh,v,D,x,y⟩=false:=by unfold Aaj;rw[F];rfl
  have j:=Ar A;clear A;go_enter func102,ntmps102
  go_wp2_with (go_at_call 38;refine rR (Dz) λS a=>?_)
  go_ret;exact⟨Bn j.out.symm,An l.out a⟩
 have G:Cc 1048576 (q,r)=false:=by simpa using F
 clear F;let⟨I,m⟩:=gN (Cd v D (q,r))
 obtain⟨B,C⟩:=I;have u:=Ar m;have A:Aaj rx c (q,r) ⟨sh,v,D,x,y⟩=(!Cc 1048576 (wrap64 (B+x),wrap64 (C+y))&&Ae7 rx c (wrap64 (B+x)) (wrap64 (C+y)) 0 0):=by unfold Aaj;rw[G,m];rfl
 have j:=Ar A;clear A m;by_cases n:Cc 1048576 (wrap64 (B+x),wrap64 (C+y))=true
 .have i:True:=trivial;go_enter func102,ntmps102
  go_wp2_with (first|(go_at_call 55;refine rR (G8) λT b=>?_;rw[u.out];have K:=g.keep b;have s:=h.keep b;have k:=o.keep b;let⟨c1,c2,c3,c4,c5,c6⟩:=s.cells5;let⟨n1,n2,n3,n4,n5⟩:=k.pair)|(go_at_call 38;first|(have _t:=i;refine rR (Dz) λS a=>?_;clear i;have g:=N.out.keep a;have h:=O.out.keep a;have o:=M.out.keep a;let⟨U,V,W,X,Y⟩:=g.pair;let⟨Z,b2,b3,b4,b5,b6⟩:=h.cells5)|(refine rR (Dz) λw3 f=>?_)))
  go_ret;exact⟨Bn (by rw[j.out,n];rfl),An (Ao (An (An l.out a) b)) f⟩
 have H:Cc 1048576 (wrap64 (B+x),wrap64 (C+y))=false:=by simpa using n
 clear n;have i:True:=trivial;go_enter func102,ntmps102
 go_wp2_with (first|(go_at_call 55;refine rR (G8) λT b=>?_;rw[u.out];have K:=g.keep b;have s:=h.keep b;have k:=o.keep b;let⟨c1,c2,c3,c4,c5,c6⟩:=s.cells5;let⟨n1,n2,n3,n4,n5⟩:=k.pair)|(go_at_call 38;first|(have _t:=i;refine rR (Dz) λS a=>?_;clear i;have g:=N.out.keep a;have h:=O.out.keep a;have o:=M.out.keep a;let⟨U,V,W,X,Y⟩:=g.pair;let⟨Z,b2,b3,b4,b5,b6⟩:=h.cells5)|(refine rR (Dz) λw3 f=>?_;have J:=(k.alloc _).keep f;have L:=Bf.keep (Bf.new T 65 #[(wrap64 (B+x)),(wrap64 (C+y))]) f;let⟨m1,m2,m3,m4,m5⟩:=J.pair;let⟨r1,r2,r3,r4,r5⟩:=L.pair))|(go_at_call 152;refine rR (yu) λw4 E=>?_))
 go_ret;exact⟨Bn (by rw[j.out,H];rfl),An (An (Ao (An (An l.out a) b)) f) E⟩
structure Bed4 where
 len:Int
 wid:Int
 rx:Int
 ry:Int
def Jw(b:Bed4):Value:=.agg #[b.len,b.wid,b.rx,b.ry]
def Gg(b:Bed4):Bool:=decide (b.len<1) || decide (b.len > 1048576) || decide (b.wid<1) || decide (b.wid > 1048576)
def Ou(b:Bed4)(v:Int×Int):Bool:=decide (v.1<0) || decide (v.1 > b.len) || decide (v.2<0) || decide (v.2 > b.wid)
def J3(S:List Shp)(a:LP)(b:List Pt5):Nat->Int
 | 0=>0
 | k+1=>if J3 S a b k≠0 then J3 S a b k else if (Br S (pt b k)).1≠0 then (Br S (pt b k)).1 else if (Gm (Br S (pt b k)).2 a).2≠0 then (Gm (Br S (pt b k)).2 a).2 else if (Gm (Br S (pt b k)).2 a).1 then 14 else 0
def so(b:Bed4)(S:List Shp)(a:List Pt5)(p:Pt5)(s:Shp)(r:LP):Int :=
 if Acf s.grain false p.fl p.qu=false then 12 else if Bp (λi=>Ou b (gt r i)) r.length then 13 else if s.mat&&!Aaj b.rx b.ry s.anc p then 15 else J3 S r a a.length
def Ha(b:Bed4)(S:List Shp)(a:List Pt5)(p:Pt5):Int :=
 if Gg b then 3 else if (Br S p).1≠0 then (Br S p).1 else so b S a p (shp S p.sh.toNat) (Br S p).2
theorem H5(a:J3 h e l b=x)(c:x≠0):∀m,J3 h e l (b+m)=x:=by
 intro m;induction m with
 | zero=>exact a
 | succ m ih=>rw[<-cQ,J3,if_pos (by rw[ih];exact c)];exact ih
theorem Dt(a:J3 h e l (b+1)=x)(c:x≠0)(d:b<k):J3 h e l k=x:=by
 have:=H5 a c (k-(b+1))
 rwa [show b+1+(k-(b+1))=k by omega] at this
theorem F9(S:List Shp)(p:Pt5):(Br S p).2.length<=40:=by
 unfold Br;split
 .simp
 unfold La;split
 .simp
 split
 .simp
 rename_i h _
 show (Yv _ _).length<=40
 rw[Ld,E8];exact(El (by simpa using h)).2
theorem Yl{p:Pt5}(a:(Br h p).1=0):∃k:Nat,p.sh=(k:Int)/\k<h.length/\p.sh.toNat=k:=by
 unfold Br at a;split at a
 .cases a
 rename_i b;simp only[not_or]at b;exact⟨p.sh.toNat,aK,aK,rfl⟩
theorem Akj(c d:Option Addr)(e f g h:Nat)(b:Bed4)(S:List Shp)(k:List Pt5)(p:Pt5)(w:World)(a:Gg b=true):Calls prog 59 #[Jw b,.slice c g e,.slice d h f,L7 p] w (Bz w (.int .i64 3)):=by
 obtain⟨sh,j,l,x,y⟩:=p;obtain⟨len,i,rx,m⟩:=b;unfold L7 Jw;unfold Gg at a;simp only[Bool.or_eq_true,decide_eq_true_eq]at a;dsimp only at a ⊢;go_enter func59,ntmps59;go_upto_region 3 with fail
 all_goals first
  | (go_ret;exact⟨rfl,(Ao (Ao (aV _ _)))⟩)
  | (exfalso;omega)
theorem Aki(f j:Option Addr)(l m i s:Nat)(b:Bed4)(S:List Shp)(v:List Pt5)(p:Pt5)(w:World)(o:ShS w f i S)(g:Gg b=false)(h:¬(Br S p).1=0):Calls prog 59 #[Jw b,.slice f i l,.slice j s m,L7 p] w (Bz w (Br S p).1):=by
 have a:((Br S p).1 != 0)=true:=by simpa using h
 clear h;obtain⟨len,u,rx,B⟩:=b;unfold Gg at g;simp only[Bool.or_eq_false_iff,decide_eq_false_iff_not]at g;let⟨r,d⟩:=gN (Br S p)
 rw[d]at a ⊢;have k:=Ar d;clear d;obtain⟨z,A⟩:=r;dsimp only at a ⊢;obtain⟨sh,n,t,x,y⟩:=p;unfold L7 Jw;dsimp only;go_enter func59,ntmps59
 go_wp2_with (go_at_call 17;refine aF (Cf S ⟨sh,n,t,x,y⟩ (o.keep (Ao (Ao (aV _ _))))) λD C q c=>?_;rw[k.out])
 go_ret;exact⟨rfl,An (Ao (Ao (aV _ _))) c⟩
theorem Akh(A1 A2:Option Addr)(c1 c2 n1 X:Nat)(b:Bed4)(S:List Shp)(t:List Pt5)(p:Pt5)(w:World)(j1:X<=1000000)(P:ShS w A1 n1 S)(bd:PuS w A2 X t)(hb:Gg b=false)(H:(Br S p).1=0):Calls prog 59 #[Jw b,.slice A1 n1 c1,.slice A2 X c2,L7 p] w (Bz w (so b S t p (shp S p.sh.toNat) (Br S p).2)):=by
 let⟨k,hk,bu,bx⟩:=Yl H;rw[bx];clear bx;obtain⟨len,m,rx,I⟩:=b;unfold Gg at hb;simp only[Bool.or_eq_false_iff,decide_eq_false_iff_not]at hb;have W:=F9 S p;let⟨r,hr⟩:=gN (Br S p)
 rw[hr]at H W ⊢;have HR:=Ar hr;clear hr;obtain⟨r1,r⟩:=r;dsimp only at H W ⊢;subst H;obtain⟨sh,z,A,x,y⟩:=p;dsimp only at hk;subst hk;have fa:k<n1:=by rw[<-P.1];exact bu
 have hn:=P.2.1;clear bu;obtain⟨ba,oa,rfl,R,Ak,ck,Y,g2,g3,g4,g5,g6,g7,g8,g9⟩:=P.at_ fa;let⟨s,hs⟩:=gN (shp S k)
 rw[hs]at Y g2 g4 g6 g7 g8 g9 ⊢;have hz:=Ar hs;clear hs;obtain⟨pl,Z,mt,⟨ax,ay⟩⟩:=s;dsimp only at Y g2 g4 g6 g7 g8 g9;let⟨K,M⟩:=gN pl.length
 rw[M]at Y g2 g4;clear M g4 g2;unfold L7 Jw;dsimp only;let⟨aw,bq⟩:∃aw:Bed4,aw=⟨len,m,rx,I⟩:=⟨_,rfl⟩
 let⟨pp,fb⟩:∃pp:Pt5,pp=⟨(k:Int),z,A,x,y⟩:=⟨_,rfl⟩
 let⟨O,E⟩:=gN (so ⟨len,m,rx,I⟩ S t ⟨(k:Int),z,A,x,y⟩ ⟨pl,Z,mt,(ax,ay)⟩ r)
 rw[E];have a:=Ar (show O=if Acf Z false z A=false then 12 else if Bp (λi=>Ou ⟨len,m,rx,I⟩ (gt r i)) r.length then 13 else if mt&&!Aaj rx I (ax,ay) ⟨(k:Int),z,A,x,y⟩ then 15 else J3 S r t t.length from E.symm);clear E;let⟨W2,J⟩:∃W2,W2=((w.alloc (.cells #[len,m,rx,I] 62)).alloc (.cells #[(k:Int),.bool z,A,x,y] 72)):=⟨_,rfl⟩
 have h0:Bf W2 w 62 #[len,m,rx,I]:=by rw[J];exact(Bf.new _ _ _).alloc _
 have h1:Bf W2 (w+1) 72 #[(k:Int),.bool z,A,x,y]:=by rw[J];exact Bf.new2 _ _ _ _
 have bs:Be w W2:=by rw[J];exact(Ao (Ao (aV _ _)))
 have H0:=Ar h0;have H1:=Ar h1;have v:=Ar bs;subst J;clear h0 h1 bs bq fb;by_cases ha:Acf Z false z A=true
 .rw[if_neg (by rw[ha];simp)] at a;go_enter func59,ntmps59
  go_upto_region 9 with (first|(go_at_call 17;refine aF (Cf S ⟨(k:Int),z,A,x,y⟩ (P.keep v.out)) λw1 v1 g h=>?_;rw[HR.out]at g ⊢;have F:=H0.out.keep h;have G:=H1.out.keep h;let⟨a1,a2,a3,a4,a5⟩:=F.cells4;let⟨b1,b2,b3,b4,b5,b6⟩:=G.cells5;have f:=An v.out h;have e1:=Aq f Y;have e2:=Aq f g6;have e3:=Aq f g7;have e4:=Aq f g8;have e5:=Aq f g9)|(go_at_call 101;refine rR (It) λw2 l=>?_))
  have n:Be w w2:=An (Ao f) l;have K0:=(F.alloc _).keep l;have K1:=(G.alloc _).keep l;have K2:=(Bf.new w1 85 #[.slice Ak K ck,Z,.bool mt,ax,ay]).keep l;have o:=OwG.keep (OwG.alloc g (.cells #[.slice Ak K ck,Z,.bool mt,ax,ay] 85)) l;let⟨a7,L⟩:∃a7,a7=w1.heap.size:=⟨_,rfl⟩
  rw[<-L]at K2 ⊢;obtain⟨A9,c9,rfl,bt,Q,-,-⟩:=OwS.els o;have bl:=P.keep n;have B:=bd.keep n;have e7:=Ar K0;have e8:=Ar K1;have e9:=Ar K2;clear g o a1 a2 a3 a4 a5 b1 b2 b3 b4 b5 b6 e1 e2 e3 e4 e5 F G h l f L K0 K1 K2 Y g6 g7 g8 g9 R P bd H0 H1 v;let⟨nr,c0⟩:=gN r.length
  rw[c0]at bt Q W a ⊢;clear c0;go_wp2;go_loopw [59] (λi wr=>∃j:Nat,j<=nr/\i=j/\Hid (Bp (λi=>Ou ⟨len,m,rx,I⟩ (gt r i)) j=false)/\Be w2 wr) λi _=>nr-(intOf i).toNat
  case atStart=>exact⟨0,aB,rfl,Ar (Bp.zero _),bl0⟩
  obtain⟨j,hj,rfl,H,d⟩:=hrel;let⟨a1,a2,a3,a4,a5⟩:=(e7.out.keep d).cells4;by_cases T:j<nr
  .obtain⟨bb,ob,rfl,R,hc⟩:=(Q.keep d).at_ T;let⟨d1,d2⟩:=hc j T;clear hc a3 a4;by_cases hq:Ou ⟨len,m,rx,I⟩ (gt r j)=true
   .have HQ:=Ar hq;unfold Ou at hq;simp only[Bool.or_eq_true,decide_eq_true_eq]at hq;rw[if_pos (Bp.yes T HQ.out)]at a;go_wp2_with fail
    all_goals first
     | (go_ret;exact⟨Bm a.out.symm,An n (Ao d)⟩)
     | (exfalso;omega)
   have HQ:=Ar (show Ou ⟨len,m,rx,I⟩ (gt r j)=false by simpa using hq);unfold Ou at hq;simp only[Bool.or_eq_true,decide_eq_true_eq,not_or]at hq;go_wp2_with fail
   all_goals first
    | exact aE ⟨Ar (Bp.succ H.out HQ.out),Ao d⟩
    | (exfalso;omega)
  obtain rfl:nr=j:=aK
  rw[if_neg (by rw[H.out];simp)] at a;let⟨b1,b2,b3,b4,b5,b6⟩:=(e8.out.keep d).cells5;let⟨e1,e2,e3,e4,e5,e6⟩:=(e9.out.keep d).cells5;cases mt
  case' true =>
   rw[Bool.true_and]at a;by_cases hm:Aaj rx I (ax,ay) ⟨(k:Int),z,A,x,y⟩=true
   case' neg =>
    rw[gE]at hm;rw[hm,if_pos aM]at a
   case' pos=>rw[hm,if_neg aL]at a
   all_goals
    go_wp2_with (go_at_call 102;refine rR (O4 ⟨(k:Int),z,A,x,y⟩) λw3 bm=>?_)
    replace d:=An d bm;clear bm
   rotate_left
   go_ret;exact⟨Bm a.out.symm,An n d⟩
  case' false =>
   rw[Bool.false_and,if_neg aL]at a
   go_wp2_with fail
  all_goals
   clear a1 a2 a3 a4 a5 b1 b2 b3 b4 b5 b6 e1 e2 e3 e4 e5 e6;go_loopw [99] (λi wx=>∃j:Nat,j<=X/\i=j/\Hid (J3 S r t j=0)/\Be w2 wx) λi _=>X-(intOf i).toNat
   case atStart=>exact⟨0,aB,rfl,Ar rfl,d⟩
   clear d;obtain⟨j,hj,rfl,H,d⟩:=hrel;by_cases u:j<X
   .obtain⟨bb,ob,rfl,R,d1,d2,d3,d4,d5⟩:=(B.keep d).at_ u;have c4:=F9 S (pt t j);have c:=Ar (show J3 S r t (j+1)=if (Br S (pt t j)).1≠0 then (Br S (pt t j)).1 else if (Gm (Br S (pt t j)).2 r).2≠0 then (Gm (Br S (pt t j)).2 r).2 else if (Gm (Br S (pt t j)).2 r).1 then 14 else 0 by rw[J3,if_neg (by rw[H.out];simp)]);let⟨qq,V⟩:=gN (Br S (pt t j))
    rw[V]at c4 c;have N:=Ar V;clear V;obtain⟨q1,q⟩:=qq;dsimp only at c4 c;let⟨pq,c3⟩:=gN (pt t j)
    rw[c3]at d1 d2 d3 d4 d5 N;clear c3;obtain⟨cb,b0,ca,x2,y2⟩:=pq;dsimp only at d1 d2 d3 d4 d5;by_cases D:q1=0
    .subst D;rw[if_neg aL]at c;by_cases g:(Gm q r).2=0
     case' neg =>
      have qo:((Gm q r).2 != 0)=true:=by simpa using g
      rw[if_pos g]at c;rw[B.1,Dt c.out g u]at a;clear g
     case' pos =>
      rw[if_neg (by rw[g];simp)] at c;by_cases o:(Gm q r).1=true
      case' pos =>
       rw[if_pos o]at c;rw[B.1,Dt c.out aK u]at a
      case' neg =>
       rw[if_neg o]at c;have o:(Gm q r).1=false:=by simpa using o
     all_goals go_wp2_with (first|(go_at_call 17;refine aF (Cf S ⟨cb,b0,ca,x2,y2⟩ (bl.keep (Ao d))) λw5 v5 U C=>?_;rw[N.out]at U ⊢;obtain⟨A5,c5,rfl,ew,eo,-,-⟩:=OwS.els U)|(go_at_call 103;refine rR (Fu q r aK aK ew bt eo (Q.keep (An (Ao d) C))) λw6 bp=>?_))
     all_goals first
      | (go_ret;exact⟨Bm a.out.symm,An n (An (An (Ao d) C) bp)⟩)
      | exact aE ⟨c,An (An (Ao d) C) bp⟩
    have qo:(q1 != 0)=true:=by simpa using D
    rw[if_pos D]at c;rw[B.1,Dt c.out D u]at a;clear D
    go_wp2_with (go_at_call 17;refine aF (Cf S ⟨cb,b0,ca,x2,y2⟩ (bl.keep (Ao d))) λw5 v5 U C=>?_;rw[N.out])
    go_ret;exact⟨Bm a.out.symm,An n (An (Ao d) C)⟩
   obtain rfl:X=j:=aK
   rw[B.1,H.out]at a;go_wp2;go_ret;exact⟨Bm a.out.symm,An n d⟩
 have ev:Acf Z false z A=false:=by simpa using ha
 rw[if_pos ev]at a;clear ha;go_enter func59,ntmps59
 go_wp2_with (first|(go_at_call 17;refine aF (Cf S ⟨(k:Int),z,A,x,y⟩ (P.keep v.out)) λw1 v1 g h=>?_;rw[HR.out]at g ⊢;have F:=H0.out.keep h;have G:=H1.out.keep h;let⟨a1,a2,a3,a4,a5⟩:=F.cells4;let⟨b1,b2,b3,b4,b5,b6⟩:=G.cells5;have f:=An v.out h;have e1:=Aq f Y;have e2:=Aq f g6;have e3:=Aq f g7;have e4:=Aq f g8;have e5:=Aq f g9)|(go_at_call 101;refine rR (It) λw2 l=>?_))
 go_ret;exact⟨Bm a.out.symm,An (Ao (An v.out h)) l⟩
theorem Sq{e:Option Addr}(a:Bed4)(S:List Shp)(c:List Pt5)(p:Pt5)(i:ShS w j n S)(g:PuS w e s c)(h:s<=1000000:=by omega):Calls prog 59 #[Jw a,.slice j n b,.slice e s k,L7 p] w (Bz w (Ha a S c p)):=by
 by_cases d:Gg a=true
 .rw[show Ha a S c p=3 by unfold Ha;rw[if_pos d]];exact Akj j e b k n s a S c p w d
 by_cases f:(Br S p).1=0
 .rw[show Ha a S c p=so a S c p (shp S p.sh.toNat) (Br S p).2 by unfold Ha;rw[if_neg d,if_neg (by rw[f];simp)]];exact Akh j e b k n s a S c p w h i g (by simpa using d) f
 rw[show Ha a S c p=(Br S p).1 by unfold Ha;rw[if_neg d,if_pos f]];exact Aki j e b k n s a S c p w i (by simpa using d) f
def Nc(rx c:Int)(s:Shp)(a:Bool)(b:Int)(p:Int×Int):Option (Int×Int) :=
 if s.mat then
  if Cc 1048576 s.anc then none
  else if Cc 1048576 (xk (Cd a b s.anc) p) then none
  else some (wrap64 ((J9 rx c (xk (Cd a b s.anc) p).1 (xk (Cd a b s.anc) p).2 0 0).1-(Cd a b s.anc).1),wrap64 ((J9 rx c (xk (Cd a b s.anc) p).1 (xk (Cd a b s.anc) p).2 0 0).2-(Cd a b s.anc).2))
 else some p
def Amc(o:Option (Int×Int)):Value:=.tuple #[.agg #[(o.getD (0,0)).1,(o.getD (0,0)).2],.bool o.isSome]
theorem Qt{rx:Int}(pl:LP){h:Int}{p:Bool}{t x y:Int}:Calls prog 145 #[.agg #[rx,c],.agg #[.slice j b k,q,.bool K,r,h],.agg #[.bool p,t],.agg #[x,y]] w (Bz w (Amc (Nc rx c ⟨pl,q,K,(r,h)⟩ p t (x,y)))):=by
 let⟨u,g⟩:∃u,u=(((((w.alloc (.cells #[rx,c] 31)).alloc (.cells #[.slice j b k,q,.bool K,r,h] 85)).alloc (.cells #[.bool p,t] 64)).alloc (.cells #[x,y] 65)).alloc (.cells #[.int .i64 0,.int .i64 0] 65)):=⟨_,rfl⟩
 have h0:Bf u w 31 #[rx,c]:=by rw[g];exact((((Bf.new _ _ _).alloc _).alloc _).alloc _).alloc _
 have h1:Bf u (w+1) 85 #[.slice j b k,q,.bool K,r,h]:=by rw[g];exact(((Bf.new2 _ _ _ _).alloc _).alloc _).alloc _
 have h2:Bf u (w+1+1) 64 #[.bool p,t]:=by rw[g];exact((Bf.new3 _ _ _ _ _).alloc _).alloc _
 have h3:Bf u (w+1+1+1) 65 #[x,y]:=by
  rw[g];have:=(Bf.new (((w.alloc (.cells #[rx,c] 31)).alloc (.cells #[.slice j b k,q,.bool K,r,h] 85)).alloc (.cells #[.bool p,t] 64)) 65 #[x,y]).alloc (.cells #[.int .i64 0,.int .i64 0] 65);simpa using this
 have h4:Bf u (w+1+1+1+1) 65 #[.int .i64 0,.int .i64 0]:=by
  rw[g];have:=Bf.new ((((w.alloc (.cells #[rx,c] 31)).alloc (.cells #[.slice j b k,q,.bool K,r,h] 85)).alloc (.cells #[.bool p,t] 64)).alloc (.cells #[x,y] 65)) 65 #[.int .i64 0,.int .i64 0];simpa using this
 have M:Be w u:=by rw[g];exact(Ao (Ao (Ao (Ao (Ao (aV _ _))))))
 have H0:=Ar h0;have H1:=Ar h1;have H2:=Ar h2;have H3:=Ar h3;have N:=Ar h4;have z:=Ar M;subst g;clear h0 h1 h2 h3 h4 M;cases K with
 | false =>
   go_enter func145,ntmps145;go_wp2_with fail;exact cB (v:=.tuple #[.agg #[x,y],.bool true]) (by simp[results,results145,go_sem]) rfl ⟨rfl,(Ao (Ao (Ao (Ao (Ao (aV _ _))))))⟩
 | true =>
   by_cases R:Cc 1048576 (r,h)=true
   .have A:=Ar (show Nc rx c ⟨pl,q,true,(r,h)⟩ p t (x,y)=none by unfold Nc;dsimp only;rw[if_pos rfl,if_pos R]);go_enter func145,ntmps145
    go_wp2_with (go_at_call 208;refine rR (G5) λw1 a=>?_;let⟨P,Q,a3,a4,a5⟩:=(N.out.keep a).pair)
    exact cB (v:=.tuple #[.agg #[.int .i64 0,.int .i64 0],.bool false]) (by simp[results,results145,go_sem,P,Q]) rfl ⟨by rw[A.out];rfl,by have i:=An z.out a;(repeat first|exact i|refine Ba ?_ (by dsimp only;omega))⟩
   have S:Cc 1048576 (r,h)=false:=by simpa using R
   clear R;let⟨T,C⟩:=gN (Cd p t (r,h))
   obtain⟨n,o⟩:=T;have L:=Ar C
   have hE:Nc rx c ⟨pl,q,true,(r,h)⟩ p t (x,y)=if Cc 1048576 (wrap64 (n+x),wrap64 (o+y))=true then none else some (wrap64 ((J9 rx c (wrap64 (n+x)) (wrap64 (o+y)) 0 0).1-n),wrap64 ((J9 rx c (wrap64 (n+x)) (wrap64 (o+y)) 0 0).2-o)):=by
    unfold Nc;dsimp only;rw[if_pos rfl,if_neg (by rw[S];simp),C];rfl
   have A:=Ar hE;clear hE C;by_cases s:Cc 1048576 (wrap64 (n+x),wrap64 (o+y))=true
   .rw[if_pos s]at A;have m:True:=trivial;go_enter func145,ntmps145
    go_wp2_with (first|(go_at_call 55;refine rR (G8) λw2 d=>?_;rw[L.out];have H:=G.keep d;have l:=I.keep d;let⟨c1,c2,c3,c4,c5⟩:=H.pair;have a8:=Bf.lt l)|(go_at_call 208;first|(have _t:=m;refine rR (G5) λw1 a=>?_;clear m;have E:=H1.out.keep a;have F:=H2.out.keep a;have G:=H3.out.keep a;have I:=N.out.keep a;let⟨P,Q,a3,a4,a5,a6⟩:=E.cells5;let⟨b1,b2,b3,b4,b5⟩:=F.pair)|(refine rR (G5) λw3 f=>?_;have J:=((l.alloc _).alloc _).keep f;let⟨m1,m2,m3,m4,m5⟩:=J.pair)))
    exact cB (v:=.tuple #[.agg #[.int .i64 0,.int .i64 0],.bool false]) (by simp[results,results145,go_sem,m1,m2]) rfl ⟨by rw[A.out];rfl,by have i:=An (Ao (Ao (An (An z.out a) d))) f;(repeat first|exact i|refine Ba ?_ (by dsimp only;omega))⟩
   have cm:Cc 1048576 (wrap64 (n+x),wrap64 (o+y))=false:=by simpa using s
   rw[if_neg s]at A;clear s;let⟨nx,D⟩:=gN (J9 rx c (wrap64 (n+x)) (wrap64 (o+y)) 0 0)
   rw[D]at A;have O:=Ar D;clear D;obtain⟨ai,ak⟩:=nx;have m:True:=trivial;go_enter func145,ntmps145
   go_wp2_with (first|(go_at_call 55;refine rR (G8) λw2 d=>?_;rw[L.out];have H:=G.keep d;have l:=I.keep d;have V:=U.keep d;let⟨c1,c2,c3,c4,c5⟩:=H.pair;have a8:=Bf.lt l)|(go_at_call 209;refine rR (ke) λw4 B=>?_;rw[O.out];have X:=J.keep B;have Z:=Y.keep B;let⟨s1,s2,s3,s4,s5⟩:=X.pair;let⟨t1,t2,t3,t4,t5⟩:=Z.pair)|(go_at_call 208;first|(have _t:=m;refine rR (G5) λw1 a=>?_;clear m;have E:=H1.out.keep a;have F:=H2.out.keep a;have G:=H3.out.keep a;have I:=N.out.keep a;have U:=H0.out.keep a;let⟨P,Q,a3,a4,a5,a6⟩:=E.cells5;let⟨b1,b2,b3,b4,b5⟩:=F.pair)|(refine rR (G5) λw3 f=>?_;have J:=((l.alloc _).alloc _).keep f;have W:=((V.alloc _).alloc _).keep f;have Y:=Bf.keep ((Bf.new w2 65 #[n,o]).alloc _) f;have a7:=Bf.keep (Bf.new2 w2 _ 65 #[(wrap64 (n+x)),(wrap64 (o+y))]) f;let⟨m1,m2,m3,m4,m5⟩:=W.pair;let⟨n1,n2,n3,n4,n5⟩:=a7.pair)))
   exact cB (v:=.tuple #[.agg #[(wrap64 (ai-n)),(wrap64 (ak-o))],.bool true]) (by simp[results,results145,go_sem,s1,s2,s5]) rfl ⟨by rw[A.out];rfl,by have i:=An (An (Ao (Ao (An (An z.out a) d))) f) B;(repeat first|exact i|refine Ao ?_|refine Ba ?_ (by dsimp only;omega))⟩
section
open Go.RowKit Go.Maps
section
variable {α : Type} [DecidableEq α]
def uniq:List α->List α
 | []=>[]
 | x::l=>if x∈l then uniq l else x::uniq l
theorem Sa{l:List α}{x:α}:x∈uniq l↔x∈l:=by
 induction l with
 | nil=>simp[uniq]
 | cons a l ih =>
   unfold uniq;split
   ·rename_i h
    rw[ih];constructor
    ·exact fun h=>List.mem_cons_of_mem _ h
    ·intro h';rcases bO.1 h' with rfl|h'
     ·exact h
     ·exact h'
   ·rw[bO,bO,ih]
theorem eh{l:List α}:(uniq l).Nodup:=by
 induction l with
 | nil=>exact List.nodup_nil
 | cons a l ih =>
   unfold uniq;split
   ·exact ih
   ·rename_i h
    rw[List.nodup_cons];exact⟨fun h'=>h (Sa.1 h'),ih⟩
theorem Wd{l m:List α}(hl:l.Nodup)(hm:m.Nodup)(h:∀x,x∈l↔x∈m):l.Perm m:=by
 induction l generalizing m with
 | nil =>
   have:m=[]:=by
    cases m with
    | nil=>rfl
    | cons a m=>exact absurd ((h a).2 aL) aL
   rw[this]
 | cons a l ih =>
   have ha:a∈m:=(h a).1 aL
   rw[List.nodup_cons] at hl;refine(List.Perm.cons a (ih hl.2 (hm.erase a) fun x=>?_)).trans (List.perm_cons_erase ha).symm
   rw[hm.mem_erase_iff];constructor
   ·intro hx
    exact⟨fun e=>hl.1 (e ▸ hx),(h x).1 (List.mem_cons_of_mem _ hx)⟩
   ·rintro⟨h1,h2⟩
    rcases bO.1 ((h x).2 h2) with e|h'
    ·exact absurd e h1
    ·exact h'
end
theorem ah(h:e.Perm t):Ez e=Ez t:=by
 unfold Ez;refine List.Perm.eq_of_pairwise (le:=λx y=>(!ltOf H6 y x)=true) ?_ ?_ ?_ ((List.mergeSort_perm _ _).trans (h.trans (List.mergeSort_perm _ _).symm))
 .intro a b _ _ d f;exact Aij a b (by simpa using f) (by simpa using d)
 all_goals
  exact List.pairwise_mergeSort (λa b c d f=>by
   have:=Ano.ntrans c b a (by simpa using f) (by simpa using d);simpa using this) (λa b=>by
   rw[ltS,ltS];unfold G0;simp;omega) _
def Rs(a:List LP):LP:=Ez ((uniq a.flatten).filter λp=>!Cs a p)
def Eh(a b:LP):Int×LP:=if (Cl a b).1≠0 then ((Cl a b).1,[]) else (0,Rs (Cl a b).2)
theorem Ag9:∀p∈(Nz e t).2,Cc 4194304 p=false:=by
 unfold Nz;split
 .simp
 split
 .simp
 split
 .simp
 split
 .simp
 rename_i h _;intro p b;obtain⟨i,a,rfl⟩:=rk b;cases ho:Cc 4194304 (gt ((G2 (Gw (Dr e).2 (Dr t).2 (Dr e).2.length)).getD []) i) with
 | false=>rfl
 | true=>exact absurd (Bp.iff.2 ⟨i,a,ho⟩) h
theorem zc{b:List LP}(h:∀t∈b,∀p∈t,Cc 4194304 p=false):∀j,∀t∈(Gk e i b j).2,∀p∈t,Cc 4194304 p=false:=by
 intro j;induction j with
 | zero=>exact h
 | succ j ih =>
   rw[Gk];split
   .exact ih
   split
   .simp
   intro t a;rcases bD.1 a with a|a
   .exact ih t a
   simp at a;subst a;exact Ag9
theorem y8{ss ts:List LP}:∀k,∀t∈(Df ss ts k).2,∀p∈t,Cc 4194304 p=false:=by
 intro k;induction k with
 | zero=>simp[Df]
 | succ k ih =>
   rw[Df];split
   .exact ih
   exact zc ih _
theorem Abo{b:Type}{c:b->b->Bool}{l:List b}{d:b}:∀(k:Nat),k<=l.length->∀x∈Lr c l d k,x∈l:=by
 intro k;induction k with
 | zero=>simp[Lr]
 | succ k ih =>
   intro e x a;rw[Lr]at a;split at a
   .exact ih aK x a
   rcases bD.1 a with a|a
   .exact ih aK x a
   simp at a;subst a;simp[show k<l.length by omega]
theorem ue{a:Type}{b:a->a->Bool}{l:List a}{d x:a}(h:x∈Eg b d l):x∈l:=Abo l.length aA x h
theorem Oj(a b:LP):(Cl a b).2.length<=1681/\∀t∈(Cl a b).2,t.length<=160/\∀p∈t,Cc 4194304 p=false:=by
 unfold Cl;split
 .simp
 split
 .simp
 split
 .simp
 have c:=Kh (ss:=(Bb a).2) (ts:=(Bb b).2) (Bb a).2.length;have d:=y8 (ss:=(Bb a).2) (ts:=(Bb b).2) (Bb a).2.length;refine⟨?_,λt e=>?_⟩
 .refine bB (Su) ?_;rw[Lx];exact bB c.1 (bB (cJ (Dg a).1 (Dg b).1) aK)
 have:=Qs.1 (ue e);exact⟨c.2 t this,d t this⟩
theorem Q4(h:Cc 4194304 p=false):okS p:=by
 unfold Cc at h;simp at h;unfold okS inR;omega
theorem r9(h:b<i.length):(i.take (b+1)).flatten=(i.take b).flatten++lt_ i b:=by
 rw[cG h,List.flatten_append];simp[lt_,h]
theorem Ya(c:Be a w)(d:w.grownBy o (some b))(h:a.heap.size<=b):Be a o:=dS c d c.size λk e=>by cases e;exact h
theorem Qb:∀w,(zeroValue 4).run prog w=.ok (.bool false) w:=λ_=>by kernel_rfl
theorem OwG.notMap{c:Type}{a:c->List Value}{l:List c}(h:OwG f b a w k g l)(o:∀e t j,w.heap[n]? ≠ some (.cells e t j)):g.ownBlock≠some n:=by
 rcases h.2 with⟨rfl,_⟩|⟨m,d,i,rfl,_,p,_⟩
 .simp[Value.ownBlock]
 intro f;have:m=n:=by simpa[Value.ownBlock] using f
 subst this;exact o _ _ _ p
theorem Py.noCells{i:Type}{P:Program}{e:TypeId}{ok:i->Prop}{o:i->Lit}{S L:List i}(h:Py P f e ok o w b k n S L s):(∀a t c,w.heap[b]? ≠ some (.cells a t c))/\(∀a t c,w.heap[k]? ≠ some (.cells a t c))/\b<w.heap.size/\k<w.heap.size:=by
 obtain⟨D,left,⟨q,d,g,m,p,j,_,_,_,l,_⟩,_⟩:=h;refine⟨?_,?_,D9 j,D9 l⟩
 .intro a t c h;rw[j]at h;cases h
 intro a t c h;rw[l]at h;cases h
theorem Py.small{d:Type}{P:Program}{e:TypeId}{ok:d->Prop}{l:d->Lit}{S L:List d}(h:Py P f e ok l w b k n S L s):s<=n:=by
 obtain⟨D,left,⟨o,a,c,g,m,p,_,i,_,_,_,j,_⟩,_⟩:=h;rw[<-j];refine bB ?_ i;unfold leftOf;exact Array.size_filter_le
theorem Ago:∀args w,(callFunc 264 args).run prog w=.ok (.enter 264 args) w:=by
 intro args w
 kernel_rfl
theorem To{B:Option Addr}(a D:LP)(bc:n<=b)(bd:nb<=k)(c5:SpS w j n a)(c6:SpS w B nb D)(bs:n<=9223372036854775807:=by omega)(bt:nb<=9223372036854775807:=by omega):Calls prog 207 #[.slice j n b,.slice B nb k] w (Xh w (Eh a D)):=by
 by_cases h1:(Cl a D).1=0
 .have F:=Oj a D;let⟨d,N⟩:=gN ((Cl a D).2)
  have hW:=Ar (show Eh a D=(0,Rs d) by unfold Eh;rw[if_neg (by simpa using h1),N]);rw[N]at F;have cf:=Ar N;have dy:=F.1;have cd:=Ar F.2;have P:=Ar (show ∀t∈d,t.length<=1000000 from λt ht=>bB (F.2 t ht).1 aK);clear N F;have db:=@run_makeMap prog;go_in
  go_upto_region 5 with (go_at_call 262;refine aF (Oi a D bs bt bc bd c5 c6) λh v1 M K=>?_;rw[cf.out]at M)
  clear db;obtain⟨A1,c1,rfl,cw,J,-⟩:=M.spss;generalize c0:d.length=nr at J cw dy ⊢;have X:=Ar c0;clear c0 M;let⟨O,a6⟩:∃O,O=h.heap.size:=⟨_,rfl⟩
  have bq:Dd prog 65 4 okS klS (h.alloc (.map #[] 0)) O 0 []:=by rw[a6];exact Dd.made h
  have b8:h.heap.size<=O:=aK
  rw[<-a6];have b5:=Ar bq;have b3:=Ar (Ao (aV h h) (o:=.map #[] 0));clear bq a6;go_wp2;go_loopw [27] (λi wr=>∃f:Nat,f<=nr/\i=f/\Dd prog 65 4 okS klS wr O (f*160) (d.take f).flatten/\Be h wr) λi _=>nr-(intOf i).toNat
  case atStart=>exact⟨0,aB,rfl,b5.out.mono aB,b3.out⟩
  clear b5 b3;obtain⟨f,hk,rfl,U,u⟩:=hrel;by_cases au:f<nr
  .obtain⟨b1,o1,Ak,ck,rfl,cu,e1,e2,e3,e4⟩:=J.at_ au;have HT:=Ar (cd.out _ (I9 (ls:=d) (k:=f) (by rw[X.out];exact au)));have l1:(lt_ d f).length<=160:=HT.out.1;generalize bx:(lt_ d f).length=nk at e1 e2 e3 l1;have b6:=Ar bx;clear bx;have cj:=Aq u e1;clear e1 cu;go_wp2;clear cj;obtain⟨wo,rfl⟩:∃wo:World,wo=wr:=⟨_,rfl⟩
   go_loopw [33] (λi W=>∃m:Nat,m<=nk/\i=m/\Dd prog 65 4 okS klS W O (f*160+m) ((d.take f).flatten++(lt_ d f).take m)/\Be h W) λi _=>nk-(intOf i).toNat
   case atStart=>exact⟨0,aB,rfl,by rw[List.take_zero,eM];exact U,u⟩
   clear U u;obtain⟨m,hj,rfl,U,r⟩:=hrel;by_cases ak:m<nk
   .obtain⟨b2,o2,rfl,ew,hc⟩:=(e3.keep r).at_ ak;let⟨d1,d2⟩:=hc m ak;clear hc;have ai:m<(lt_ d f).length:=by rw[b6.out];exact ak
    have dx:okS (gt (lt_ d f) m):=Q4 (HT.out.2 _ (List.mem_of_getElem? (G3 ai)));have HE:=Ar (show (d.take f).flatten++(lt_ d f).take (m+1)=(d.take f).flatten++(lt_ d f).take m++[gt (lt_ d f) m] by rw[List.append_assoc,cG ai];simp[gt,ai]);have da:f*160+m<maxLen:=aS
    go_wp2_with (at_mapUpdate;refine D8 218 y7 underlying218 underlying4 (U.alloc _) (hn:=da) (gt (lt_ d f) m) dx ?_;intro w5 dk cy)
    exact aE ⟨by rw[HE.out];exact dk,Ya (Ao r) cy b8⟩
   obtain rfl:nk=m:=aK
   have HE:=Ar (show (d.take (f+1)).flatten=(d.take f).flatten++(lt_ d f).take nk by rw[r9 (by rw[X.out];exact au),cW (l:=lt_ d f) (by rw[b6.out];exact aA)]);go_wp2;exact aE ⟨by rw[HE.out];exact U.mono aK,r⟩
  obtain rfl:nr=f:=aK
  rw[cW (by rw[X.out];exact aA)] at U;obtain⟨wo,rfl⟩:∃wo:World,wo=wr:=⟨_,rfl⟩
  go_wp2_with (at_range;refine N0 rfl 218 rfl y7 underlying218 rfl U ?_;intro w6 R s y e0)
  let⟨BI,Z⟩:∃BI,BI=wo.heap.size:=⟨_,rfl⟩
  rw[<-Z]at s ⊢;have ba:Be h w6:=An u ⟨y.os,y.tape,y.output,y.size,λf hk=>y.block f hk aL⟩;have b7:h.heap.size<=BI:=by rw[Z];exact u.size
  have gw:=s.small;clear y e0 u U Z
  go_frame
  go_loopw [13] (λv W=>∃(L:LP) (Y:Nat),Py prog 65 4 okS klS W O BI (nr*160) d.flatten L Y/\L.length+Y<=R/\OwS W h v (L.filter λp=>!Cs d p)/\Be h W) λ_ W=>W.rangeLeft O BI
  case atStart=>exact⟨[],R,s,aL,OwG.nil,ba⟩
  clear s ba;obtain⟨L,Y,I,fa,ho,r⟩:=hrel
  go_wp2_with (at_next;refine Qc rfl rfl y7 Aan underlying4 rfl I ?_ ?_)
  .intro a8;obtain⟨D',e8,-,-,bu,-,-,-,-⟩:=I;have hP:(L.filter λp=>!Cs d p).Perm ((uniq d.flatten).filter λp=>!Cs d p):=(Wd bu (eh) λx=>by obtain⟨x1,x2⟩:=x;rw[Sa];have:=a8.out x1 x2;simpa using this.symm).filter _;have hE:Ez (L.filter λp=>!Cs d p)=Rs d:=ah hP;have HE:=Ar hE;have bp:(L.filter λp=>!Cs d p).length<=L.length:=List.length_filter_le _ _;clear hP hE bu
   go_wp2_with (go_at_call 147;refine rR (Xz Ago (λ_ _ _ _ _=>Ox _ _ _ _ _) _ h (L.filter λp=>!Cs d p) aK ho) λw8⟨z,cz⟩=>?_;rw[HE.out]at z)
   go_ret2
   exact⟨_,by rw[hW.out];rfl,by rw[hW.out];exact OwG.lower z K.size,An K (Bk r ho cz)⟩
  intro q;obtain⟨⟨A,C⟩,c,w7,S,e7,e6,V,T,ad,e5,bl⟩:=q;dsimp only[Af2]at bl ⊢;have E:Be h w7:=Ya r ad b7;have G:=I.noCells;have aw:OwS w7 h u13 (L.filter λp=>!Cs d p):=OwG.kept ho ad (Or.inr (OwG.notMap ho G.2.1));have Q:=Ar V;have bp:(L.filter λp=>!Cs d p).length<=L.length:=List.length_filter_le _ _;have b9:=I.left;clear e7 e6 ad e5 V G ho I r;by_cases a7:Cs d (A,C)=true
  .have hf:=Ar (show ((L++[(A,C)]).filter λp=>!Cs d p)=L.filter λp=>!Cs d p by rw[List.filter_append];simp[a7])
   go_wp2_with (go_at_call 263;refine rR (Pw d P.out (J.keep (Ao E))) λw8 g=>?_)
   have H:=(Q.out.keep blA).keep g;exact⟨⟨L++[(A,C)],S,H,aO,by rw[hf.out];exact OwG.keep (OwG.alloc aw _) g,An (Ao E) g⟩,by rw[H.left,b9];exact T⟩
  have bb:Cs d (A,C)=false:=by simpa using a7
  clear a7;have hf:=Ar (show ((L++[(A,C)]).filter λp=>!Cs d p)=(L.filter λp=>!Cs d p)++[(A,C)] by rw[List.filter_append];simp[bb]);have cn:=Ar (Bf.new w7 65 #[A,C])
  go_wp2_with (first|(go_at_call 263;refine rR (Pw d P.out (J.keep (Ao E))) λw8 g=>?_;have k0:=cn.out.keep g;have a1:=k0.cell 0;have a2:=k0.cell 1;simp only[cA,bS,cE]at a1 a2)|(at_builtin;refine Dl rfl h (L.filter λp=>!Cs d p) (OwG.alloc (OwG.keep (OwG.alloc aw _) g) _) w8 1 (A,C) 65 (Bf.new _ _ _) aK (Ao (An (Ao E) g)).size ?_;intro v9 w9 ds bm ev))
  have H:=((Q.out.keep blA).keep g).keep (Ao bl0 (o:=.cells #[A,C] 65));have z:=OwG.alloc (OwG.keep (OwG.alloc aw (.cells #[A,C] 65)) g) (.cells #[A,C] 65);have G:=H.noCells;have c4:=H.kept bm (OwG.notMap z G.1).symm (OwG.notMap z G.2.1).symm;exact⟨⟨L++[(A,C)],S,c4,aO,by rw[hf.out];exact ds,Bk (Ao (An (Ao E) g)) z bm⟩,by rw[c4.left,b9];exact T⟩
 have hr:=Ar (show Eh a D=((Cl a D).1,[]) by unfold Eh;rw[if_pos h1]);have q2:((Cl a D).1 != 0)=true:=by simpa using h1
 go_in
 go_wp2_with (go_at_call 262;refine aF (Oi a D bs bt bc bd c5 c6) λh v1 M K=>?_)
 go_ret2
 exact⟨_,by rw[hr.out];rfl,by rw[hr.out];exact OwG.nil,K⟩
end
section
section
variable {α : Type}
def Ajy(lt:α->α->Bool)(x:α):List α->List α
 | []=>[x]
 | y::ys=>if lt y x then y::Ajy lt x ys else x::y::ys
def Mz(lt:α->α->Bool):List α->List α
 | []=>[]
 | x::xs=>Ajy lt x (Mz lt xs)
theorem Ur(lt:α->α->Bool)(x:α)(l:List α):(Ajy lt x l).Perm (x::l):=by
 induction l with
 | nil=>exact List.Perm.refl _
 | cons y ys ih =>
   unfold Ajy;split
   ·exact(List.Perm.cons y ih).trans (List.Perm.swap x y ys)
   ·exact List.Perm.refl _
theorem Wl(lt:α->α->Bool)(l:List α):(Mz lt l).Perm l:=by
 induction l with
 | nil=>exact List.Perm.refl _
 | cons x xs ih=>exact(Ur lt x _).trans (List.Perm.cons x ih)
variable {lt : α -> α -> Bool} (hi : ∀ x, lt x x = false) (ht : ∀ x y z, lt x y = true -> lt y z = true -> lt x z = true) (hu : ∀ x y, lt x y = false -> lt y x = false -> x = y)
include hi ht hu
omit hi in
theorem Un(x y z:α)(h1:(!lt y x)=true)(h2:(!lt z y)=true):(!lt z x)=true:=by
 simp only[Bool.not_eq_true'] at *
 by_cases h:lt z x=true
 ·by_cases h3:lt x y=true
  ·rw[ht z x y h h3] at h2;cases h2
  ·have:=hu x y (by simpa using h3) h1
   subst this;rw[h] at h2;cases h2
 ·simpa using h
omit hu in
theorem qi(x y:α):(!lt y x || !lt x y)=true:=by
 by_cases h:lt y x=true
 ·by_cases h2:lt x y=true
  ·have:=ht x y x h2 h;rw[hi] at this;cases this
  ·simp[h2]
 ·simp[h]
theorem Sg(l:List α):(Mz lt l).Pairwise fun x y=>(!lt y x)=true:=by
 induction l with
 | nil=>exact List.Pairwise.nil
 | cons x xs ih =>
   unfold Mz;generalize Mz lt xs=ys at ih;induction ys with
   | nil=>exact List.pairwise_singleton _ _
   | cons y ys ih2 =>
     unfold Ajy;rw[List.pairwise_cons] at ih;split
     ·rename_i hyx
      rw[List.pairwise_cons];refine⟨fun z hz=>?_,ih2 ih.2⟩
      rcases bO.1 ((Ur lt x ys).mem_iff.1 hz) with rfl|hz
      ·by_cases h:lt z y=true
       ·have:=ht z y z h hyx;rw[hi] at this;cases this
       ·simpa using h
      ·exact ih.1 z hz
     ·rename_i hyx
      rw[List.pairwise_cons];refine⟨fun z hz=>?_,List.pairwise_cons.2 ih⟩
      have hxy:(!lt y x)=true:=by simpa using hyx
      rcases bO.1 hz with rfl|hz
      ·exact hxy
      ·exact Un ht hu x y z hxy (ih.1 z hz)
theorem O0(l:List α):l.mergeSort (fun x y=>!lt y x)=Mz lt l :=
 List.Perm.eq_of_pairwise (le:=fun x y=>(!lt y x)=true) (fun x y _ _ h1 h2=>hu x y (by simpa using h2) (by simpa using h1))
  (List.pairwise_mergeSort (le:=fun x y=>!lt y x) (fun x y z=>Un ht hu x y z) (fun x y=>qi hi ht x y) l)
  (Sg hi ht hu l) ((List.mergeSort_perm _ _).trans (Wl lt l).symm)
end
def kd(l:LP):LP:=Mz G0 l
theorem Rt(l:LP):Ez l=kd l:=by
 have e:ltOf H6=G0:=by funext p q;exact ltS p q
 unfold Ez kd;have h:=O0 (lt:=ltOf H6) Ano.irrefl Ano.trans Aij l;rw[h,e]
def Adb(l:List LP):List LP:=Mz (λx y=>decide (Hm x y<0)) l
theorem kc(l:List LP):Gy l=Adb l:=O0 (lt:=ltOf Hm) (x9 id).irrefl (x9 id).trans Ann l
def Alj(p:Int×Int):Nat->LP->LP
 | 0,r=>r
 | f+1,r=>if 1<r.length/\Bs (gt r (r.length-2)) (gt r (r.length-1)) p<=0 then Alj p f (r.take (r.length-1)) else r
theorem Afe(p:Int×Int):∀(f:Nat) (r:LP),r.length<=f->Wa p r=Alj p f r:=by
 intro f;induction f with
 | zero=>intro r a;rw[Wa,if_neg aK];rfl
 | succ f ih =>
   intro r a;rw[Wa,Alj];split
   .exact ih _ (by rw[bC];omega)
   rfl
def Zy(l:LP):Nat->LP
 | 0=>[]
 | k+1=>Alj (gt l k) k (Zy l k)++[gt l k]
theorem Ab9(l:LP):∀k,Jh l k=Zy l k:=by
 intro k;induction k with
 | zero=>rfl
 | succ k ih=>rw[Jh,Zy,Afe (gt l k) k _ (Lo (l:=l) (k:=k)),ih]
def Ahr(l:LP):LP:=(Zy l l.length).dropLast
theorem uy(l:LP):Pv l=Ahr l:=by
 unfold Pv Ahr;rw[Ab9,List.dropLast_eq_take]
def Ad0(s:LP):Option LP :=
 if s.length<3 then none else if (Ahr s++Ahr s.reverse).length<3 then none else some (Ahr s++Ahr s.reverse)
def Aav(l:LP):Option LP:=Ad0 (Eg eqS (0,0) (kd l))
theorem Zb(l:LP):G2 l=Aav l:=by
 unfold G2 Aav Ad0;rw[Rt,uy,uy]
def Aco(l:LP):Int×LP :=
 if l.length > 160 then (5,[]) else if Bp (λi=>Cc 4194304 (gt l i)) l.length then (3,[]) else match Aav l with|none=>(11,[])|some r=>(0,r)
theorem Z8(l:LP):Dr l=Aco l:=by
 unfold Dr Aco;rw[Zb];rfl
def Ak2(r:LP):Int×LP :=
 if Bp (λi=>Cc 4194304 (gt r i)) r.length then (3,[]) else if r.length > 160 then (5,[]) else (0,r)
def Anh(a b:LP):Int×LP :=
 match Aco a with
 | (x,p)=>if x≠0 then (x,[]) else match Aco b with
   | (y,q)=>if y≠0 then (y,[]) else Ak2 ((Aav (Gw p q p.length)).getD [])
theorem Aha(a b:LP):Nz a b=Anh a b:=by
 unfold Nz Anh Ak2;rw[Z8,Z8,Zb]
def Yh(s:LP)(b a:List LP):Nat->Int×List LP
 | 0=>(0,a)
 | j+1=>match Yh s b a j with
   | (x,r)=>if x≠0 then (x,r) else match Anh s (Qf (lt_ b j)) with
     | (y,t)=>if y≠0 then (y,[]) else (0,r++[t])
theorem zd(s:LP)(b a:List LP):∀j,Gk s b a j=Yh s b a j:=by
 intro j;induction j with
 | zero=>rfl
 | succ j ih=>rw[Gk,Yh,ih,Aha]
def Yg(b a:List LP):Nat->Int×List LP
 | 0=>(0,[])
 | k+1=>match Yg b a k with
   | (x,r)=>if x≠0 then (x,r) else Yh (lt_ b k) a r a.length
theorem y9(a b:List LP):∀k,Df a b k=Yg a b k:=by
 intro k;induction k with
 | zero=>rfl
 | succ k ih=>rw[Df,Yg,ih,zd]
def Tz(r:Int×List LP):Int×List LP :=
 match r with
 | (x,l)=>if x≠0 then (x,[]) else (0,Eg eqL [] (Adb l))
def Rv(a b:LP):Int×List LP :=
 match Bb a with
 | (x,ss)=>if x≠0 then (x,[]) else match Bb b with
   | (y,ts)=>if y≠0 then (y,[]) else Tz (Yg ss ts ss.length)
theorem V9(a b:LP):Cl a b=Rv a b:=by
 unfold Cl Rv Tz;rw[y9,kc]
def jw(r:Int×List LP):Int×LP :=
 match r with
 | (x,l)=>if x≠0 then (x,[]) else (0,kd ((uniq l.flatten).filter λp=>!Cs l p))
def jx(a b:LP):Int×LP:=jw (Rv a b)
theorem jv(a b:LP):Eh a b=jx a b:=by
 unfold Eh jx jw Rs;rw[V9,Rt]
end
section
open Go.RowKit Go.Maps
section
variable {α : Type} [DecidableEq α]
def Bo(L xs:List α)(d:α):Nat->List α
 | 0=>L
 | k+1=>if xs.getD k d∈Bo L xs d k then Bo L xs d k else Bo L xs d k++[xs.getD k d]
def S9(L xs:List α)(d:α):List α:=Bo L xs d xs.length
theorem En(L xs:List α)(d:α)(k:Nat):(Bo L xs d k).length<=L.length+k:=by
 induction k with
 | zero=>exact aA
 | succ k ih =>
   rw[Bo];split
   ·omega
   ·rw[bA];simp;omega
theorem Y0{L xs:List α}{d x:α}(h:xs.getD k d=x)(hm:x∈Bo L xs d k):Bo L xs d (k+1)=Bo L xs d k:=by rw[Bo,h,if_pos hm]
theorem Vx{L xs:List α}{d x:α}(h:xs.getD k d=x)(hm:¬x∈Bo L xs d k):Bo L xs d (k+1)=Bo L xs d k++[x]:=by rw[Bo,h,if_neg hm]
theorem vu{L xs:List α}{d:α}(hk:k<=xs.length){x:α}(h:x∈Bo L xs d k):x∈L\/x∈xs:=by
 induction k with
 | zero=>exact .inl h
 | succ k ih =>
   rw[Bo] at h;split at h
   ·exact ih aK h
   ·rcases bD.1 h with h|h
    ·exact ih aK h
    ·simp at h;subst h;right;simp[show k<xs.length by omega]
end
theorem Ky{P:Program}{T:Array Oper}{o:Oper}{a:Act}{K:Act->World->Prop}{Q:Exit->Act->World->Prop}{E:Prop}(M:o.guard=none){s x:Operand}(t:TypeId)
 (Z:o.op=.call { callee:=.builtin .append,args:=#[s,x],argTypes:=#[t,t] })
 {U:Type} (d:U->List Value) (k:Nat) (e:TypeId) (i:TypeInfo) (z:Value) (b f:Nat) (ht:P.underlying t=some (.slice e)) (X:P.info? e=some i) (hz:i.zero=some z)
 (r:i.size=b) (L:i.bytes=f) (S:z.cells.size=b)  (A:∀x,(d x).length=b) (I:∀x,∀u∈d x,u.oneCell'=true)
 (v:Value) (l:List U) (hs:a.eval s=v) (F:OwG e b d w k v l)
 (G c:Nat) (p:U) (tb:TypeId) (hx:a.eval x=.slice (some ⟨G,0,none⟩) 1 c) (D:Bf w G tb (d p).toArray)
    (H:Nat) 
 (h:∀g m y,OwG e b d y k (.slice (some ⟨g,0,none⟩) (l.length+1) m) (l++[p])->w.grownBy y v.ownBlock->(v.ownBlock=some g\/g=H)->g<y.heap.size->K (a.put o.dst (.slice (some ⟨g,0,none⟩) (l.length+1) m)) y)  (R:0<b:=by omega) (C:l.length+1<=maxLen:=by unfold maxLen;omega) (n:(l.length+1)*f<=140737488355328:=by omega) (q:k<=w.heap.size:=by simp;omega) (V:w.heap.size=H:=by simp) :
 if Region.wanted o (yielded T a.tmps)=true then Oper.wp P o a w K Q else E:=by
 refine step_append_lies (P:=P) w M s x t Z k e i z b f ht X hz r L S R v l.length (l.flatMap d) hs F ⟨G,0,none⟩ 1 c (d p) hx (by rw[A];omega) ?_ (I p) (by omega) C n q H V ?_
 .intro j u Y;exact eI (w:=w) (B:=G) (cs:=(d p).toArray) (t:=tb) (fr:=(0,0)) D j u (by simpa using Y)
 intro g m y O W J N;refine h g m y ?_ W J N;unfold OwG;rw[bA,dH];simpa using O
section
variable {α : Type} {tb te : TypeId} {sz : Nat} {enc : α -> List Value} {ok : α -> Prop} {kl : α -> Lit}
def Aya(tb te:TypeId)(sz:Nat)(enc:α->List Value)(ok:α->Prop)(kl:α->Lit)(w:World)(B hi:Nat)(L:List α):Prop :=
 ∃mv sv,Bf w B tb #[mv,sv]/\OwG te sz enc w B sv L/\((mv=.map none/\L=[])\/∃bm,mv=.map (some bm)/\B<bm/\bm<hi/\Dd prog te 4 ok kl w bm L.length L)/\(∀k,sv.ownBlock=some k->B<k/\k<hi)/\B<hi
theorem Aya.keep{B hi:Nat}{L:List α}(h:Aya tb te sz enc ok kl w B hi L)(hb:Below w w w'):Aya tb te sz enc ok kl w' B hi L:=by
 obtain⟨mv,sv,h1,h2,h3,h4,h5⟩:=h;refine⟨mv,sv,h1.keep hb,h2.keep hb,?_,h4,h5⟩;rcases h3 with h3|⟨bm,e1,e2,e3,e4⟩
 ·exact .inl h3
 ·exact .inr ⟨bm,e1,e2,e3,e4.keep hb⟩
theorem Aya.mono{B hi hi':Nat}{L:List α}(h:Aya tb te sz enc ok kl w B hi L)(hh:hi<=hi'):Aya tb te sz enc ok kl w B hi' L:=by
 obtain⟨mv,sv,h1,h2,h3,h4,h5⟩:=h;refine⟨mv,sv,h1,h2,?_,fun k hk=>⟨(h4 k hk).1,aZ (h4 k hk).2 hh⟩,aK⟩
 rcases h3 with h3|⟨bm,e1,e2,e3,e4⟩
 ·exact .inl h3
 ·exact .inr ⟨bm,e1,e2,aK,e4⟩
theorem Aya.new(w:World):Aya tb te sz enc ok kl (w.alloc (.cells #[.map none,.slice none 0 0] tb)) w (w+1) []:=⟨_,_,Bf.new _ _ _,OwG.nil,.inl ⟨rfl,rfl⟩,(fun k hk=>by cases hk),aK⟩
theorem Jx(h:Below B a w):Below B a w.drew:=⟨h.os,h.tape,h.output,h.size,h.block⟩
theorem Gc(h:Below B a w)(n:Nat):Below B a (w.drewN n):=⟨h.os,h.tape,h.output,h.size,h.block⟩
def AvG(tb:TypeId)(w:World)(B s:Nat):Prop:=s<w.heap.size/\s≠B/\∀mv sv,Bf w B tb #[mv,sv]->sv.ownBlock≠some s/\mv≠.map (some s)
theorem avG{mw sw:Value}(h1:Bf w B tb #[mw,sw])(h2:sw.ownBlock≠some s)(h3:mw≠.map (some s)):∀mv sv,Bf w B tb #[mv,sv]->sv.ownBlock≠some s/\mv≠.map (some s):=by
 intro mv sv h;unfold Bf at h h1;rw[h1] at h;simp at h;obtain⟨rfl,rfl⟩:=h;exact⟨h2,h3⟩
theorem Aya.av{B hi s:Nat}{L:List α}(h:Aya tb te sz enc ok kl w B hi L)(hs:hi<=s)(hs2:s<w.heap.size):AvG tb w B s:=by
 obtain⟨mv,sv,h1,h2,h3,h4,h5⟩:=h;refine⟨hs2,aK,avG h1 (fun e=>by have:=(h4 s e).2;omega) ?_⟩
 rcases h3 with ⟨rfl,_⟩|⟨bm,rfl,_,e3,_⟩
 ·simp
 ·simp;omega
theorem AvG.keep(h:AvG tb w B s)(hB:B<w.heap.size)(hb:Below w w w'):AvG tb w' B s:=⟨aZ h.1 hb.size,h.2.1,fun mv sv h'=>h.2.2 mv sv ((hb.block B hB).symm.trans h')⟩
def pj(tb te:TypeId)(sz:Nat)(enc:α->List Value)(ok:α->Prop)(kl:α->Lit)(wq:World)(B s:Nat)(L:List α)(e:Ending)(w':World):Prop:=e=.returned (.tuple #[])/\Aya tb te sz enc ok kl w' B w' L/\Below B wq w'/\wq.heap.size<=w'.heap.size/\w'.heap[s]? = wq.heap[s]? /\ AvG tb w' B s
def BgG(tb te:TypeId)(sz:Nat)(enc:α->List Value)(ok:α->Prop)(kl:α->Lit)(w X:World)(B bm bx s:Nat)(T xs:List α):Prop :=
 s<w.heap.size/\∃sv,Bf X B tb #[.map (some bm),sv]/\OwG te sz enc X B sv T/\Dd prog te 4 ok kl X bm T.length T/\(∀k,sv.ownBlock=some k->B<k/\k≠bx)/\Bf X bx te (xs.flatMap enc).toArray/\Below B w X/\w.heap.size<=X.heap.size/\Hid (X.heap[s]? = w.heap[s]?)/\sv.ownBlock≠some s
theorem BgG.keep{w X X':World}{B bm bx s:Nat}{T xs:List α}(h:BgG tb te sz enc ok kl w X B bm bx s T xs)(hb:Be X X'):BgG tb te sz enc ok kl w X' B bm bx s T xs:=by
 obtain⟨hs,sv,f1,f2,f3,f4,f5,f6,f7,f8,f9⟩:=h;exact⟨hs,sv,f1.keep hb,OwG.keep f2 hb,f3.keep hb,f4,f5.keep hb,f6.trans (hb.mono (cX f1.lt)),bB f7 hb.size,bF ((hb.block s aK).trans f8.out),f9⟩
theorem dc{B bm bx gg cap s:Nat}{x:α}{T xs:List α}{w wu wv:World}{o:Obj}(hsl:s<w.heap.size)
 (f1v:Bf wv B tb #[.map (some bm),sv]) (f2u:OwG te sz enc wu B sv T) (gu:Dd prog te 4 ok kl wu bm (T.length+1) (T++[x])) (f4:∀k,sv.ownBlock=some k->B<k/\k≠bx)
 (f5u:Bf wu bx te (xs.flatMap enc).toArray) (f6u:Below B w wu) (f7u:w.heap.size<=wu.heap.size) (hov:OwG te sz enc wv B (.slice (some ⟨gg,0,none⟩) (T.length+1) cap) (T++[x]))
 (hgv:(wu.alloc o).drew.grownBy wv sv.ownBlock) (hat:sv.ownBlock=some gg\/gg=wu.heap.size+1) (hBm:B<bm) (hsB:s≠B) (f8u:wu.heap[s]? = w.heap[s]?) (f9:sv.ownBlock≠some s)  (hT:te≠tb:=by decide) :
 BgG tb te sz enc ok kl w (wv.setCell ⟨B,1,none⟩ (.slice (some ⟨gg,0,none⟩) (T.length+1) cap)) B bm bx s (T++[x]) xs:=by
 have hmap:∀cs t fr,wu.heap[bm]? ≠ some (.cells cs t fr):=fun cs t fr h=>by obtain⟨es,cc,hq⟩:=gu.isMap;rw[hq] at h;cases h
 have hbmu:=gu.lt;have hbxu:=f5u.lt
 have hgg:B<gg/\gg≠bx:=by
  rcases hat with h|h
  ·exact f4 gg h
  ·omega
 have hblk:(Value.slice (some ⟨gg,0,none⟩) (T.length+1) cap).ownBlock=some gg:=rfl
 have hxB:bx≠B:=by
  intro e;subst e;have h1:=(hgv.block bx (by simp;omega) (by intro e2;exact(f4 bx e2.symm).2 rfl))
  have h2:=f5u.alloc o;unfold Bf at h2 f1v;rw[f1v] at h1;have h3:(wu.alloc o).drew.heap[bx]? = some (.cells (xs.flatMap enc).toArray te (0,0)):=h2;rw[h3] at h1;injection h1 with h1
  injection h1 with _ h1
  exact absurd h1.symm hT
 refine⟨hsl,.slice (some ⟨gg,0,none⟩) (T.length+1) cap,f1v.set_ 1 _,OwG.far hov (by rw[hblk];intro e;injection e with e;exact absurd e (Nat.ne_of_gt hgg.1)) _,?_,?_,?_,?_,?_,?_,?_⟩
 ·rw[bA]
  exact((gu.alloc o).keep (Aw (aV _ _))).kept hgv (OwG.notMap f2u hmap).symm |>.kept (row:=some B) ⟨rfl,rfl,rfl,by simp[World.setCell],fun j _ hne=>dN _ _ _ j (fun e=>hne (by rw[e]))⟩ (by intro e;injection e with e;omega)
 ·intro j hj
  rw[hblk] at hj;injection hj with hj
  subst hj;exact hgg
 ·exact(Bf.grown ((f5u.alloc o).drew) hgv (by intro e;exact(f4 bx e.symm).2 rfl)).far hxB _
 ·refine cO (dS (Jx (fJ f6u (by omega) o)) hgv (by simp;omega) (fun j hj=>cX (f4 j hj).1)) aA _
 ·have:=hgv.size
  simp[World.setCell] at this ⊢;omega
 ·refine bF ((dN wv _ _ s (by exact hsB)).trans ((hgv.block s (by simp;omega) (fun e=>f9 e.symm)).trans ((gO wu o s (by omega)).trans f8u)))
 ·rw[hblk];intro e;injection e with e
  rcases hat with h|h
  ·exact f9 (by rw[h,e])
  ·omega
end
abbrev Z9:=Aya 220 65 2 enS okS klS
theorem Z9.new(w:World):Z9 (w.alloc (.cells #[.map none,.slice none 0 0] 220)) w (w+1) []:=Aya.new w
abbrev AvS:=AvG 220
abbrev Aqo:=pj 220 65 2 enS okS klS
abbrev BgS:=BgG 220 65 2 enS okS klS
theorem Ta(B hi g n c:Nat)(L d:List (Int×Int))(hL:L.length<=1000000000000)(hX:Bf w g 65 (d.flatMap enS).toArray)(cd:hi<=g)(b8:∀x∈d,okS x)(hB:Z9 w B hi L)(s:Nat)(F:AvS w B s)(hn:d.length=n:=by rfl)(ev:n<=1000:=by omega):Calls prog 146 #[.pointer (some ⟨B,0,none⟩),.slice (some ⟨g,0,none⟩) n c] w (Aqo w B s (S9 L d (0,0))):=by
 have hz:=Qb;have HN:=Ar hn;have bu:=Ar b8;have HW:=Ar (show S9 L d (0,0)=Bo L d (0,0) n by unfold S9;rw[hn]);clear hn b8;obtain⟨mv,z,k1,k2,k3,Y,k5⟩:=hB;have U:=F.1;have T:=F.2.1;have k9:=F.2.2 mv z k1;clear F;rcases k3 with⟨rfl,b3⟩|⟨a,rfl,E,G,k3⟩
 all_goals
  have ck:=@run_makeMap prog;have cf:=λ(w:World) (v:Option Nat)=>run_eql_map_nil (P:=prog) w 218 65 4 v underlying218
  let⟨Z,m2,m3,m4,m5⟩:=k1.pair;have A:True:=trivial
 clear A;let⟨a,G⟩:∃a,a=w.heap.size:=⟨_,rfl⟩
 have E:B<a:=aK
 have k3:s<a:=aK
 have A:=Ar b3;clear b3
 all_goals
  go_enter func146,ntmps146;go_upto_region 2 with fail;clear ck cf Z m2 m3 m4
 rw[<-G];have r:(w.setCell ⟨B,0,none⟩ (.map (some a))).heap.size=a:=by rw[G];simp[World.setCell]
 have b9:Dd prog 65 4 okS klS ((w.setCell ⟨B,0,none⟩ (.map (some a))).alloc (.map #[] 0)) a L.length L:=by
  rw[A.out];have h9:=Dd.made (P:=prog) (k:=65) (e:=4) (ok:=okS) (kl:=klS) (w.setCell ⟨B,0,none⟩ (.map (some a)));rw[r]at h9;exact h9
 have b5:g≠a:=by have:=hX.lt;omega
 have Q:=Ar r;have l:BgS w ((w.setCell ⟨B,0,none⟩ (.map (some a))).alloc (.map #[] 0)) B a g s L d:=⟨U,z,(k1.set_ 0 _).alloc _,OwG.alloc (OwG.far k2 (λe=>eH _ (Y B e).1) _) _,b9,λk m=>⟨(Y k m).1,by have:=(Y k m).2;omega⟩,(hX.far (p:=⟨B,0,none⟩) (Nat.ne_of_gt (aZ k5 cd)) _).alloc _,fJ (cO (aV _ _) aA _) (by rw[Q.out];exact cX E) _,by simp[World.setCell],Ar ((gO _ _ s (by rw[Q.out];omega)).trans (dN w ⟨B,0,none⟩ _ s T)),k9.1⟩;clear r G Q b9
 rotate_left
 have l:BgS w w B a g s L d:=⟨U,z,k1,k2,k3,λk m=>⟨(Y k m).1,by have:=(Y k m).2;omega⟩,hX,aV _ _,aA,Ar rfl,k9.1⟩;have b5:g≠a:=aK
 all_goals
  have ba:Value.map (some a)≠.map (some s):=by first|exact k9.2|(simp;omega)
  clear k1 k2 k3 Y k9 hX hz A;refine Cu (λX=>BgS w X B a g s L d) l ?_;clear l;rintro wl l;go_wp2;go_loopw [17] (λi wr=>∃k:Nat,k<=n/\i=k/\BgS w wr B a g s (Bo L d (0,0) k) d) λi _=>n-(intOf i).toNat
  case atStart=>exact⟨0,aB,rfl,l⟩
  clear l;obtain⟨k,m,rfl,l⟩:=hrel;obtain⟨-,z,C,J,D,f4,O,f6,f7,f8,f9⟩:=id l;have e3:=En L d (0,0) k;by_cases S:k<n
  .have cj:k<d.length:=by rw[HN.out];exact S
   let⟨x,hx⟩:=gN (d.getD k (0,0))
   have I:d[k]? = some x:=by rw[<-hx,List.getD,aW cj];rfl
   have M:okS x:=bu.out x (List.mem_of_getElem? I);have HX:=Ar hx;have d0:=(O.cell (k*2)).trans (by have:=Bu Cm d k 0 x I aK;simpa using this);have d1:=(O.cell (k*2+1)).trans (by have:=Bu Cm d k 1 x I aK;simpa using this);simp only[enS,bS,cE]at d0 d1;clear hx I;have bl:=O.lt;let⟨Z,m2,m3,m4,m5⟩:=C.pair;obtain⟨u,y⟩:=x;have f:∀b:Bool,((u,y)∈Bo L d (0,0) k↔b=true)->∀q,(Instr.lookup 218 (.map (some a)) (.agg #[u,y]) false).run prog ((wr.alloc (.cells #[u,y] 65)).drewN q)=.ok (.bool b) ((wr.alloc (.cells #[u,y] 65)).drewN q):=λb hb q=>(Dd.get (t:=218) y7 underlying218 underlying4 (Qb _) (D.keep (Bd (Ao bl0) q)) (x:=(u,y)) M).trans (by simp[hb])
   by_cases H:(u,y)∈Bo L d (0,0) k
   .have V:=Ar (Y0 HX.out H);replace f:=f true (iff_of_true H rfl);go_wp2;go_quiet (fail);clear f;go_wp2_with fail;exact dn S (by rw[V.out];exact l.keep (Bd blA _))
   have V:=Ar (Vx HX.out H);replace f:=f false (iff_of_false H aL)
   go_wp2
   go_quiet (fail);clear f;let⟨N,R⟩:∃N,N=wr.heap.size:=⟨_,rfl⟩
   have cb:g<N/\B<N/\a<N:=by have:=D.lt;omega
   obtain⟨dy,e0,e1⟩:=cb;have b4:∀k,z.ownBlock=some k->k<N:=λk m=>by rw[R];exact(OwG.lt J k m).2
   have W:=(Bf.new wr 65 #[u,y]).drewN nq;have b2:=l.keep (Bd (Ao bl0 (o:=.cells #[u,y] 65)) nq);clear C J D f4 O f6 f7 f8 f9;go_upto_region 6 with fail;rw[<-R]at W ⊢;refine Cu (λX=>BgS w X B a g s (Bo L d (0,0) k) d/\Bf X N 65 #[u,y]) ⟨b2,W⟩ ?_;clear b2 W l R d0 d1 Z m2 m3 m4 m5 bl b4 z;rintro wz ⟨⟨-,z,C,J,D,f4,O,f6,f7,f8,f9⟩,fx⟩;let⟨Z,m2,m3,m4,m5⟩:=C.pair;let⟨y1,y2,y3,y4,y5⟩:=fx.pair;refine Ck 5 ?_;simp only[List.take_succ_cons,List.take_zero,List.drop_succ_cons,List.drop_zero]
   repeat still_step
   refine wpStill_nil ?_
   go_wp2_with (at_mapUpdate;refine D8 218 y7 underlying218 underlying4 (D.keep (Aw (aV _ _))) (u,y) M ?_;intro wu gu K)
   have b7:z.ownBlock≠some a:=OwG.notMap J (λcs t fr h=>by let⟨es,cc,hq⟩:=D.isMap;rw[hq]at h;cases h);have ad:=Bf.grown C.drew K (by intro e;injection e with e;omega);have ak:=OwG.kept (OwG.keep J (Aw (aV _ _))) K (Or.inr b7);have c0:=Bf.grown O.drew K (by intro e;injection e with e;omega);have c9:=Bf.grown fx.drew K (by intro e;injection e with e;omega);have c3:Below B w wu:=dS (Jx f6) K (by have:=m5;simp;omega) (λj hj=>by cases hj;omega);have c4:w.heap.size<=wu.heap.size:=bB f7 K.size;have c5:=Ar ((K.block s (by show s<wz.heap.size;omega) (by intro e;injection e with e;exact ba (by rw[e]))).trans f8.out);clear C J D O fx f6 f7 f8 K b7 Z m2 m3 m4 m5 y1 y2 y3 y4 y5;let⟨Z,m2,m3,m4,m5⟩:=ad.pair;let⟨y1,y2,y3,y4,y5⟩:=c9.pair;let⟨i0,cg,cw,cx,cy⟩:=dW Si
   go_region_law ((refine Ky rfl 48 rfl enS B 65 i0 (.agg #[.int .i64 0,.int .i64 0]) 2 16 underlying48 cg cw cx cy rfl Cm Io z (Bo L d (0,0) k) rfl (OwG.keep (OwG.alloc ak _) (Aw (aV _ _))) wu 1 (u,y) 65 rfl (Bf.drew (Bf.new _ _ _)) (wu+1) ?_;intro gg ee wv cn b6 ca er;have ai:=Bf.grown ((ad.alloc _).drew) b6 (by intro e;exact eH _ (f4 _ e.symm).1);let⟨p1,p2,p3,p4,p5⟩:=ai.pair))
   all_goals go_wp2_with fail
   all_goals exact dn S (by rw[V.out];exact dc U ai ak gu f4 c0 c3 c4 cn b6 ca E T c5.out f9)
  obtain rfl:n=k:=aK
  go_wp2
  go_end0
  refine⟨rfl,⟨_,z,C,by rw[HW.out];exact J,.inr ⟨a,rfl,E,D.lt,by rw[HW.out];exact D⟩,λk m=>⟨(f4 k m).1,(OwG.lt J k m).2⟩,C.lt⟩,f6,f7,f8.out,aK,T,avG C f9 ba⟩
end
def Dk(S:List Shp)(a:List Pt5):Nat->Int×List LP
 | 0=>(0,[])
 | k+1=>if (Dk S a k).1≠0 then Dk S a k else if (Br S (pt a k)).1≠0 then ((Br S (pt a k)).1,[]) else (0,(Dk S a k).2++[(Br S (pt a k)).2])
theorem dp(a:(Dk h l b).1=x)(c:x≠0):∀m,(Dk h l (b+m)).1=x:=by
 intro m;induction m with
 | zero=>exact a
 | succ m ih=>rw[<-cQ,Dk,if_pos (by rw[ih];exact c)];exact ih
theorem Hd(S:List Shp)(b:List Pt5):∀k,(Dk S b k).2.length<=k/\∀t∈(Dk S b k).2,t.length<=40:=by
 intro k;induction k with
 | zero=>simp[Dk]
 | succ k ih =>
   rw[Dk];split
   .exact⟨aK,ih.2⟩
   split
   .simp
   refine⟨aO,λt a=>?_⟩;rcases bD.1 a with a|a
   .exact ih.2 t a
   simp at a;subst a;exact F9 _ _
def Gl(b:Bed4)(S:List Shp)(a:List Pt5)(sh:Int)(c:Bool)(d:Int):Int×LP×List LP :=
 if Gg b then (3,[],[]) else if (Br S ⟨sh,c,d,0,0⟩).1≠0 then ((Br S ⟨sh,c,d,0,0⟩).1,[],[])
 else if (Dk S a a.length).1≠0 then ((Dk S a a.length).1,[],[]) else (0,(Br S ⟨sh,c,d,0,0⟩).2,(Dk S a a.length).2)
def Xj(w:World)(r:Int×LP×List LP)(e:Ending)(a:World):Prop :=
 ∃b c,e=.returned (.tuple #[b,c,r.1])/\OwS a w b r.2.1/\Iw a w c r.2.2/\Be w a
theorem Ajc(c d:Option Addr)(e f h i:Nat)(b:Bed4)(sh:Int)(g:Bool)(j:Int)(w:World)(a:Gg b=true):Calls prog 94 #[Jw b,.slice c h e,.slice d i f,sh,.agg #[.bool g,j]] w (Xj w (3,[],[])):=by
 obtain⟨len,k,rx,l⟩:=b;unfold Jw;unfold Gg at a;simp only[Bool.or_eq_true,decide_eq_true_eq]at a;dsimp only at a ⊢;go_enter func94,ntmps94;go_upto_region 3 with fail
 all_goals first
  | (go_ret3;exact⟨_,_,rfl,OwG.nil,Iw.nil,(Ao (Ao (aV _ _)))⟩)
  | (exfalso;omega)
theorem Ajb(V W:Option Addr)(c1 c2 n1 j:Nat)(b:Bed4)(S:List Shp)(d:List Pt5)(sh:Int)(o:Bool)(p:Int)(w:World)(b4:j<=1000000)(H:ShS w V n1 S)(z:PuS w W j d)(K:Gg b=false):Calls prog 94 #[Jw b,.slice V n1 c1,.slice W j c2,sh,.agg #[.bool o,p]] w (Xj w (Gl b S d sh o p)):=by
 have f:=Ar (show Gl b S d sh o p=if (Br S ⟨sh,o,p,0,0⟩).1≠0 then ((Br S ⟨sh,o,p,0,0⟩).1,[],[]) else if (Dk S d j).1≠0 then ((Dk S d j).1,[],[]) else (0,(Br S ⟨sh,o,p,0,0⟩).2,(Dk S d j).2) by unfold Gl;rw[if_neg (by rw[K];simp),z.1]);let⟨r,P⟩:=gN (Br S ⟨sh,o,p,0,0⟩)
 rw[P]at f;have X:=Ar P;clear P;obtain⟨r1,r⟩:=r;obtain⟨len,U,rx,ry⟩:=b;unfold Gg at K;simp only[Bool.or_eq_false_iff,decide_eq_false_iff_not]at K;unfold Jw;dsimp only at f ⊢;have n:=Ar (show Be w ((w.alloc (.cells #[len,U,rx,ry] 62)).alloc (.cells #[.bool o,p] 64)) from (Ao (Ao (aV _ _))));by_cases x:r1=0
 .subst x;rw[if_neg aL]at f;go_enter func94,ntmps94
  go_wp2_with (go_at_call 17;refine aF (Cf S ⟨sh,o,p,0,0⟩ (H.keep n.out)) λI v1 t s=>?_;rw[X.out]at t ⊢)
  have l:=An n.out s;have C:=H.keep l;have J:=z.keep l;clear H z s n;go_loopw [15,51] (λv i wr=>∃k:Nat,k<=j/\i=k/\Hid ((Dk S d k).1=0)/\Iw wr I v (Dk S d k).2/\Be I wr) λ_ i _=>j-(intOf i).toNat
  case atStart=>exact⟨0,aB,rfl,Ar rfl,Iw.nil,bl0⟩
  obtain⟨k,hk,rfl,hz,N,c⟩:=hrel;by_cases M:k<j
  .obtain⟨bb,ob,rfl,b3,Y,Z,d3,d4,d5⟩:=(J.keep c).at_ M;have E:=F9 S (pt d k);have b5:=(Hd S d k).1;have a:=Ar (show Dk S d (k+1)=if (Br S (pt d k)).1≠0 then ((Br S (pt d k)).1,[]) else (0,(Dk S d k).2++[(Br S (pt d k)).2]) by rw[Dk,if_neg (by rw[hz.out];simp)]);let⟨T,A⟩:=gN (Br S (pt d k))
   rw[A]at E a;have y:=Ar A;clear A;obtain⟨R,q⟩:=T;dsimp only at E a;let⟨Q,D⟩:=gN (pt d k)
   rw[D]at Y Z d3 d4 d5 y;clear D;obtain⟨G,B,F,x2,y2⟩:=Q;dsimp only at Y Z d3 d4 d5;by_cases h:R=0
   .subst h;rw[if_neg aL]at a
    go_wp2_with (first|(go_at_call 17;refine aF (Cf S ⟨G,B,F,x2,y2⟩ (C.keep (Ao c))) λw5 v5 u g=>?_;rw[y.out]at u ⊢;obtain⟨A5,c5,rfl,-,-,-,-⟩:=OwS.els u)|(at_builtin;refine Fo rfl I (Dk S d k).2 (((N.alloc _).keep g).alloc _) w5 1 _ q 48 (Bf.new _ _ _) ((ElS.lower (OwS.els u) (Ao c).size).keep blA) (Ao (An (Ao c) g)).size ?_;intro v7 w7 O L a8))
    exact aE ⟨Ar (by rw[a.out]),by rw[a.out];exact O,G6 (Ao (An (Ao c) g)) (((N.alloc _).keep g).alloc _) L⟩
   have qo:(R != 0)=true:=by simpa using h
   rw[if_pos h]at a;have m:=dp (show (Dk S d (k+1)).1=R by rw[a.out]) h (j-(k+1));rw[show k+1+(j-(k+1))=j by omega]at m;rw[m,if_pos h]at f;clear m h
   go_wp2_with (go_at_call 17;refine aF (Cf S ⟨G,B,F,x2,y2⟩ (C.keep (Ao c))) λw5 v5 u g=>?_;rw[y.out])
   go_ret3
   exact⟨_,_,by rw[f.out];rfl,by rw[f.out];exact OwG.nil,by rw[f.out];exact Iw.nil,An l (An (Ao c) g)⟩
  obtain rfl:j=k:=aK
  rw[hz.out,if_neg aL]at f
  go_wp2
  go_ret3
  exact⟨_,_,by rw[f.out];rfl,by rw[f.out];exact OwG.keep (OwG.lower t aO) c,by rw[f.out];exact N.lower l.size,An l c⟩
 have qo:(r1 != 0)=true:=by simpa using x
 rw[if_pos x]at f;clear x;go_enter func94,ntmps94
 go_wp2_with (go_at_call 17;refine aF (Cf S ⟨sh,o,p,0,0⟩ (H.keep n.out)) λI v1 t s=>?_;rw[X.out]at t ⊢)
 go_ret3
 exact⟨_,_,by rw[f.out];rfl,by rw[f.out];exact OwG.nil,by rw[f.out];exact Iw.nil,An n.out s⟩
theorem Yk(e f:Option Addr)(i j g c:Nat)(b:Bed4)(S:List Shp)(h:List Pt5)(sh:Int)(a:Bool)(d:Int)(n:ShS w e g S)(k:PuS w f c h)(m:c<=1000000:=by omega):Calls prog 94 #[Jw b,.slice e g i,.slice f c j,sh,.agg #[.bool a,d]] w (Xj w (Gl b S h sh a d)):=by
 by_cases l:Gg b=true
 .rw[show Gl b S h sh a d=(3,[],[]) by unfold Gl;rw[if_pos l]];exact Ajc e f i j g c b sh a d w l
 exact Ajb e f i j g c b S h sh a d w m n k (by simpa using l)
section
open Go.RowKit Go.Maps
structure End6 where
 put:Pt5
 right:Int
deriving DecidableEq
def enE(e:End6):List Value:=[e.put.sh,.bool e.put.fl,e.put.qu,e.put.x,e.put.y,e.right]
theorem Ef(e:End6):(enE e).length=6:=rfl
theorem ti(e:End6):∀u∈enE e,u.oneCell'=true:=by
 intro u a;simp[enE]at a;rcases a with rfl|rfl|rfl|rfl|rfl|rfl<;>rfl
theorem Aj7:(prog.info? 164).map (λi=>(i.zero,i.size,i.bytes))=some (some (.agg #[.int .i64 0,.bool false,.int .i64 0,.int .i64 0,.int .i64 0,.int .i64 0]),6,48):=aN
def ez(e:End6):Value:=.agg #[e.put.sh,.bool e.put.fl,e.put.qu,e.put.x,e.put.y,e.right]
def okE(e:End6):Prop:=inR e.put.sh/\inR e.put.qu/\inR e.put.x/\inR e.put.y/\inR e.right
def klE(e:End6):Lit:=.string (keyBytes [.int .i64 e.put.sh,.bool e.put.fl,.int .i64 e.put.qu,.int .i64 e.put.x,.int .i64 e.put.y,.int .i64 e.right])
theorem Ahy:(match prog.underlying 164 with|some (.array _ _)|some (.struct _)=>true|_=>false)=true:=by rw[underlying164]
theorem Aot:(164:TypeId)<prog.types.size:=of_decide_eq_true aN
theorem Apd:Keyed prog 164:=Keyed.of_law (deep_law_laid (P:=prog) (k:=164) O8 (m:=4) aK Aot aN Ahy)
theorem uv:prog.cellsOf 164=6:=aN
theorem uu:prog.cellsOf 72=5:=aN
theorem Zv:prog.cellsOf 64=2:=aN
theorem cellsB:prog.cellsOf 4=1:=aN
theorem Amv:prog.keyType 164=true:=aN
theorem Af3(p:End6)(h:okE p):keyOf prog 164 (ez p)=some (klE p):=by
 obtain⟨m,f⟩:=Qm;have a:=Pe h.1;have b:=Pe h.2.1;have c:=Pe h.2.2.1;have d:=Pe h.2.2.2.1;have e:=Pe h.2.2.2.2;unfold keyOf ez klE;rw[f];simp +decide [underlying164,underlying72,underlying64,underlying65,underlying4,Amv,Value.formed,uv,uu,Zv,cellsB,Ps,Program.keyLits,underlying3,cellsI,Value.cells,a,b,c,d,e]
theorem Ahi:KeyRep prog 164 ez okE klE where
 law:=Apd
 of:=Af3
 inj x y h:=by
  obtain⟨⟨a,b,c,d,e⟩,f⟩:=x;obtain⟨⟨g,i,j,k,l⟩,m⟩:=y;unfold ez at h;injection h with h
  injection h with h
  simp at h;obtain⟨rfl,rfl,rfl,rfl,rfl,rfl⟩:=h;rfl
theorem Bf.cells6{u2 u3 u4 u5:Value}(h:Bf w b f #[g,u,u2,u3,u4,u5]):w.cell? ⟨b,0,none⟩=some g/\w.cell? ⟨b,1,none⟩=some u/\w.cell? ⟨b,2,none⟩=some u2/\w.cell? ⟨b,3,none⟩=some u3/\w.cell? ⟨b,4,none⟩=some u4/\w.cell? ⟨b,5,none⟩=some u5/\b<w.heap.size:=⟨h.cell 0,h.cell 1,h.cell 2,h.cell 3,h.cell 4,h.cell 5,h.lt⟩
abbrev xc:=Aya 154 164 6 enE okE klE
theorem xc.new(w:World):xc (w.alloc (.cells #[.map none,.slice none 0 0] 154)) w (w+1) []:=Aya.new w
abbrev AvE:=AvG 154
abbrev Aqp:=pj 154 164 6 enE okE klE
abbrev BgE:=BgG 154 164 6 enE okE klE
theorem Ack(B hi l n c:Nat)(L a:List End6)(hn:a.length=n)(gx:n<=1000)(hL:L.length<=1000000000000)(hX:Bf w l 164 (a.flatMap enE).toArray)(ck:hi<=l)(bc:∀x∈a,okE x)(hB:xc w B hi L)(s:Nat)(M:AvE w B s):Calls prog 98 #[.pointer (some ⟨B,0,none⟩),.slice (some ⟨l,0,none⟩) n c] w (Aqp w B s (S9 L a ⟨⟨0,false,0,0,0⟩,0⟩)):=by
 have hz:=Qb;have HN:=Ar hn;have c5:=Ar bc;have HW:=Ar (show S9 L a ⟨⟨0,false,0,0,0⟩,0⟩=Bo L a ⟨⟨0,false,0,0,0⟩,0⟩ n by unfold S9;rw[hn]);clear hn bc;obtain⟨mv,G,k1,k2,k3,k4,k5⟩:=hB;have Z:=M.1;have Y:=M.2.1;have k9:=M.2.2 mv G k1;clear M;rcases k3 with⟨rfl,b7⟩|⟨d,rfl,K,N,k3⟩
 all_goals
  have cw:=@run_makeMap prog;have cm:=λ(w:World) (v:Option Nat)=>run_eql_map_nil (P:=prog) w 151 164 4 v underlying151
  let⟨m1,m2,m3,m4,m5⟩:=k1.pair;have H:True:=trivial
 clear H;let⟨d,N⟩:∃d,d=w.heap.size:=⟨_,rfl⟩
 have K:B<d:=aK
 have k3:s<d:=aK
 have H:=Ar b7;clear b7
 all_goals
  go_enter func98,ntmps98;go_upto_region 2 with fail;clear cw cm m1 m2 m3 m4
 rw[<-N];have z:(w.setCell ⟨B,0,none⟩ (.map (some d))).heap.size=d:=by rw[N];simp[World.setCell]
 have bd:Dd prog 164 4 okE klE ((w.setCell ⟨B,0,none⟩ (.map (some d))).alloc (.map #[] 0)) d L.length L:=by
  rw[H.out];have h9:=Dd.made (P:=prog) (k:=164) (e:=4) (ok:=okE) (kl:=klE) (w.setCell ⟨B,0,none⟩ (.map (some d)));rw[z]at h9;exact h9
 have b9:l≠d:=by have:=hX.lt;omega
 have U:=Ar z;have u:BgE w ((w.setCell ⟨B,0,none⟩ (.map (some d))).alloc (.map #[] 0)) B d l s L a:=⟨Z,G,(k1.set_ 0 _).alloc _,OwG.alloc (OwG.far k2 (λe=>eH _ (k4 B e).1) _) _,bd,λk y=>⟨(k4 k y).1,by have:=(k4 k y).2;omega⟩,(hX.far (p:=⟨B,0,none⟩) (Nat.ne_of_gt (aZ k5 ck)) _).alloc _,fJ (cO (aV _ _) aA _) (by rw[U.out];exact cX K) _,by simp[World.setCell],Ar ((gO _ _ s (by rw[U.out];omega)).trans (dN w ⟨B,0,none⟩ _ s Y)),k9.1⟩;clear z N U bd
 rotate_left
 have u:BgE w w B d l s L a:=⟨Z,G,k1,k2,k3,λk y=>⟨(k4 k y).1,by have:=(k4 k y).2;omega⟩,hX,aV _ _,aA,Ar rfl,k9.1⟩;have b9:l≠d:=aK
 all_goals
  have bp:Value.map (some d)≠.map (some s):=by first|exact k9.2|(simp;omega)
  clear k1 k2 k3 k4 k9 hX hz H;refine Cu (λX=>BgE w X B d l s L a) u ?_;clear u;rintro wl u;go_wp2;go_loopw [17] (λi wr=>∃k:Nat,k<=n/\i=k/\BgE w wr B d l s (Bo L a ⟨⟨0,false,0,0,0⟩,0⟩ k) a) λi _=>n-(intOf i).toNat
  case atStart=>exact⟨0,aB,rfl,u⟩
  clear u;obtain⟨k,y,rfl,u⟩:=hrel;obtain⟨-,G,I,Q,J,f4,r,f6,f7,f8,f9⟩:=id u;have ee:=En L a ⟨⟨0,false,0,0,0⟩,0⟩ k;by_cases W:k<n
  .have cu:k<a.length:=by rw[HN.out];exact W
   let⟨x,hx⟩:=gN (a.getD k ⟨⟨0,false,0,0,0⟩,0⟩)
   have f:a[k]? = some x:=by rw[<-hx,List.getD,aW cu];rfl
   have S:okE x:=c5.out x (List.mem_of_getElem? f);have HX:=Ar hx;have d0:=(r.cell (k*6)).trans (by have:=Bu Ef a k 0 x f aK;simpa using this);have d1:=(r.cell (k*6+1)).trans (by have:=Bu Ef a k 1 x f aK;simpa using this);have d2:=(r.cell (k*6+2)).trans (by have:=Bu Ef a k 2 x f aK;simpa using this);have d3:=(r.cell (k*6+3)).trans (by have:=Bu Ef a k 3 x f aK;simpa using this);have d4:=(r.cell (k*6+4)).trans (by have:=Bu Ef a k 4 x f aK;simpa using this);have d5:=(r.cell (k*6+5)).trans (by have:=Bu Ef a k 5 x f aK;simpa using this);simp only[enE,bS,cE]at d0 d1 d2 d3 d4 d5;clear hx f;have bl:=r.lt;let⟨m1,m2,m3,m4,m5⟩:=I.pair;obtain⟨⟨D,m,A,E,F⟩,C⟩:=x;have g:∀b:Bool,((⟨⟨D,m,A,E,F⟩,C⟩:End6)∈Bo L a ⟨⟨0,false,0,0,0⟩,0⟩ k↔b=true)->∀q,(Instr.lookup 151 (.map (some d)) (.agg #[D,.bool m,A,E,F,C]) false).run prog ((wr.alloc (.cells #[D,.bool m,A,E,F,C] 164)).drewN q)=.ok (.bool b) ((wr.alloc (.cells #[D,.bool m,A,E,F,C] 164)).drewN q):=λb hb q=>(Dd.get (t:=151) Ahi underlying151 underlying4 (Qb _) (J.keep (Bd (Ao bl0) q)) (x:=(⟨⟨D,m,A,E,F⟩,C⟩:End6)) S).trans (by simp[hb])
   by_cases O:(⟨⟨D,m,A,E,F⟩,C⟩:End6)∈Bo L a ⟨⟨0,false,0,0,0⟩,0⟩ k
   .have a1:=Ar (Y0 HX.out O);replace g:=g true (iff_of_true O rfl);go_wp2;go_quiet (fail);clear g;go_wp2_with fail;exact dn W (by rw[a1.out];exact u.keep (Bd blA _))
   have a1:=Ar (Vx HX.out O);replace g:=g false (iff_of_false O aL)
   go_wp2
   go_quiet (fail);clear g;let⟨T,V⟩:∃T,T=wr.heap.size:=⟨_,rfl⟩
   have cj:l<T/\B<T/\d<T:=by have:=J.lt;omega
   obtain⟨e7,e8,e9⟩:=cj;have b8:∀k,G.ownBlock=some k->k<T:=λk y=>by rw[V];exact(OwG.lt Q k y).2
   have a6:=(Bf.new wr 164 #[D,.bool m,A,E,F,C]).drewN nq;have b6:=u.keep (Bd (Ao bl0 (o:=.cells #[D,.bool m,A,E,F,C] 164)) nq);clear I Q J f4 r f6 f7 f8 f9;go_upto_region 6 with fail;rw[<-V]at a6 ⊢;refine Cu (λX=>BgE w X B d l s (Bo L a ⟨⟨0,false,0,0,0⟩,0⟩ k) a/\Bf X T 164 #[D,.bool m,A,E,F,C]) ⟨b6,a6⟩ ?_;clear b6 a6 u V d0 d1 d2 d3 d4 d5 m1 m2 m3 m4 m5 bl b8 G;rintro wz ⟨⟨-,G,I,Q,J,f4,r,f6,f7,f8,f9⟩,fx⟩;let⟨m1,m2,m3,m4,m5⟩:=I.pair;let⟨z1,z2,z3,z4,z5,z6,z7⟩:=fx.cells6;refine Ck 5 ?_;simp only[List.take_succ_cons,List.take_zero,List.drop_succ_cons,List.drop_zero]
   repeat still_step
   refine wpStill_nil ?_
   go_wp2_with (at_mapUpdate;refine D8 151 Ahi underlying151 underlying4 (J.keep (Aw (aV _ _))) (⟨⟨D,m,A,E,F⟩,C⟩:End6) S ?_;intro wu gu R)
   have bb:G.ownBlock≠some d:=OwG.notMap Q (λcs t fr h=>by let⟨es,cc,hq⟩:=J.isMap;rw[hq]at h;cases h);have aw:=Bf.grown I.drew R (by intro e;injection e with e;omega);have b1:=OwG.kept (OwG.keep Q (Aw (aV _ _))) R (Or.inr bb);have c6:=Bf.grown r.drew R (by intro e;injection e with e;omega);have cf:=Bf.grown fx.drew R (by intro e;injection e with e;omega);have c9:Below B w wu:=dS (Jx f6) R (by have:=m5;simp;omega) (λj hj=>by cases hj;omega);have ca:w.heap.size<=wu.heap.size:=bB f7 R.size;have cb:=Ar ((R.block s (by show s<wz.heap.size;omega) (by intro e;injection e with e;exact bp (by rw[e]))).trans f8.out);clear I Q J r fx f6 f7 f8 R bb m1 m2 m3 m4 m5 z1 z2 z3 z4 z5 z6 z7;let⟨m1,m2,m3,m4,m5⟩:=aw.pair;let⟨z1,z2,z3,z4,z5,z6,z7⟩:=cf.cells6;let⟨i0,cn,da,db,dk⟩:=dW Aj7
   go_region_law ((refine Ky rfl 152 rfl enE B 164 i0 (.agg #[.int .i64 0,.bool false,.int .i64 0,.int .i64 0,.int .i64 0,.int .i64 0]) 6 48 underlying152 cn da db dk rfl Ef ti G (Bo L a ⟨⟨0,false,0,0,0⟩,0⟩ k) rfl (OwG.keep (OwG.alloc b1 _) (Aw (aV _ _))) wu 1 (⟨⟨D,m,A,E,F⟩,C⟩:End6) 164 rfl (Bf.drew (Bf.new _ _ _)) (wu+1) ?_;intro gg fc wv cy ba cg gw;have b0:=Bf.grown ((aw.alloc _).drew) ba (by intro e;exact eH _ (f4 _ e.symm).1);let⟨p1,p2,p3,p4,p5⟩:=b0.pair))
   all_goals go_wp2_with fail
   all_goals exact dn W (by rw[a1.out];exact dc Z b0 b1 gu f4 c6 c9 ca cy ba cg K Y cb.out f9)
  obtain rfl:n=k:=aK
  go_wp2
  go_end0
  refine⟨rfl,⟨_,G,I,by rw[HW.out];exact Q,.inr ⟨d,rfl,K,J.lt,by rw[HW.out];exact J⟩,λk y=>⟨(f4 k y).1,(OwG.lt Q k y).2⟩,I.lt⟩,f6,f7,f8.out,aK,Y,avG I f9 bp⟩
end
theorem Gi:inR (wrap64 c):=Acu (wrap64_wf c)
theorem xu{b:Type}[DecidableEq b]{l:List b}:(uniq l).length<=l.length:=by
 induction l with
 | nil=>exact aA
 | cons a l ih =>
   unfold uniq;split
   .simp;omega
   simp;exact ih
theorem Oa(a b:LP):(Eh a b).2.length<=268960/\∀p∈(Eh a b).2,okS p:=by
 have c:=Oj a b;unfold Eh;split
 .simp
 refine⟨?_,λp i=>?_⟩
 .show (Ez _).length<=_
  rw[Gx];refine bB (List.length_filter_le _ _) (bB (xu) ?_)
  have e:∀l:List LP,(∀t∈l,t.length<=160)->l.flatten.length<=l.length*160:=by
   intro l;induction l with
   | nil=>simp
   | cons a l ih =>
     intro h;rw[List.flatten_cons,bA,dP,cN];have:=h a aL;have:=ih (λt d=>h t (by simp[d]));omega
  have:=e _ λt d=>(c.2 t d).1;have:=c.1;omega
 have g:p∈((uniq (Cl a b).2.flatten).filter λp=>!Cs (Cl a b).2 p):=List.mem_mergeSort.1 i;have e:=Sa.1 (List.mem_filter.1 g).1;let⟨t,d,f⟩:=List.mem_flatten.1 e;exact Q4 ((c.2 t d).2 p f)
def Ahn(a b c:Int)(v:Int×Int):LP:=[v,(v.1,b),(v.1,c),(a,v.2)]
def Ma(a b c:Int)(sp L:LP):Nat->LP
 | 0=>L
 | j+1=>S9 (Ma a b c sp L j) (Ahn a b c (gt sp j)) (0,0)
def Ft(l:LP)(a b c:Int)(pls:List LP):Nat->Int×LP
 | 0=>(0,S9 [] [(a,b),(a,c)] (0,0))
 | k+1=>if (Ft l a b c pls k).1≠0 then Ft l a b c pls k else if (Eh (lt_ pls k) l).1≠0 then ((Eh (lt_ pls k) l).1,[]) else (0,Ma a b c (Eh (lt_ pls k) l).2 (Ft l a b c pls k).2 (Eh (lt_ pls k) l).2.length)
def Dh(b:Bed4)(l:LP)(pls:List LP):Int×LP :=
 if Bg l l.length≠0 then (Bg l l.length,[])
 else Ft l (wrap64 (-loX l l.length)) (wrap64 (-loY l l.length)) (wrap64 (wrap64 (b.wid-loY l l.length)-wrap64 (hiY l l.length-loY l l.length))) pls pls.length
theorem nw{pls:List LP}(h:Ft e c q r pls b=(x,[]))(a:x≠0):∀m,Ft e c q r pls (b+m)=(x,[]):=by
 intro m;induction m with
 | zero=>exact h
 | succ m ih=>rw[<-cQ,Ft,if_pos (by rw[ih];exact a)];exact ih
theorem S8(L a:LP):(S9 L a (0,0)).length<=L.length+a.length:=En _ _ _ _
theorem Ua(a b c:Int)(sp L:LP)(j:Nat):(Ma a b c sp L j).length<=L.length+4*j:=by
 induction j with
 | zero=>exact aA
 | succ j ih =>
   rw[Ma];have:=S8 (Ma a b c sp L j) (Ahn a b c (gt sp j));have d:(Ahn a b c (gt sp j)).length=4:=rfl;omega
theorem T9(l:LP)(a b c:Int)(pls:List LP)(k:Nat):(Ft l a b c pls k).2.length<=2+1075840*k:=by
 induction k with
 | zero=>exact S8 [] [(a,b),(a,c)]
 | succ k ih =>
   rw[Ft];split
   .omega
   split
   .simp
   have:=Ua a b c (Eh (lt_ pls k) l).2 (Ft l a b c pls k).2 (Eh (lt_ pls k) l).2.length;have:=(Oa (lt_ pls k) l).1
   show (Ma _ _ _ _ _ _).length<=_
   omega
theorem Xe(a:∀p∈e,okS p)(c:∀p∈t,okS p):∀p∈S9 e t (0,0),okS p:=by
 intro p b;rcases vu aA b with h|h
 .exact a p h
 exact c p h
theorem rz(e:inR c)(f:inR q)(g:inR r)(a:okS p):∀d∈Ahn c q r p,okS d:=by
 intro d b;simp[Ahn]at b;rcases b with rfl|rfl|rfl|rfl
 .exact a
 .exact⟨a.1,f⟩
 .exact⟨a.1,g⟩
 exact⟨e,a.2⟩
theorem zo(a:inR c)(b:inR q)(d:inR r){sp:LP}(g:∀p∈sp,okS p)(f:∀p∈e,okS p):∀j,j<=sp.length->∀p∈Ma c q r sp e j,okS p:=by
 intro j;induction j with
 | zero=>exact λ_=>f
 | succ j ih =>
   intro h;rw[Ma];exact Xe (ih aK) (rz a b d (g _ (List.mem_of_getElem? (G3 aK))))
theorem zm(a:inR c)(b:inR q)(d:inR r){pls:List LP}:∀k,∀p∈(Ft e c q r pls k).2,okS p:=by
 intro k;induction k with
 | zero=>exact Xe aL (by intro p f;simp at f;rcases f with rfl|rfl;exact⟨a,b⟩;exact⟨a,d⟩)
 | succ k ih =>
   rw[Ft];split
   .exact ih
   split
   .simp
   exact zo a b d (Oa _ _).2 ih _ aA
theorem Qy(b:Bed4)(l:LP)(pls:List LP):(Dh b l pls).2.length<=2+1075840*pls.length/\∀p∈(Dh b l pls).2,okS p:=by
 unfold Dh;split
 .simp
 exact⟨T9 _ _ _ _ _ _,zm (Gi) (Gi) (Gi) _⟩
theorem di(A B:Option Addr)(h j a m:Nat)(b:Bed4)(l:LP)(w:World)(g:a<=9223372036854775807)(f:a<=h)(k:SpS w A a l)(d:¬Bg l a=0):Calls prog 144 #[Jw b,.slice A a h,.slice B m j] w (Xh w (Bg l a,[])):=by
 have q:(Bg l a != 0)=true:=by simpa using d
 obtain⟨len,n,rx,o⟩:=b;unfold Jw;dsimp only;have i:=Ar d;clear d;go_enter func144,ntmps144
 go_wp2_with (go_at_call 96;refine rR (Ag1 l g f (k.keep (Ao (aV _ _))) i.out) λp c=>?_)
 go_ret2
 exact⟨_,rfl,OwG.nil,Ao (An (Ao (aV _ _)) c)⟩
theorem SpS.keepBlk{w j:World}(h:SpS w (some ⟨b,0,none⟩) k e)(i:j.heap[b]? = w.heap[b]?):SpS j (some ⟨b,0,none⟩) k e:=by
 refine⟨h.1,?_⟩;obtain⟨_,c⟩:=h;rcases c with c|⟨m,l,g,c⟩
 .exact .inl c
 injection g with g
 injection g with e1 e2
 subst e1 e2;exact .inr ⟨b,0,rfl,λf d=>⟨(World.cell?_of_block (w:=w) (a:=⟨b,0+f*2,none⟩) i).trans (c f d).1,(World.cell?_of_block (w:=w) (a:=⟨b,0+f*2+1,none⟩) i).trans (c f d).2⟩⟩
theorem oh(A B:Option Addr)(c1 c2 r y:Nat)(b:Bed4)(l:LP)(pls:List LP)(w:World)(im:y<=1000)(bu:∀t∈pls,t.length<=1000)(Y:r<=c1)(hs:SpS w A r l)(hS:Aeg w B y pls)(hc:Bg l r=0):Calls prog 144 #[Jw b,.slice A r c1,.slice B y c2] w (Xh w (Dh b l pls)):=by
 obtain⟨len,I,rx,ry⟩:=b;have ix:=El hc;have Q:=Ar (show Dh ⟨len,I,rx,ry⟩ l pls=Ft l (wrap64 (-loX l r)) (wrap64 (-loY l r)) (wrap64 (wrap64 (I-loY l r)-wrap64 (hiY l r-loY l r))) pls y by unfold Dh;rw[hs.1,if_neg (by rw[hc];simp),hS.1]);have cw:=Ar bu;have cm:=Ar hS.1;obtain⟨ba,oa,rfl,-,-⟩:=hs.at_ (k:=0) aK;unfold Jw;dsimp only;have HC:=Ar hc;clear hc bu;have b8:=Ar (Bf.new w 62 #[len,I,rx,ry]);let⟨S,x⟩:=gN (loX l r)
 let⟨L,W⟩:=gN (loY l r)
 let⟨bW,bl⟩:=gN (wrap64 (hiX l r-loX l r))
 let⟨R,V⟩:=gN (wrap64 (hiY l r-loY l r))
 rw[V,x,W]at Q;have cg:=Ar x;have cj:=Ar W;have cf:=Ar bl;have cd:=Ar V;clear x W bl V;go_enter func144,ntmps144
 go_upto_region 4 with (go_at_call 96;refine rR (Aec l Y (hs.keep (Ao (aV _ _))) HC.out) λw1 U=>?_;rw[cf.out,cd.out,cg.out,cj.out])
 have k1:=(b8.out.keep U).alloc (.cells #[S,L,bW,R] 158);have k2:=Bf.new w1 158 #[S,L,bW,R];have c:Be w (w1.alloc (.cells #[S,L,bW,R] 158)):=Ao (An (Ao (aV _ _)) U);refine Cu (λX=>Bf X w 62 #[len,I,rx,ry]/\Bf X w1 158 #[S,L,bW,R]/\Be w X) ⟨k1,k2,c⟩ ?_;clear k1 k2 c U b8;rintro X0 ⟨k1,k2,c⟩;let⟨a1,a2,a3,a4,a5⟩:=k1.cells4;let⟨e1,e2,e3,e4,e5⟩:=k2.cells4;go_quiet (fail);go_upto_region 6 with fail;let⟨d,ak⟩:=gN (wrap64 (-S))
 let⟨f,au⟩:=gN (wrap64 (-L))
 let⟨m,aw⟩:=gN (wrap64 (wrap64 (I-L)-R))
 have r0:inR d:=by rw[<-ak];exact Gi
 have r1:inR f:=by rw[<-au];exact Gi
 have r2:inR m:=by rw[<-aw];exact Gi
 rw[ak,au,aw]at Q ⊢;have R0:=Ar r0;have R1:=Ar r1;have R2:=Ar r2;clear r0 r1 r2 ak au aw a1 a2 a3 a4 a5 e1 e2 e3 e4 e5;refine Cu (λX=>Be w X) (Bd c nq) ?_;clear k1 k2 c;rintro s c;let⟨BB,b9⟩:∃BB,BB=s.heap.size:=⟨_,rfl⟩
 have D:=Ar (Z9.new s);have E:=Ar (Ao (aV s s) (o:=.cells #[.map none,.slice none 0 0] 220))
 go_upto_region 8 with (go_at_call 146;refine(Ta s (s+1) (s+1) 2 2 [] [(d,f),(d,m)] aL (Bf.new2 _ _ _ _) aA (by intro p hp;simp at hp;rcases hp with rfl|rfl;exact⟨R0.out,R1.out⟩;exact⟨R0.out,R2.out⟩) (D.out.keep blA) (s+1) ((D.out.keep blA).av aA aL)).mono ?_;rintro e w3 ⟨rfl,a6,bc,eg,-,-⟩)
 have N:Be s w3:=(Ao E.out).trans bc;rw[<-b9]at a6 ⊢;clear D E bc eg;have M:s.heap.size<=BB:=aK
 have h2:BB<=s.heap.size:=aK
 have P:Z9 w3 BB w3 (Ft l d f m pls 0).2:=a6;have b5:=Ar P;clear a6 P b9;go_wp2;go_loopw [52] (λi wr=>∃k:Nat,k<=y/\i=k/\Hid ((Ft l d f m pls k).1=0)/\Z9 wr BB wr (Ft l d f m pls k).2/\Be s wr) λi _=>y-(intOf i).toNat
 case atStart=>exact⟨0,aB,rfl,Ar rfl,b5.out,N⟩
 clear b5 N;obtain⟨k,hk,rfl,hz,Z,n⟩:=hrel;by_cases bp:k<y
 .obtain⟨b1,o1,Ak,ck,rfl,dy,d1,d2,d3,d4⟩:=(hS.keep (An c n)).at_ bp;have l1:(lt_ pls k).length<=1000:=cw.out _ (I9 (by rw[cm.out];exact bp));let⟨nk,bs⟩:=gN ((lt_ pls k).length)
  rw[bs]at d1 d2 d3 l1;clear bs;have F:=Oa (lt_ pls k) l;have a:=Ar (show Ft l d f m pls (k+1)=if (Eh (lt_ pls k) l).1≠0 then ((Eh (lt_ pls k) l).1,[]) else (0,Ma d f m (Eh (lt_ pls k) l).2 (Ft l d f m pls k).2 (Eh (lt_ pls k) l).2.length) by rw[Ft,if_neg (by rw[hz.out];simp)]);let⟨sq,ai⟩:=gN (Eh (lt_ pls k) l)
  rw[ai]at F a;have b7:=Ar ai;clear ai;obtain⟨s1,sp⟩:=sq;dsimp only at F a;have c4:=F.1;have cu:=Ar F.2;clear F;by_cases G:s1=0
  .subst G;rw[if_neg aL]at a
   go_upto_region 14 with (go_at_call 207;refine aF (To (lt_ pls k) l d2 Y d3 (hs.keep (An c n))) λw5 v5 K v=>?_;rw[b7.out]at K ⊢)
   obtain⟨As,cs,rfl,e0,u,T⟩:=OwS.sps K;let⟨H,ad⟩:=gN sp.length
   rw[ad]at u e0 T c4 a ⊢;have cn:=Ar ad;clear ad K;have a7:=Z.keep v;have O:=An n v
   let⟨sb,c3⟩:∃sb,0<H->As=some ⟨sb,0,none⟩/\AvS w5 BB sb:=by
    rcases bK H with h0|h0
    .exact⟨0,λh=>by omega⟩
    obtain⟨g,rfl,q1,q2⟩:=T h0;exact⟨g,λ_=>⟨rfl,a7.av q1 q2⟩⟩
   have b6:=Ar (a7.mono v.size);have hy:=T9 l d f m pls k;clear T Z a7 dy d1 d2 d3 d4 v;go_wp2;go_loopw [67] (λi wx=>∃j:Nat,j<=H/\i=j/\Z9 wx BB wx (Ma d f m sp (Ft l d f m pls k).2 j)/\SpS wx As H sp/\(0<H->AvS wx BB sb)/\Be s wx) λi _=>H-(intOf i).toNat
   case atStart=>exact⟨0,aB,rfl,b6.out,u,λh=>(c3 h).2,O⟩
   clear b6 u O n;obtain⟨j,hj,rfl,Z,u,ds,x⟩:=hrel;by_cases a8:j<H
   .obtain⟨rfl,-⟩:=c3 aK;have bb:=ds aK;let⟨bq,oq,z,ih,bm⟩:=u.at_ a8;injection z with z
    injection z with z eq2
    subst z eq2;let⟨d1,d2⟩:=bm j a8;simp only[dB]at d1 d2;clear bm;have e9:j<sp.length:=by rw[cn.out];exact a8
    have bt:okS (gt sp j):=cu.out _ (List.mem_of_getElem? (G3 e9));have h4:=Ua d f m sp (Ft l d f m pls k).2 j;have cy:BB<wr.heap.size:=by obtain⟨_,_,q,_⟩:=Z;exact q.lt
    have J:Be wr ((wr.alloc (.cells #[(gt sp j).1,(gt sp j).2] 65)).alloc (.cells #[(gt sp j).1,(gt sp j).2,(gt sp j).1,f,(gt sp j).1,m,d,(gt sp j).2] 65)):=Ao blA;have e7:=Ar (Z.keep J);have dk:=Ar (bb.keep cy J);have db:=Ar (Bf.new2 wr (.cells #[(gt sp j).1,(gt sp j).2] 65) 65 #[(gt sp j).1,(gt sp j).2,(gt sp j).1,f,(gt sp j).1,m,d,(gt sp j).2]);have ec:(Ma d f m sp (Ft l d f m pls k).2 j).length<=1000000000000:=aK
    have b4:=Ar J;clear J
    go_wp2_with (go_at_call 146;refine rR (Ta BB wr (wr+1) 4 4 (Ma d f m sp (Ft l d f m pls k).2 j) (Ahn d f m (gt sp j)) ec db.out (dU _) (rz R0.out R1.out R2.out bt) e7.out sb dk.out) λw8⟨e6,dx,iy,e8,ee⟩=>?_)
    have da:SpS w8 (some ⟨sb,0,none⟩) H sp:=(u.keep b4.out).keepBlk e8;have bd:Be s w8:=(An x b4.out).trans (dx.mono M);exact aE ⟨e6,da,λ_=>ee,bd⟩
   obtain rfl:H=j:=aK
   go_wp2_with fail;exact aE ⟨Ar (by rw[a.out]),by rw[a.out];exact Z,x⟩
  have qo:(s1 != 0)=true:=by simpa using G
  rw[if_pos G]at a;have C:=nw a.out G (y-(k+1));rw[show k+1+(y-(k+1))=y by omega]at C;rw[C]at Q;clear C G
  go_wp2_with (go_at_call 207;refine aF (To (lt_ pls k) l d2 Y d3 (hs.keep (An c n))) λw5 v5 K v=>?_;rw[b7.out])
  go_ret2
  exact⟨_,by rw[Q.out];rfl,by rw[Q.out];exact OwG.nil,An c (An n v)⟩
 obtain rfl:y=k:=aK
 obtain⟨mv,sv,q1,q2,-,-,-⟩:=Z;let⟨a1,a2,a3,a4,a5⟩:=q1.pair;have HE:=Ar (show Ft l d f m pls y=(0,(Ft l d f m pls y).2) by rw[<-hz.out])
 go_wp2
 go_ret2
 exact⟨sv,by rw[Q.out,HE.out];rfl,by rw[Q.out];exact OwG.lower q2 (bB c.size M),An c n⟩
theorem Qx(A B:Option Addr)(e f a d:Nat)(b:Bed4)(l:LP)(pls:List LP)(h:a<=9223372036854775807)(i:d<=1000)(j:∀t∈pls,t.length<=1000)(c:a<=e)(k:SpS w A a l)(m:Aeg w B d pls):Calls prog 144 #[Jw b,.slice A a e,.slice B d f] w (Xh w (Dh b l pls)):=by
 by_cases g:Bg l a=0
 .exact oh A B e f a d b l pls w i j c k m g
 rw[show Dh b l pls=(Bg l a,[]) by unfold Dh;rw[k.1,if_pos g]];exact di A B e f a d b l w h c k g
end Go.Proofs.YtboghahlhmnblaaGreat
