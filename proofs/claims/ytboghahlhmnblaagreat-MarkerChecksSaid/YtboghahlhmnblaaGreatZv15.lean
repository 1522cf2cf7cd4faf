/- Lean texts of the claim. -/
import Derived.Test.YtboghahlhmnblaaGreatZv14
import Derived.Test.YtboghahlhmnblaaGreatZv13
namespace Go.Proofs.YtboghahlhmnblaaGreat
set_option linter.all false
set_option maxRecDepth 100000
set_option maxHeartbeats 0
open Go.RowKit Go.Proofs.Tryz
variable{a:World}{A:Option Addr}{w:World}
theorem Yq(a n i:Nat)(E:List EdgeP)(nm:ByteArray)(t:EdS w A n E)(C:n<=1000:=by omega)(z:i<=n:=by omega):Calls prog 163 #[.slice A n a,(i:Int),.string nm] w λe v=>e=.returned (.bool (Bp (λj=>Gq (edg E j).nm nm) i))/\w=v:=by
 go_in;go_upto_region 2 with fail;go_loopw [7] (λj wr=>∃k:Nat,k<=i/\j=k/\Hid (Bp (λj=>Gq (edg E j).nm nm) k=false)/\w=wr) λj _=>i-(intOf j).toNat
 case atStart=>exact⟨0,aB,rfl,Bp.zero _,rfl⟩
 obtain⟨k,B,rfl,o,rfl⟩:=hrel;by_cases c:k<i
 .have x:(k:Int)<(i:Int):=aK
  have y:(k:Int)<(n:Int):=aK
  obtain⟨b,u,rfl,h⟩:=t.at_ (show k<n by omega);obtain⟨s,-⟩:=h k aK;generalize l:(edg E k).nm=m at s;have d:=Ar l;let⟨q,hq⟩:=gN (m.toList == nm.toList)
  have g:=Ar (show Gq m nm=q from hq);clear l h;cases q with
  | true =>
    have p:=Ar (Bp.yes (f:=λj=>Gq (edg E j).nm nm) c (by rw[d.out,g.out]));go_wp2;go_ret;exact⟨by rw[p.out];rfl,rfl⟩
  | false =>
    have r:=Bp.succ (f:=λj=>Gq (edg E j).nm nm) o.out (by rw[d.out,g.out]);go_wp2;exact aE ⟨r,trivial⟩
 obtain rfl:i=k:=aK
 go_wp2;go_ret;exact⟨by rw[o.out];rfl,rfl⟩
theorem Ado(A:Option Addr)(f n:Nat)(E:List EdgeP)(W:n<=16)(B:EdS w A n E)(g:∀k,k<n->1<=(edg E k).ln.length/\(edg E k).ln.length<=40):Calls prog 122 #[.slice A n f] w (Vi w (Bj E)):=by
 have L:=Ar (show Bj E=Cn E n by unfold Bj;rw[B.1]);have J:=Ar g;have K:=Ar λk (o:k<=n)=>Kt g o;clear g;go_in;go_upto_region 3 with fail;go_loopw [3,4,5] (λv i _ wr=>∃k:Nat,k<=n/\i=.int .i64 k/\OwS wr w v (Cn E k)/\Be w wr) λ_ i _ _=>n-(intOf i).toNat
 case atStart=>exact⟨0,aB,rfl,OwG.nil,bl0⟩
 obtain⟨k,o,rfl,p,d⟩:=hrel;by_cases a:k<n
 .have S:(k:Int)<(n:Int):=aK
  obtain⟨b,O,rfl,D⟩:=(B.keep d).at_ a;obtain⟨-,R,x,u,I,X,e⟩:=D k a;have c:=Ar (show Cn E (k+1)=Cn E k++ux (edg E k).ln from rfl);let⟨y,z⟩:=J.out k a;have F:=K.out k o;generalize N:(edg E k).ln=l at u I e y z c;let⟨r,s⟩:=gN l.length
  let⟨m,G⟩:=gN (r-1)
  have t:=Ar (show ux l=l.take m by unfold ux;rw[s,G]);rw[s]at u I e y z;rw[t.out]at c;obtain⟨M,P,rfl,-,-⟩:=e.at_ (show 0<r by omega);have Q:=e.take (show m<=r by omega);have V:IntKind.i64.wrap ((r:Int)-1)=(m:Int):=aD
  have T:(0:Int)<(r:Int):=aK
  have U:(m:Int)<=(x:Int):=aK
  have H:m<=40:=aK
  clear D N G s t
  go_wp2_with (at_builtin;refine Et rfl w (Cn E k) p (some ⟨M,P,none⟩) m x (l.take m) Q (λh=>by cases h) aK d.size ?_;intro Y Z q j C)
  exact aE ⟨by rw[c.out];exact q,Bk d p j⟩
 obtain rfl:n=k:=aK
 go_wp2;go_ret;exact⟨_,rfl,by rw[L.out];exact p,d⟩
def Ng(w:World)(r:LP×Int)(e:Ending)(a:World):Prop:=∃v,e=.returned (.tuple #[v,r.2])/\OwS a w v r.1/\Be w a
def L9(E:List EdgeP):LP×Int:=if C7 E≠0 then ([],C7 E) else (Bj E,0)
theorem K9(A:Option Addr)(b n:Nat)(E:List EdgeP)(d:n<=b)(l:n<=9223372036854775807)(j:EdS w A n E):Calls prog 137 #[.slice A n b] w (Ng w (L9 E)):=by
 have f:=j.1;by_cases h:C7 E=0
 .have t:=Ar h;obtain⟨v,x,r,-⟩:=D5 h;have g:=Ar (λi (o:i<n)=>Er (r i aK).2);have q:n<=16:=aK
  rw[show L9 E=(Bj E,0) by unfold L9;rw[if_neg (by simpa using h)]];clear h v x r f;go_in
  go_wp2_with (first
   | (go_at_call 196;have z:=a;refine aF (Uc b n E (j.keep a) λi o=>⟨by have:=(g.out i o).1;omega,(g.out i o).2⟩) λC B p m=>?_)
   | (go_at_call 132;refine rR (Gs A b n E d (hn:=l) j) λy a=>?_;rw[t.out]))
  go_ret2
  exact⟨_,rfl,OwG.lower p a.size,An a m⟩
 let⟨c,k⟩:=gN (C7 E)
 rw[show L9 E=([],C7 E) by unfold L9;rw[if_pos h],k];rw[k]at h;have u:(c != 0)=true:=by simpa using h
 have s:=Ar k;clear k h f;go_in
 go_wp2_with (go_at_call 132;refine rR (Gs A b n E d (hn:=l) j) λy a=>?_;rw[s.out])
 go_ret2
 exact⟨_,rfl,OwG.nil,a⟩
theorem G9(A:Option Addr)(a n:Nat)(l:LP)(h:SpS w A n l)(j:n<=9223372036854775807:=by omega)(c:n<=a:=by omega):Calls prog 142 #[.slice A n a] w (Bz w (orW l)):=by
 have f:=Ar (show orW l=Ey (if Bg l n=0 then F4 l n n else 0) 0 by unfold orW Qi;rw[h.1]);generalize g:(if Bg l n=0 then F4 l n n else 0)=r at f;have i:=Ar g;clear g;go_in
 go_wp2_with (first
  | (go_at_call 150;have k:=b;refine rR (Kn r 0) λo d=>?_)
  | (go_at_call 45;refine rR (Vg A a n l j c h) λm b=>?_;rw[i.out]))
 go_ret;exact⟨by rw[f.out];rfl,An b d⟩
theorem Z3(A:Option Addr)(u n:Nat)(E:List EdgeP)(G:Option Addr)(s c2:Nat)(a:List Int)(C:n<=s)(M:EdS w A n E)(hW:InS w G s a)(y:∀k,k<n->1<=(edg E k).ln.length/\(edg E k).ln.length<=40)(hn:n<=16:=by omega):Calls prog 138 #[.slice A n u,.slice G s c2] w (Alq w (Hl E a)):=by
 have HV:=Ar (show Hl E a=Ek E a n by unfold Hl;rw[M.1]);have H2:=Ar y
 have HL:=Ar (λk (P:k<=n)=>show (Ek E a k).length<=k*40 by
  rw[Gt];exact Lt λi hi=>(y i aK).2)
 have HS:=Ar λk=>show Ek E a (k+1)=Ek E a k++List.replicate ((edg E k).ln.length-1) (gi a k) from rfl;clear y;go_in;go_upto_region 3 with fail;go_loopw [5,6,7,10] (λv _ _ i wr=>∃k:Nat,k<=n/\i=.int .i64 k/\OwI wr w v (Ek E a k)/\Be w wr) λ_ _ _ i _=>n-(intOf i).toNat
 case atStart=>exact⟨0,aB,rfl,OwG.nil,bl0⟩
 obtain⟨k,P,rfl,b,e⟩:=hrel;by_cases d:k<n
 .obtain⟨b0,b6,rfl,O⟩:=(M.keep e).at_ d;let⟨J,X,cl,K,q1,q2,q3⟩:=O k d;obtain⟨b1,T,rfl,S⟩:=hW.at_ (aZ d C);have H:=Ar (H2.out k d);have c:=Ar (HS.out k);let⟨r,Q⟩:=gN ((edg E k).ln.length)
  let⟨m,B⟩:∃m,r=m+1:=⟨r-1,by have:=H.out;omega⟩
  have R:m<=40:=by have:=H.out;omega
  rw[Q]at K q1 c;rw[show r-1=m by omega]at c;have W1:IntKind.i64.wrap ((r:Int)-1)=(m:Int):=aD
  clear B;generalize D:(edg E k).nm=nm at J;generalize hx:gi a k=x at S c;have t:=Ar (HL.out k P);clear O D hx q3 Q;have B1:(k:Int)<(n:Int):=aK
  have Z:(k:Int)<(s:Int):=aK
  let⟨U,p⟩:∃U,U=u5:=⟨_,rfl⟩
  rw[<-p]at b ⊢;clear p;go_upto_region 5 with fail;refine Bq λY l hP=>?_
  have p1:Cq Y wr 1 (.slice X r cl):=(hP.cell 1).trans rfl;have o:=OwG.keep b l;have g:=An e l;clear J K b;go_upto_region 6 with fail;clear p1 W1;go_loopw [5,19] (λv i W=>∃j:Nat,j<=m/\i=j/\OwI W w v (Ek E a k++List.replicate j x)/\Be w W) λ_ i _=>m-(intOf i).toNat
  case atStart=>exact⟨0,aB,rfl,by rw[List.replicate_zero,eM];exact o,g⟩
  clear o g;obtain⟨j,hj,rfl,b,e⟩:=hrel;have b4:=Aq e S;by_cases b3:j<m
  .have f:(Ek E a k++List.replicate j x).length+1<=1000000:=by
    rw[bA,List.length_replicate];have:=t.out;omega
   have I:=Ar (show Ek E a k++List.replicate (j+1) x=(Ek E a k++List.replicate j x)++[x] by rw[List.append_assoc,List.replicate_succ']);generalize hL:Ek E a k++List.replicate j x=L at f b I;clear hL;have B2:(j:Int)<(m:Int):=aK
   let⟨V,q⟩:∃V,V=u5:=⟨_,rfl⟩
   rw[<-q]at b ⊢;clear q
   go_wp2_with (at_builtin;refine Kb rfl w L (OwG.alloc b _) _ 1 1 [x] (InS.new _ _ _) (λh=>by cases h) (by simpa using f) (Ao e).size ?_;intro v7 w7 F z N)
   exact aE ⟨by rw[I.out];exact F,Bk (Ao e) (OwG.alloc b _) z⟩
  obtain rfl:m=j:=aK
  go_wp2;exact aE ⟨by rw[c.out];exact b,e⟩
 obtain rfl:n=k:=aK
 go_wp2;go_ret;exact⟨_,rfl,by rw[HV.out];exact b,e⟩
theorem Ie(A:Option Addr)(q n:Nat)(E:List EdgeP)(cz:n<=q)(hn:n<=9223372036854775807)(hE:EdS w A n E):Calls prog 114 #[.slice A n q] w (Bz w (C7 E)):=by
 have h:=hE.1;by_cases h1:16<n
 .have x:=Ar (show C7 E=5 by unfold C7;rw[h,if_pos h1]);clear h;go_enter func114,ntmps114;go_wp2;go_ret;exact⟨by rw[x.out];rfl,bl0⟩
 by_cases h2:n<2
 .have x:=Ar (show C7 E=11 by unfold C7;rw[h,if_neg h1,if_pos h2]);clear h;go_enter func114,ntmps114;go_wp2;go_ret;exact⟨by rw[x.out];rfl,bl0⟩
 have HA:=Ar λk hk B h3=>Adp (E:=E) (n:=n) (k:=k) h h1 h2 hk B h3;have HZ:=Ar λB=>oo (E:=E) (n:=n) h h1 h2 B;have O:=Ar h;clear h;have er:=Ea;go_enter func114,ntmps114;go_upto_region 6 with fail;go_loopw [3,4] (λi _ wr=>∃k:Nat,k<=n/\i=k/\Hid (Fh (Hk E) k=0)/\Be w wr) λi _ _=>n-(intOf i).toNat
 case atStart=>exact⟨0,aB,rfl,Ar rfl,bl0⟩
 obtain⟨k,hk,rfl,M,t⟩:=hrel;by_cases o:k<n
 .have y:=hE.keep t;obtain⟨b,ca,rfl,L⟩:=y.at_ o;let⟨c0,Al,cl,K,q1,q2,v⟩:=L k o;have c:=Ar (show Hk E k=if Cy (edg E k).nm=false then 1 else if Bp (λj=>Gq (edg E j).nm (edg E k).nm) k then 7 else plW (edg E k).ln (edg E k).ln.length from rfl);have HK:=Ar (HA.out k o M.out);let⟨l,hl⟩:=gN ((edg E k).ln)
  let⟨nm,a8⟩:=gN ((edg E k).nm)
  rw[hl]at K q1 v c;rw[a8]at c0 c;let⟨m,X⟩:=gN l.length
  rw[X]at K q1 v c;have B1:(k:Int)<(n:Int):=aK
  have a6:n<=16:=aK
  let⟨nb,G⟩:=gN (Cy nm)
  let⟨tw,J⟩:=gN (Bp (λj=>Gq (edg E j).nm nm) k)
  let⟨N,I⟩:=gN (plW l m)
  rw[G,J,I]at c;have HN:=Ar G;have HT:=Ar J;have z:=Ar I;clear L hl X a8 G J I;cases nb with
  | false =>
    have x:=Ar (show C7 E=1 from (HK.out (by rw[c.out];simp)).trans c.out)
    go_wp2_with (first|(go_at_call 164;refine rR (Q8 Al cl m l v) λw3 a=>?_;rw[z.out])|(go_at_call 163;refine(Yq q n k E nm y).mono ?_;rintro e w2 ⟨rfl,rfl⟩;rw[HT.out])|(go_at_call 158;refine(Dp nm).mono ?_;rintro e w1 ⟨rfl,rfl⟩;rw[HN.out]))
    go_ret;exact⟨by rw[x.out];rfl,t⟩
  | true =>
    cases tw with
    | true =>
      have x:=Ar (show C7 E=7 from (HK.out (by rw[c.out];simp)).trans c.out)
      go_wp2_with (first|(go_at_call 164;refine rR (Q8 Al cl m l v) λw3 a=>?_;rw[z.out])|(go_at_call 163;refine(Yq q n k E nm y).mono ?_;rintro e w2 ⟨rfl,rfl⟩;rw[HT.out])|(go_at_call 158;refine(Dp nm).mono ?_;rintro e w1 ⟨rfl,rfl⟩;rw[HN.out]))
      go_ret;exact⟨by rw[x.out];rfl,t⟩
    | false =>
      have C:=Ar (show Hk E k=N by rw[c.out];rfl);by_cases B:N=0
      .subst B;have bp:=Ar (show Fh (Hk E) (k+1)=0 by rw[Ga M.out,C.out])
       go_wp2_with (first|(go_at_call 164;refine rR (Q8 Al cl m l v) λw3 a=>?_;rw[z.out])|(go_at_call 163;refine(Yq q n k E nm y).mono ?_;rintro e w2 ⟨rfl,rfl⟩;rw[HT.out])|(go_at_call 158;refine(Dp nm).mono ?_;rintro e w1 ⟨rfl,rfl⟩;rw[HN.out]))
       exact aE ⟨bp,An t a⟩
      have x:=Ar (show C7 E=N by rw[<-C.out];exact HK.out (by rw[C.out];exact B));have ek:(N != 0)=true:=by simpa using B
      clear B
      go_wp2_with (first|(go_at_call 164;refine rR (Q8 Al cl m l v) λw3 a=>?_;rw[z.out])|(go_at_call 163;refine(Yq q n k E nm y).mono ?_;rintro e w2 ⟨rfl,rfl⟩;rw[HT.out])|(go_at_call 158;refine(Dp nm).mono ?_;rintro e w1 ⟨rfl,rfl⟩;rw[HN.out]))
      go_ret;exact⟨by rw[x.out];rfl,An t a⟩
 obtain rfl:n=k:=aK
 have HO:=Ar (HZ.out M.out)
 have r:=Ar (λi (F:i<n)=>by
  have g:=Ph.1 M.out i F;unfold Hk at g;split at g
  .cases g
  split at g
  .cases g
  exact Er g:∀i,i<n->2<=(edg E i).ln.length/\(edg E i).ln.length<=40)
 clear HZ HA;have a6:n<=16:=aK
 go_upto_region 16 with fail;obtain⟨wa,rfl⟩:∃wa:World,wa=wr:=⟨_,rfl⟩
 go_loopw [5,6,7] (λi _ _ wx=>∃k:Nat,k<=n/\i=k/\Hid (Bp (J2 E) k=false)/\Be w wx) λi _ _ _=>n-(intOf i).toNat
 case atStart=>exact⟨0,aB,rfl,Ar (Bp.zero _),t⟩
 clear t M;obtain⟨k,hk,rfl,hp,t⟩:=hrel;by_cases o:k<n
 .obtain⟨b,ca,rfl,L⟩:=(hE.keep t).at_ o;let⟨j,hj⟩:=gN ((k+1) % n)
  have Z:j<n:=by rw[<-hj];exact bE _ aK
  have T2:((k:Int)+1) % (n:Int)=(j:Int):=by rw[<-hj,gA];rfl
  have T1:Int.tmod ((k:Int)+1) (n:Int)=(j:Int):=by rw[eO aK];exact T2
  obtain⟨-,A1,ee,K,q1,q2,v⟩:=L k o;obtain⟨-,A2,eg,d1,r1,r2,r3⟩:=L j Z;have d:=Ar (show J2 E k=!eqS (gt (edg E k).ln ((edg E k).ln.length-1)) (gt (edg E j).ln 0) by unfold J2;rw[O.out,hj]);obtain⟨g1,-⟩:=r.out k o;obtain⟨g2,-⟩:=r.out _ Z;let⟨l1,U⟩:=gN ((edg E k).ln)
  let⟨l2,W⟩:=gN ((edg E j).ln)
  rw[U]at K q1 v g1 d;rw[W]at d1 r1 r3 g2 d;let⟨n1,a1⟩:=gN l1.length
  let⟨n2,a7⟩:=gN l2.length
  rw[a1]at K q1 v g1 d;rw[a7]at d1 r1 r3 g2;obtain⟨b1,o1,rfl,-,-⟩:=v.at_ (show 0<n1 by omega);obtain⟨b2,o2,rfl,-,-⟩:=r3.at_ (show 0<n2 by omega);let⟨m,X⟩:=gN (n1-1)
  rw[X]at d;let⟨x1,x2⟩:=v.cells (show m<n1 by omega);let⟨y1,y2⟩:=r3.cells (show 0<n2 by omega);let⟨⟨px,py⟩,ai⟩:∃p,gt l1 m=p:=⟨_,rfl⟩
  let⟨⟨qx,qy⟩,ak⟩:∃p,gt l2 0=p:=⟨_,rfl⟩
  rw[ai]at x1 x2 d;rw[ak]at y1 y2 d;have B1:(k:Int)<(n:Int):=aK
  have B2:(j:Int)<(n:Int):=aK
  have B3:¬((n:Int)=0):=aK
  have B4:(m:Int)<(n1:Int):=aK
  have B5:(0:Int)<(n2:Int):=aK
  have W1:IntKind.i64.wrap ((n1:Int)-1)=(m:Int):=aD
  have W2:IntKind.i64.wrap ((k:Int)+1)=(k:Int)+1:=aD
  have W3:IntKind.i64.wrap (j:Int)=(j:Int):=aD
  have Aca:((n:Int) == 0)=false:=by simpa using B3
  rw[eC,bU]at y1 y2;let⟨bb,S⟩:=gN (!eqS (px,py) (qx,qy))
  rw[S]at d;clear L U W a1 a7 ai ak v r3 hj X;go_upto_region 18 with fail;go_quiet (fail);have R:=Bd t nq;have u:=Bd (aV wr wr) nq;let⟨Y,hY⟩:=gN (wr.drewN nq)
  go_upto_region 19 with fail;rw[hY]at R u ⊢;have X1:=Aq u x1;have X2:=Aq u x2;have Y1:=Aq u y1;have Y2:=Aq u y2;clear hY x1 x2 y1 y2 K d1 t u;go_quiet (fail);have a:=Bd R nq;clear B1 B2 B3 B4 B5 W1 W2 W3 S T1 T2 Aca;cases bb with
  | false =>
    have HP:=Bp.succ (f:=J2 E) hp.out d.out;go_wp2_with fail;exact aE ⟨Ar HP,a⟩
  | true =>
    have x:=Ar (show C7 E=11 by rw[HO.out,if_pos (Bp.yes (f:=J2 E) o d.out)])
    go_wp2;go_ret;exact⟨by rw[x.out];rfl,a⟩
 obtain rfl:n=k:=aK
 have D:=Ar (show C7 E=Bg (Bj E) (Bj E).length by rw[HO.out,hp.out];rfl)
 have P:=Ar (show (Bj E).length<=n*40 by
  have:=Kt (E:=E) (n:=n) (λi F=>⟨by have:=(r.out i F).1;omega,(r.out i F).2⟩) (Nat.le_refl n);unfold Bj;rw[O.out];exact this)
 let⟨V,hV⟩:=gN (Bj E)
 rw[hV]at D P;have bm:=Ar hV;clear hV
 go_wp2_with (first
  | (go_at_call 70;have M:=a;refine rR (Hr (A:=A3) c3 (n:=nv) V T Q) λw4 bx=>?_)
  | (go_at_call 122;refine aF (Ado _ q n E aK (hE.keep t) λi F=>⟨by have:=(r.out i F).1;omega,(r.out i F).2⟩) λw3 v3 H a=>?_;rw[bm.out]at H;obtain⟨A3,c3,rfl,T,Q,-⟩:=H.sps;have c5:=P.out;let⟨nv,ad⟩:=gN V.length;rw[ad]at T Q c5 H D ⊢;clear ad))
 go_ret;exact⟨by rw[D.out];rfl,An (An t a) bx⟩
theorem Adj(A:Option Addr)(a n:Nat)(E:List EdgeP)(c:n<=a)(j:n<=9223372036854775807)(f:EdS w A n E):Calls prog 71 #[.slice A n a] w (Ng w (if C7 E=0 then (Bj E,0) else ([],C7 E))):=by
 by_cases d:C7 E=0
 .rw[if_pos d];obtain⟨r,l,i,-,-⟩:=D5 d;rw[f.1]at l i;have o:=Ar d;have m:=Ar (λk (p:k<n)=>by have:=Er (i k p).2;exact⟨aK,this.2⟩:∀k,k<n->1<=(edg E k).ln.length/\(edg E k).ln.length<=40);clear d r i;go_in
  go_wp2_with (first
   | (go_at_call 122;refine aF (Ado A a n E l (f.keep b) m.out) λu t h g=>?_)
   | (go_at_call 114;refine rR (Ie A a n E c j f) λs b=>?_;rw[o.out]))
  go_ret2
  exact⟨_,rfl,OwG.lower h b.size,An b g⟩
 rw[if_neg d];have q:(C7 E != 0)=true:=by simpa using d
 clear d;go_in
 go_wp2_with (go_at_call 114;refine rR (Ie A a n E c j f) λs b=>?_)
 go_ret2
 exact⟨_,rfl,OwG.nil,b⟩
theorem Ah6{f:Nat}(p:f=165\/f=167)(a b:Int)(w:World)(s : -1152921504606846976<=a)(t:a<=1152921504606846976)(u:0<b)(n:b<=1152921504606846976):Calls prog f #[a,b] w λe r=>e=.returned (F8 a b)/\w=r:=by
 rcases p with rfl|rfl
 all_goals
  have d:∀c:Int,0<=c->0<=(c+b) / (2*b)/\(c+b) / (2*b)<=c+b/\Int.tdiv (c+b) (2*b)=(c+b) / (2*b):=λc v=>⟨iL aK aK,Int.ediv_le_self (a:=c+b) (2*b) aK,eA aK⟩
  have o:¬2*b=0:=aK
  by_cases h:a<0
  .have g:=Ar (show F8 a b = -((-2*a+b) / (2*b)) by unfold F8;rw[if_pos h,show 2 * -a = -2*a by omega]);let⟨j,k,i⟩:=d (-2*a) aK;clear d;let⟨q,hq⟩:=gN ((-2*a+b) / (2*b))
   rw[hq]at j i k g;have l:IntKind.i64.wrap (Int.tdiv (-2*a+b) (2*b))=q:=by rw[i,bH];omega
   have m:IntKind.i64.wrap q=q:=aD
   clear hq;go_in
   go_wp2;go_ret;exact⟨by rw[g.out];rfl,rfl⟩
  have g:=Ar (show F8 a b=(2*a+b) / (2*b) by unfold F8;rw[if_neg h]);let⟨j,k,i⟩:=d (2*a) aK;clear d;let⟨q,hq⟩:=gN ((2*a+b) / (2*b))
  rw[hq]at j i k g;have l:IntKind.i64.wrap (Int.tdiv (2*a+b) (2*b))=q:=by rw[i,bH];omega
  have m:IntKind.i64.wrap q=q:=aD
  clear hq;go_in
  go_wp2;go_ret;exact⟨by rw[g.out];rfl,rfl⟩
def Ad5:=@Ah6 165 (.inl rfl)
def Ac9:=@Ah6 167 (.inr rfl)
theorem Jc(n b:Int)(w:World)(a:0<=b)(c:b<=4611686018427387904):Calls prog 113 #[n,b] w (Bz w (.bool (wI n b))):=by
 go_in;go_wp2;all_goals go_ret
 all_goals exact⟨Bn (by simp[wI]<;>omega),bl0⟩
theorem Al0(n:Nat)(w:World)(p:n<17592186044416):Calls prog 166 #[(n:Int)] w λe y=>e=.returned (.int .i64 (Ca n:Int))/\w=y:=by
 have d:=Ar (Jn (n:=n));go_enter func166,ntmps166;go_wp2;go_loopw [3,4,5] (λo u _ wr=>∃r s:Nat,r<=s/\s<=4194304/\o=r/\u=s/\Hid (r*r<=n/\n<(s+1)*(s+1))/\w=wr) λo u _ _=>(intOf u-intOf o).toNat
 case atStart=>exact⟨0,4194304,aK,aK,rfl,rfl,Ar ⟨aK,aK⟩,rfl⟩
 obtain⟨r,s,v,x,rfl,rfl,a,rfl⟩:=hrel;by_cases h:r=s
 .subst h;have i:=Ar (Og a.out.1 a.out.2 d.out.1 d.out.2);clear a d p;go_wp2;go_ret;exact⟨by rw[<-i.out];rfl,rfl⟩
 let⟨m,l⟩:=gN ((r+s+1) / 2)
 have b:r<m/\m<=s:=aK
 have j:Int.tdiv ((r:Int)+s+1) 2=(m:Int):=by rw[eA aK];omega
 have z:IntKind.i64.wrap (Int.tdiv ((r:Int)+s+1) 2)=(m:Int):=by rw[j,bH];omega
 let⟨q,hq⟩:=gN (m*m)
 have t:q<=17592186044416:=by
  rw[<-hq];exact cJ (show m<=4194304 by omega) (show m<=4194304 by omega)
 have A:(m:Int)*(m:Int)=(q:Int):=by rw[<-Int.natCast_mul,hq]
 have g:=Ar hq;clear hq l;obtain⟨b,f⟩:=b;by_cases k:q<=n
 .have c:=Ar (show m*m<=n/\n<(s+1)*(s+1) from ⟨by rw[g.out];exact k,a.out.2⟩)
  go_wp2;exact⟨⟨m,s,f,x,rfl,rfl,c,trivial⟩,aI⟩
 have c:=Ar (show r*r<=n/\n<(m-1+1)*(m-1+1) from ⟨a.out.1,by rw[Nat.sub_add_cancel aK,g.out];omega⟩)
 go_wp2;exact⟨⟨r,m-1,aK,aK,rfl,aP,c,trivial⟩,aI⟩
theorem Ais{p q:Int×Int}(c:Nd p)(hq:Nd q):sqd p q<17592186044416/\((q.1-p.1)*(q.1-p.1)+(q.2-p.2)*(q.2-p.2)=(sqd p q:Int)):=by
 unfold Nd at c hq;have a:=Na (d:=q.1-p.1) (M:=2097152);have b:=Na (d:=q.2-p.2) (M:=2097152)
 unfold sqd;omega
theorem Ain(p q:Int×Int)(c sg:Int)(w:World)(L:Nd p)(hq:Nd q)(z:p≠q)(hc:0<=c/\c<=500)(N:sg=1\/sg = -1):Calls prog 116 #[.agg #[p.1,p.2],.agg #[q.1,q.2],c,sg] w (Bz w (.agg #[(sg*F8 (c*(q.2-p.2)) (Ca (sqd p q)):Int),(-sg*F8 (c*(q.1-p.1)) (Ca (sqd p q)):Int)])):=by
 let⟨n,g⟩:=Ais L hq;obtain⟨-,r1,r2,B,C,D,E⟩:=Nl L hq z;obtain⟨a,b⟩:=p;obtain⟨x,y⟩:=q;obtain⟨p1,p2,p3,p4⟩:=L;obtain⟨q1,q2,q3,q4⟩:=hq;dsimp only at *
 have m:=Ar λA:World=>Al0 (sqd (a,b) (x,y)) A n;let⟨S,hS⟩:=gN (sqd (a,b) (x,y))
 let⟨R,hR⟩:=gN (Ca S)
 rw[hS]at n g r1 r2 B C D E m ⊢;rw[hR]at r1 r2 B C D E m ⊢;let⟨h,s⟩:=gN (x-a)
 let⟨i,t⟩:=gN (y-b)
 rw[s]at g B C ⊢;rw[t]at g D E ⊢;obtain⟨c1,c2⟩:=hc;have u0:=(Na (d:=h) (M:=2097152));have v0:=(Na (d:=i) (M:=2097152));let⟨u,O⟩:=gN (h*h)
 let⟨v,P⟩:=gN (i*i)
 rw[O]at g u0;rw[P]at g v0;have Q:=Ahj (c:=c) (d:=h) (R:=R) B C;have T:=Ahj (c:=c) (d:=i) (R:=R) D E;let⟨e,H⟩:=gN (c*h)
 let⟨f,I⟩:=gN (c*i)
 rw[H]at Q ⊢;rw[I]at T ⊢;have g1:=L4 (M:=500) (show (0:Int)<R by omega) Q.1 Q.2;have g2:=L4 (M:=500) (show (0:Int)<R by omega) T.1 T.2;have U:=Ar (λA:World=>Ac9 e R A aK aK aK aK);have V:=Ar (λA:World=>Ac9 f R A aK aK aK aK);let⟨j,hj⟩:=gN (F8 e R)
 let⟨k,hk⟩:=gN (F8 f R)
 rw[hj]at g1 U ⊢;rw[hk]at g2 V ⊢;have Z1 : -500<=sg*k/\sg*k<=500:=by rcases N with rfl|rfl<;>omega
 have Z2 : -500 <= -sg*j /\ -sg*j<=500:=by rcases N with rfl|rfl<;>omega
 let⟨K,G⟩:=gN (sg*k)
 let⟨J,F⟩:=gN (-sg*j)
 rw[G]at Z1 ⊢;rw[F]at Z2 ⊢
 go_in;go_upto_region 1 with fail;refine Jy λX l W Z r=>?_
 obtain⟨P0,P1,-,-,-⟩:=W.pair;obtain⟨Q0,Q1,-,-,-⟩:=Z.pair;go_quiet (fail);replace r:=r.keep (Bd (aV X X) nq);replace l:=Bd l nq;let⟨Y,hY⟩:=gN (X.drewN nq)
 go_upto_region 2 with fail;rw[hY]at r l ⊢;let⟨z0,z1,f0,f1,lt⟩:=r.pair;obtain⟨s0,s1,-,-,-⟩:=Bf.pair ((r.set_ 0 K).set_ 1 J)
 go_wp2_with (first|(go_at_call 166;(with_reducible refine(m.out _).mono ?_);rintro o w1 ⟨rfl,rfl⟩)|(go_at_call 167;first|((with_reducible refine(V.out _).mono ?_);rintro o w1 ⟨rfl,rfl⟩)|((with_reducible refine(U.out _).mono ?_);rintro o w1 ⟨rfl,rfl⟩)))
 exact bR ⟨rfl,Ba (Ba l (p:=⟨w+1+1,0,none⟩) aO) (p:=⟨w+1+1,1,none⟩) aO⟩ rfl (by simp[results,results116,go_sem,s0,s1])
theorem Aka(a b c:Nat)(B:1<=c)(P:c<=1099511627776)(Q:b<=1099511627776)(R:a<=c):Calls prog 288 #[(a:Int),(b:Int),(c:Int)] w λe K=>(∃z:Int,e=.returned z)/\Be w K:=by
 let⟨q,hq⟩:=gN (b / c)
 let⟨r,i⟩:=gN (b % c)
 have I:q<=b:=by rw[<-hq];exact Nat.div_le_self _ _
 have J:r<c:=by rw[<-i];exact bE _ B
 have n:Int.tdiv (b:Int) (c:Int)=(q:Int):=by rw[<-hq,eA aK];rfl
 have p:Int.tmod (b:Int) (c:Int)=(r:Int):=by rw[<-i,gK]
 have t:(b:Int) / (c:Int)=(q:Int):=by rw[<-hq];rfl
 have x:(b:Int) % (c:Int)=(r:Int):=by rw[<-i];rfl
 have y:IntKind.i64.wrap (q:Int)=q:=aD
 have A:IntKind.i64.wrap (r:Int)=r:=aD
 go_enter func288,ntmps288;go_upto_region 1 with fail;go_quiet (fail);have F:=Bd (aV w w) nq;let⟨Y,E⟩:=gN (w.drewN nq)
 go_upto_region 2 with fail;rw[E]at F ⊢;let⟨z,U⟩:=gN (IntKind.i64.wrap ((a:Int)*q))
 go_upto_region 5 with fail;go_loopw [10,11,12] (λs l k wr=>∃(j m:Nat) (o:Int),j<=41/\m<c/\s=o/\l=m/\k=.int .i64 ((j:Int)-1)/\Y=wr) λ_ _ k _=>(intOf k+1).toNat
 case atStart=>exact⟨41,0,0,aK,aK,rfl,rfl,aP,rfl⟩
 obtain⟨j,m,o,S,T,rfl,rfl,rfl,rfl⟩:=hrel;cases j with
 | zero =>
   go_wp2;all_goals go_ret
   all_goals exact⟨⟨_,rfl⟩,F⟩
 | succ k =>
   have L:((k+1:Nat):Int)-1=(k:Int):=aK
   rw[L];let⟨G,g⟩:=gN (wrap64 (2*o))
   go_upto_region 10 with fail;all_goals rw[g]
   .obtain⟨e,C⟩:∃e,2*m+r=e:=⟨_,rfl⟩
    rw[show 2*(m:Int)+(r:Int)=(e:Int) by omega];have H:e<4398046511104:=aK
    let⟨u,d⟩:=gN (e / c)
    let⟨v,f⟩:=gN (e % c)
    have D:u<=e:=by rw[<-d];exact Nat.div_le_self _ _
    have h:v<c:=by rw[<-f];exact bE _ B
    have n:Int.tdiv (e:Int) (c:Int)=(u:Int):=by rw[<-d,eA aK];try rfl
    have p:Int.tmod (e:Int) (c:Int)=(v:Int):=by rw[<-f,gK]
    have t:(e:Int) / (c:Int)=(u:Int):=by rw[<-d];try rfl
    have x:(e:Int) % (c:Int)=(v:Int):=by rw[<-f];rfl
    have y:IntKind.i64.wrap (u:Int)=u:=aD
    have A:IntKind.i64.wrap (v:Int)=v:=aD
    go_wp2;exact⟨⟨k,v,_,aK,h,rfl,rfl,aP,trivial⟩,aJ⟩
   let⟨e,C⟩:=gN (2*m)
   rw[show 2*(m:Int)=(e:Int) by omega]
   let⟨u,d⟩:=gN (e / c)
   let⟨v,f⟩:=gN (e % c)
   have D:u<=e:=by rw[<-d];exact Nat.div_le_self _ _
   have h:v<c:=by rw[<-f];exact bE _ B
   have p:Int.tmod (e:Int) (c:Int)=(v:Int):=by rw[<-f,gK]
   go_wp2;exact⟨⟨k,v,_,aK,h,rfl,rfl,aP,trivial⟩,aJ⟩
theorem Amy(a b c:Int)(w:World):Calls prog 218 #[a,b,.bool false,c] w λe u=>(∃z:Int,e=.returned (.tuple #[z,(if Mb a b c then 3 else 0:Int)]))/\Be w u:=by
 cases h:Mb a b c with
 | false =>
   have d:¬a<1/\¬1099511627776<a/\¬b<0/\¬1099511627776<b/\¬c<0/\¬a<c:=by unfold Mb at h;simp at h;omega
   clear h;obtain⟨q,rfl⟩:∃n:Nat,a=n:=⟨a.toNat,aK⟩
   obtain⟨r,rfl⟩:∃n:Nat,b=n:=⟨b.toNat,aK⟩
   obtain⟨s,rfl⟩:∃n:Nat,c=n:=⟨c.toNat,aK⟩
   obtain⟨E,F,G,H,I,J⟩:=d;go_enter func218,ntmps218
   go_wp2_with (go_at_call 288;(with_reducible refine(Aka s r q aK aK aK aK).mono ?_);rintro e K ⟨⟨z,rfl⟩,t⟩)
   all_goals go_ret2
   all_goals exact⟨⟨_,rfl⟩,t⟩
 | true =>
   have d:a<1\/1099511627776<a\/b<0\/1099511627776<b\/c<0\/a<c:=by unfold Mb at h;simp at h;omega
   have f:=Ar d;clear h d;let⟨j,v⟩:=gN (decide (a<1))
   let⟨k,y⟩:=gN (decide (1099511627776<a))
   let⟨l,A⟩:=gN (decide (b<0))
   let⟨m,B⟩:=gN (decide (1099511627776<b))
   let⟨o,C⟩:=gN (decide (c<0))
   let⟨p,D⟩:=gN (decide (a<c))
   have g:Hid ((j || k || l || m || o || p)=true):=Ar (by
    have:=f.out;rw[<-v,<-y,<-A,<-B,<-C,<-D];simp;omega)
   clear f;go_enter func218,ntmps218;have i:=g.out;cases j<;>cases k<;>cases l<;>cases m<;>cases o<;>cases p<;>(first|(simp at i;done)|skip)
   all_goals clear i g
   all_goals go_wp2
   all_goals go_ret2
   all_goals exact⟨⟨_,rfl⟩,bl0⟩
theorem dd(A:Option Addr)(f n:Nat)(l:List (Int×Int))(w:World)(o:n<=9223372036854775807)(a:n<=f)(g:SpS w A n l):Calls prog 46 #[.slice A n f] w λe k=>e=.returned (.int .i64 (if Bg l n=0 then F4 l n n else 0))/\Below w w k:=by
 by_cases d:Bg l n=0
 .rw[if_pos d];have i:=El d;have q:(Bg l n != 0)=false:=by rw[d];rfl
  clear d;obtain⟨b,j,rfl,-,-⟩:=g.at_ (show 0<n by omega);go_enter func46,ntmps46
  go_wp2_with (first|(go_at_call 70;refine rR (Hr _ l a g) λm c=>?_)|(go_at_call 75;refine rR (bf _ _ _ _ l a (g.keep c)) λp h=>?_))
  go_ret;exact⟨rfl,An c h⟩
 rw[if_neg d];have q:(Bg l n != 0)=true:=by simpa using d
 clear d;go_enter func46,ntmps46
 go_wp2_with (go_at_call 70;refine rR (Hr _ l a g) λm c=>?_)
 go_ret;exact⟨rfl,c⟩
def Kp(v:LP):Int:=if Qi v<0 then -1 else 1
theorem Oc(A:Option Addr)(a n:Nat)(l:LP)(j:n<=9223372036854775807)(b:n<=a)(g:SpS w A n l):Calls prog 72 #[.slice A n a] w (Bz w (Kp l)):=by
 have d:=Ar λi (h:SpS i A n l)=>dd A a n l i j b h;have c:=Ar (show Kp l=if (if Bg l n=0 then F4 l n n else 0)<0 then -1 else 1 by unfold Kp Qi;rw[g.1]);generalize k:(if Bg l n=0 then F4 l n n else 0)=z at d c;clear k;go_in
 go_wp2_with (go_at_call 46;(with_reducible refine(d.out _ g).mono ?_);rintro e m ⟨rfl,f⟩)
 all_goals go_ret
 .exact⟨by rw[c.out,if_pos aQ];rfl,f⟩
 exact⟨by rw[c.out,if_neg aK];rfl,f⟩
theorem Ah4{f:Nat}(h:f=139\/f=119)(x y a b:Int)(w:World)(m : -4611686018427387904<=x+a)(n:x+a<=4611686018427387904)(o : -4611686018427387904<=y+b)(q:y+b<=4611686018427387904):Calls prog f #[.agg #[x,y],.agg #[a,b]] w (Bz w (.agg #[(x+a:Int),(y+b:Int)])):=by
 rcases h with rfl|rfl
 all_goals
  go_in;go_upto_region 1 with fail;refine Jy λX c e g d=>?_
  obtain⟨r,s,-,-,-⟩:=e.pair;obtain⟨t,u,-,-,-⟩:=g.pair;let⟨z,A,k,l,lt⟩:=d.pair;obtain⟨i,j,-,-,-⟩:=Bf.pair ((d.set_ 0 (.int .i64 (x+a))).set_ 1 (.int .i64 (y+b)));go_wp2;exact bR ⟨rfl,Ba (Ba c (p:=⟨w+1+1,0,none⟩) aO) (p:=⟨w+1+1,1,none⟩) aO⟩ rfl (by simp[results,results139,results119,go_sem,i,j])
def Sz:=@Ah4 139 (.inl rfl)
def xg:=@Ah4 119 (.inr rfl)
end Go.Proofs.YtboghahlhmnblaaGreat
