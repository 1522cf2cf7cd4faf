/- Lean texts of the claim. -/
import Derived.Test.YtlogblbfbihleaaGreatZr32
import Derived.Maps.OwnSet
namespace Go.Proofs.YtlogblbfbihleaaGreat
set_option linter.all false
set_option maxRecDepth 100000
set_option maxHeartbeats 0
open Go.RowKit
variable{a i k n:Nat}{b:List Int}{e:World}{f:List PlcP}{g:List Bool}{h:Exit->Act->World->Prop}{j:Int->Int->Int}{l:List Value}{m:Act}{o:LP}
theorem Ah5 {f:Nat} (p:f=6\/f=7) (l:Array Value) (s:StyleP) (A:Option Addr) (n c:Nat) (Z:List Int) (w:World) (g:SmS s) (k:StV w l s) (h:Bv s≠0) :
 Calls Tryz.prog f #[.agg l,.slice A n c] w (ig w (Bv s,[],[])):=by
 rcases p with rfl|rfl
 have b:=@Fs
 rotate_left 1
 have b:=@N8
 rotate_left 1
 all_goals
  let⟨x,j⟩:=gN (Bv s)
  rw[j]at h ⊢;have m:=Ar j;have q:(x != 0)=true:=by simpa using h
  clear j h;obtain⟨D,J,E,K,F,L,G,M,H,N,I,O,rfl,⟨W,Y,v3⟩,⟨v4,v5,v6⟩,⟨v7,v8,v9⟩,⟨r,t,u⟩,⟨v,y,z⟩,B,C⟩:=id k;go_in;go_upto_region 1 with fail;refine Bq λX a o=>?_
  let⟨P,Q,R,S,T,U,V⟩:=st7 o;have i:=k.keep a
  go_wp2_with ((first|go_at_call 15|go_at_call 18);refine rR (b _ s _ g i) λw1 d=>?_;rw[m.out])
  go_ret3
  exact ig.none_ (An a d)
def Aoj:=@Ah5 6 (.inl rfl)
def Al7:=@Ah5 7 (.inr rfl)
theorem Al6(vs:Array Value) (s:StyleP) (A:Option Addr) (n c:Nat) (Z:List Int) (w:World) (hn:n<=c) (z8:c<=9223372036854775807) (hZ:InS w A n Z) (L:SmS s) (hv:StV w vs s) (h:Bv s=0) :
 Calls Tryz.prog 7 #[.agg vs,.slice A n c] w (ig w (Bc s Z)):=by
 have HC:=Ar h;have ng:=hZ.1
 have HS:=Ar (show Bc s Z=if n<1\/6<n then (3,[],[]) else if Bp (λi=>decide (gi Z i<0) || decide ((s.sz.length:Int)<=gi Z i)) n then (3,[],[]) else if 60<(Kq s).length*n then (5,[],[]) else Hc s Z (Kq s) n by
  unfold Bc;rw[if_neg (by rw[h];simp),ng])
 have y1:=L.sz;have c7:=Zo L h;clear h ng;obtain⟨A1,c1,A2,c2,A3,c3,A4,c4,A5,c5,A6,c6,rfl,⟨v1,v2,v3⟩,⟨v4,v5,v6⟩,⟨v7,v8,v9⟩,⟨Ab,Ad,ss⟩,⟨Ae,Af,sv⟩,Ag,Ah⟩:=id hv;go_enter Tryz.func7,Tryz.ntmps7;go_upto_region 1 with fail;refine Bq λX ev hP=>?_
 let⟨p0,p1,p2,p3,p4,p5,p6⟩:=st7 hP;have gw:=hv.keep ev;have qs:=hP
 go_upto_region 4 with (go_at_call 18;refine rR (N8 _ s _ L gw) λw1 bq=>?_;rw[HC.out])
 have bp:=hP.keep bq;have fv:=gw.keep bq;have ai:=An ev bq;have eg:=hZ.keep ai;clear p0 p1 p2 p3 p4 p5 p6 hP qs gw ev bq;by_cases h1:n<1
 .have P:=Ar (show Bc s Z=(3,[],[]) by rw[HS.out,if_pos (.inl h1)]);obtain rfl:n=0:=by omega
  go_wp2_with fail
  go_ret3
  rw[P.out];exact ig.none_ ai
 by_cases h6:6<n
 .have P:=Ar (show Bc s Z=(3,[],[]) by rw[HS.out,if_pos (.inr h6)]);have B1:((n:Int)<1)=False:=by simp;omega
  have B2:((6:Int)<(n:Int))=True:=by simp;omega
  go_wp2_with fail
  go_ret3
  rw[P.out];exact ig.none_ ai
 have au:=Ar (show Bc s Z=if Bp (λi=>decide (gi Z i<0) || decide ((s.sz.length:Int)<=gi Z i)) n then (3,[],[]) else if 60<(Kq s).length*n then (5,[],[]) else Hc s Z (Kq s) n by rw[HS.out,if_neg (by omega)]);have B1:((n:Int)<1)=False:=by simp;omega
 have B2:((6:Int)<(n:Int))=False:=by simp;omega
 have r6:n<=6:=by omega
 let⟨ns,n3⟩:=gN s.sz.length
 rw[n3]at bp au y1 fv;have j7:=Ar fv;clear HS n3 fv h1 h6 v1 v3 v6 sv;go_upto_region 7 with fail;clear B1 B2;go_loopw [8] (λi wx=>∃k:Nat,k<=n/\i=.int .i64 k/\Hid (Bp (λi=>decide (gi Z i<0) || decide ((ns:Int)<=gi Z i)) k=false)/\Be w1 wx) λi _=>n-(intOf i).toNat
 case atStart=>exact⟨0,Nat.zero_le _,rfl,Ar rfl,bl0⟩
 obtain⟨k,hk,rfl,hA,d⟩:=hrel;by_cases n2:k<n
 .obtain⟨b0,o0,rfl,e0⟩:=(eg.keep d).at_ n2;obtain⟨-,p1,-,-,-,-,-⟩:=st7 (bp.keep d);have HY:=Ar λ(h:(decide (gi Z k<0) || decide ((ns:Int)<=gi Z k))=false)=>Bp.succ (f:=λi=>decide (gi Z i<0) || decide ((ns:Int)<=gi Z i)) hA.out h;have HN:=Ar λ(h:(decide (gi Z k<0) || decide ((ns:Int)<=gi Z k))=true)=>Bp.yes (f:=λi=>decide (gi Z i<0) || decide ((ns:Int)<=gi Z i)) n2 h;let⟨z,hz⟩:=gN (gi Z k)
  rw[hz]at e0 HY HN;clear hz;have B3:(k:Int)<(n:Int):=by omega
  have B0:(0:Int)<=(k:Int):=by omega
  go_upto_region 9 with fail;by_cases F:z<0
  .have P:=Ar (show Bc s Z=(3,[],[]) by rw[au.out,if_pos (HN.out (by simp[F]))]);have hd:decide (z<0)=true:=by simpa using F
   clear F;go_quiet (fail);replace d:=Bd d nq;go_wp2_with fail
   go_ret3
   rw[P.out];exact ig.none_ (An ai d)
  have hd:decide (z<0)=false:=by simpa using F
  clear F;by_cases ca:(ns:Int)<=z
  .have P:=Ar (show Bc s Z=(3,[],[]) by rw[au.out,if_pos (HN.out (by simp;omega))]);have mx:decide ((ns:Int)<=z)=true:=by simpa using ca
   clear ca;go_quiet (fail);replace d:=Bd d nq;go_wp2_with fail
   go_ret3
   rw[P.out];exact ig.none_ (An ai d)
  have mx:decide ((ns:Int)<=z)=false:=by simpa using ca
  have dy:=Ar (HY.out (by rw[hd,mx];rfl));clear ca;go_quiet (fail);replace d:=Bd d nq;go_wp2_with fail;exact⟨⟨k+1,by omega,by go_num,dy,d⟩,by simp[intOf];omega⟩
 obtain rfl:n=k:=by omega
 have a8:=Ar (show Bc s Z=if 60<(Kq s).length*n then (5,[],[]) else Hc s Z (Kq s) n by rw[au.out,if_neg (by rw[hA.out];simp)]);have e8:=bp.keep d;have gf:=j7.out.keep d;have ml:=eg.keep d;have mr:=An ai d;let⟨C,hC⟩:=gN (Kq s)
 rw[hC]at a8 c7;have pq:=Ar hC;clear hC au hA bp j7 eg d;let⟨p0,p1,p2,p3,p4,p5,p6⟩:=st7 e8
 go_upto_region 12 with (go_at_call 19;refine(Aev _ s _ L gf).mono ?_;rintro e w3 ⟨vc,rfl,fc,b2⟩;rw[pq.out]at fc)
 obtain⟨Ac,cc,rfl,fa,zi,ly⟩:=Tb.pls fc;have qv:=e8.keep b2;have rn:=gf.keep b2;have qy:=ml.keep b2;have ad:=An mr b2;have iy:=Ar (λj k (h1:j<=n) (G:k<=C.length) h3 h4=>X7 (s:=s) (Z:=Z) (z:=gi Z j) (C:=C) (j:=j) (k:=k) (n:=j) (by omega) c7 G h3 h4);let⟨m,hm⟩:=gN C.length
 rw[hm]at fa ly a8 c7 iy ⊢;have HM:=Ar hm;let⟨q,hq⟩:=gN (m*n)
 have w2:q<=16*6:=by rw[<-hq];exact Nat.mul_le_mul c7 r6
 have W1:IntKind.i64.wrap ((m:Int)*(n:Int))=(q:Int):=by
  rw[show (m:Int)*(n:Int)=(q:Int) by rw[<-hq];exact(Int.natCast_mul m n).symm,IntKind.wrap_i64];omega
 rw[hq]at a8;clear e8 gf ml b2 p0 p1 p2 p3 p4 p5 p6 fc hm hq mr;by_cases e3:60<q
 .have P:=Ar (show Bc s Z=(5,[],[]) by rw[a8.out,if_pos e3]);have B3:((60:Int)<(q:Int))=True:=by simp;omega
  go_wp2_with fail
  go_ret3
  rw[P.out];exact ig.none_ ad
 have j6:=Ar (show Bc s Z=Hc s Z C n by rw[a8.out,if_neg e3]);have B3:((60:Int)<(q:Int))=False:=by simp;omega
 clear a8 e3;go_upto_region 17 with fail;clear B3 W1;go_loopw [10,11,12,13,14,15,16,17,18,19] (λv1 v2 i _ _ _ _ _ _ _ wx=>∃j:Nat,j<=n/\i=.int .i64 j/\Hid ((Hc s Z C j).1=0)/\Vj wx w3.heap.size v1 (Hc s Z C j).2.1/\Tb wx w3.heap.size v2 (Hc s Z C j).2.2/\Be w3 wx) λ_ _ i _ _ _ _ _ _ _ _=>n-(intOf i).toNat
 case atStart=>exact⟨0,Nat.zero_le _,rfl,Ar rfl,Vj.nil,OwG.nil,bl0⟩
 obtain⟨j,hj,rfl,F,K,J,d⟩:=hrel;by_cases r4:j<n
 .obtain⟨b0,o0,rfl,e2⟩:=qy.at_ r4;have e0:=Aq d e2;have HU:=Ar (show Hc s Z C (j+1)=Hi s (gi Z j) j C (Hc s Z C j) m by rw[Hc,if_neg (by rw[F.out];simp),HM.out]);have dk:=Ar (λk (G:k<=m) h4=>iy.out j k hj G F.out h4)
  have pn:=Ar (λ(x:Int) (h:Hc s Z C (j+1)=(x,[],[])) (hx:x≠0)=>show Bc s Z=(x,[],[]) by
   rw[j6.out];have:=X6 h hx (n-(j+1));rwa [show j+1+(n-(j+1))=n by omega] at this)
  let⟨a,ha⟩:=gN (Hc s Z C j)
  let⟨z,hz⟩:=gN (gi Z j)
  rw[ha]at K J F HU dk;rw[hz]at e0 e2 HU dk;clear ha hz;have B4:(j:Int)<(n:Int):=by omega
  obtain⟨wa,rfl⟩:∃wa:World,wa=wr:=⟨_,rfl⟩
  go_upto_region 20 with fail;go_loopw [10,11,13,14,15,16,17,18,19] (λv1 v2 i _ _ _ _ _ _ wx=>∃k:Nat,k<=m/\i=.int .i64 k/\Hid ((Hi s z j C a k).1=0)/\Vj wx w3.heap.size v1 (Hi s z j C a k).2.1/\Tb wx w3.heap.size v2 (Hi s z j C a k).2.2/\Be w3 wx) λ_ _ i _ _ _ _ _ _ _=>m-(intOf i).toNat
  case atStart=>exact⟨0,Nat.zero_le _,rfl,Ar F.out,K,J,d⟩
  clear K J d e0;obtain⟨k,hk,rfl,h0,K,J,d⟩:=hrel;by_cases n0:k<m
  .obtain⟨b1,o1,rfl,mv⟩:=(ly.keep d).at_ n0;let⟨l0,l1,l2,l3,l4,l5,l6⟩:=mv k n0;have HI:=Ar (show Hi s z j C a (k+1)=if (Fq s z (plc C k)).2≠0 then ((Fq s z (plc C k)).2,[],[]) else (0,(Hi s z j C a k).2.1++[(Fq s z (plc C k)).1],(Hi s z j C a k).2.2++[Ts (plc C k) j]) by rw[Hi,if_neg (by rw[h0.out];simp)]);have cu:=dk.out k hk h0.out;have pj:=Ar (λ(x:Int) (h:Hi s z j C a (k+1)=(x,[],[])) (hx:x≠0)=>pn.out x (by rw[HU.out];have:=X8 h hx (m-(k+1));rwa [show k+1+(m-(k+1))=m by omega] at this) hx);let⟨S,hS⟩:=gN ((Hi s z j C a k).2.1)
   let⟨Q,hQ⟩:=gN ((Hi s z j C a k).2.2)
   rw[hS]at K HI cu;rw[hQ]at J HI cu;let⟨⟨ga,O,cp,fl,qu,cx,cy⟩,na⟩:∃c,plc C k=c:=⟨_,rfl⟩
   rw[na]at l0 l1 l2 l3 l4 l5 l6 HI;dsimp only at l0 l1 l2 l3 l4 l5 l6;clear mv hS hQ na;have B5:(k:Int)<(m:Int):=by omega
   go_upto_region 23 with fail;refine Bq λY a7 hK=>?_
   let⟨BP,la⟩:=gN wr.heap.size
   rw[la]at hK ⊢;have fK:=hK.frozen 0;have s0:=(st7 hK).1;clear l0 l1 l2 l3 l4 l5 l6;go_upto_region 24 with fail;refine Cj (λU=>Be wr U/\Bf U BP 62 #[(j:Int),O,cp,.bool fl,qu,cx,cy]) ⟨Ba a7 (p:=⟨BP,0,none⟩) (Nat.le_of_eq la) _,hK.set_ 0 _⟩ ?_;rintro U ⟨a6,aw⟩;clear fK s0 hK a7;let⟨k0,k1,k2,k3,k4,k5,k6⟩:=st7 aw;have ec:=(qv.keep d).keep a6;let⟨p0,p1,p2,p3,p4,p5,p6⟩:=st7 ec;have gg:=(rn.keep d).keep a6;have eU:=Aq (An d a6) e2
   have KF:∀W,Be U W->(λb=>Cq b w.heap.size 0 (.string s.nm)/\Cq b w.heap.size 1 (.slice A1 ns c1)/\Cq b w.heap.size 2 (.slice A2 s.mu.length c2)/\Cq b w.heap.size 3 (.slice A3 s.pc.length c3)/\Cq b w.heap.size 4 (.slice A4 s.us.length c4)/\Cq b w.heap.size 5 (.slice A5 s.se.length c5)/\Cq b w.heap.size 6 (.slice A6 s.no c6)/\Cq b b0 (o0+j) z/\Cq b BP 1 O) W:=λW h=>by
    let⟨p0,p1,p2,p3,p4,p5,p6⟩:=st7 (ec.keep h);exact⟨p0,p1,p2,p3,p4,p5,p6,Aq h eU,(st7 (aw.keep h)).2.1⟩
   have D:=Aw (Below.refl U.heap.size U);let⟨r,hr⟩:=gN (J5 s z O)
   obtain⟨l,x⟩:=r;have HE:=Ar hr;clear k0 k1 k2 k3 k4 k5 k6 p0 p1 p2 p3 p4 p5 p6
   go_region_held3 (λb=>Cq b w.heap.size 0 (.string s.nm)/\Cq b w.heap.size 1 (.slice A1 ns c1)/\Cq b w.heap.size 2 (.slice A2 s.mu.length c2)/\Cq b w.heap.size 3 (.slice A3 s.pc.length c3)/\Cq b w.heap.size 4 (.slice A4 s.us.length c4)/\Cq b w.heap.size 5 (.slice A5 s.se.length c5)/\Cq b w.heap.size 6 (.slice A6 s.no c6)/\Cq b b0 (o0+j) z/\Cq b BP 1 O)
    (with_reducible exact KF _ D)
    ((go_at_call 20;(with_reducible refine(Aof _ s z O _ L (gg.keep D)).mono ?_);rintro e w5 ⟨v5,rfl,b6,r0⟩;rw[HE.out]at b6 ⊢;replace b6:=OwG.lower b6 D.size;replace D:=An D r0))
   by_cases hx:x=0
   .subst hx;have gx:(J5 s z O).2=0:=by rw[hr]
    let⟨G,h3⟩:=Aef gx;have c9:=tu gx;rw[hr]at c9;have HO:=Ar (Ry (s:=s) (z:=z) (u:=O) (E:=(Ii s z O).1) (Prod.ext rfl h3));let⟨⟨⟨bx,bY⟩,y⟩,bw⟩:∃e,Rn s z O=e:=⟨_,rfl⟩
    rw[bw]at G;dsimp only at G c9;subst G
    have ds:=Ar (show Fq s z ⟨ga,O,cp,fl,qu,cx,cy⟩=(⟨if fl then F6 true 0 l else l,(Cg s O).gr,(Cg s O).mt,if fl then Cd true 0 (bx,bY) else (bx,bY)⟩,0) by
     unfold Fq;dsimp only;rw[hr,bw];simp)
    have HB:=Ar bw;have nd:=Ar λW (h:Be w5 W)=>gg.keep (An D h);have KG:=Ar λW (h:Be w5 W)=>KF W (An D h);have I:=Aw (Below.refl w5.heap.size w5);clear gx h3 bw hr KF;obtain⟨Ap,kl,rfl,r2,fa,ee,e5⟩:=Zk b6;let⟨np,fb⟩:=gN l.length
    rw[fb]at fa ee e5 c9 ⊢;have pv:=Ar fb;clear b6 fb;go_upto_region 27 with fail;go_cut [17,18] (λu v W=>∃g:Nat,u=.pointer (some ⟨g,0,none⟩)/\v=.int .i64 0/\Bf W g 60 #[bx,bY]/\w5.heap.size<=g/\Be w5 W)
    case first =>
     go_region_held3 (λb=>Cq b w.heap.size 0 (.string s.nm)/\Cq b w.heap.size 1 (.slice A1 ns c1)/\Cq b w.heap.size 2 (.slice A2 s.mu.length c2)/\Cq b w.heap.size 3 (.slice A3 s.pc.length c3)/\Cq b w.heap.size 4 (.slice A4 s.us.length c4)/\Cq b w.heap.size 5 (.slice A5 s.se.length c5)/\Cq b w.heap.size 6 (.slice A6 s.no c6)/\Cq b b0 (o0+j) z/\Cq b BP 1 O)
      ((refine KG.out _ ?_;((repeat (first|with_reducible exact I|exact bl0|refine Aw ?_|refine Ao ?_ _|refine Ba ?_ (by simp only[];omega) _)))))
      ((go_at_call 21;(with_reducible refine(Aew _ s z O _ L (nd.out _ (by ((repeat (first|with_reducible exact I|exact bl0|refine Aw ?_|refine Ao ?_ _|refine Ba ?_ (by simp only[];omega) _)))))).mono ?_);rintro e w6 ⟨rfl,b5⟩;rw[HB.out];replace I:Be w5 w6:=An (by ((repeat (first|with_reducible exact I|exact bl0|refine Aw ?_|refine Ao ?_ _|refine Ba ?_ (by simp only[];omega) _)))) b5;(first|(have kB:=Bf.keep (Bf.new _ _ _) b5;obtain⟨j0,j1,f0,f1,-⟩:=kB.pair)|(have kB:=Bf.keep (Bf.drew (Bf.new w5 _ _)) b5;obtain⟨j0,j1,f0,f1,-⟩:=kB.pair)|skip)))
     all_goals go_wp2_with fail
     all_goals go_meet
     all_goals (first
      | with_reducible exact⟨w6.heap.size,rfl,rfl,Bf.new _ _ _,I.size,Ao I _⟩
      | with_reducible exact⟨_,rfl,rfl,(kB.set_ 0 _).set_ 1 _,Nat.le_refl _,Ba (Ba I (Nat.le_refl _) _) (Nat.le_refl _) _⟩)
    obtain⟨g,rfl,rfl,hA,hg,a1⟩:=hcut;let⟨PL,e9⟩:=gN (if fl=true then F6 true 0 l else l)
    let⟨⟨ax,ay⟩,ek⟩:∃p,(if fl=true then Cd true 0 (bx,bY) else (bx,bY))=p:=⟨_,rfl⟩
    rw[e9,ek]at ds;have j2:=Ar e9;have im:=Ar ek;have mf:=ee.keep a1;have lf:=e5.keep a1;have lo:=(aw.keep D).keep a1;have rr:U.heap.size<=w5.heap.size:=D.size;have k3:=(st7 lo).2.2.2.1;clear e9 ek I KG ee e5
    go_upto_if 107 with fail
    go_cut [15] λv W=>∃A' n' c',v=.slice A' n' c'/\n'=PL.length/\c'<=9223372036854775807/\ElS W U.heap.size (.slice A' n' c') PL/\Bf W g 60 #[ax,ay]/\Be w5 W
    case first =>
     cases fl with
     | false =>
       have h1:=j2.out;have G:=im.out;simp only[Bool.false_eq_true,if_false]at h1 G;subst h1;injection G with G h3
       subst G h3;go_wp2_with fail;go_meet;exact⟨Ap,np,kl,rfl,pv.out.symm,r2,lf,hA,a1⟩
     | true =>
       have h1:=j2.out;have G:=im.out;simp only[if_true]at h1 G;subst h1;have pw:=Ar (show (Cd true 0 (bx,bY)).1=ax by rw[G]);have dy:=Ar (show (Cd true 0 (bx,bY)).2=ay by rw[G]);clear G
       go_upto_region 30 with (first
        | (go_at_call 23;refine rR (kf _) λw7 H=>?_)
        | (go_at_call 22;have vt:=H;refine(bg true 0 Ap kl np l _ c9 (mf.keep H)).mono ?_;rintro e w8 ⟨v8,rfl,fs,bs⟩))
       obtain⟨A5,q5,rfl,q1,q2,q3,q4⟩:=Zk fs;have za:g<w7.heap.size:=Nat.lt_of_lt_of_le hA.lt H.size;have qw:U.heap.size<=w7.heap.size:=Nat.le_trans rr (Nat.le_trans a1.size H.size);have R:=hA.keep (An H bs);have t:=Aw (Below.refl w8.heap.size w8);obtain⟨y0,y1,-,-,-⟩:=R.pair
       go_region_law ((first
        | (go_simp;go_at_call 24;(with_reducible refine(L6 true 0 bx bY _).mono ?_);rintro e w9 ⟨rfl,eo⟩;rw[pw.out,dy.out];replace t:=An t eo;obtain⟨y0,y1,f0,f1,-⟩:=(R.keep t).pair)
        | (go_simp;go_at_call 23;(with_reducible refine(kf _).mono ?_);rintro e w6 ⟨rfl,b5⟩;replace t:=An t b5;obtain⟨y0,y1,f0,f1,-⟩:=(R.keep t).pair)))
       all_goals go_wp2_with fail
       all_goals go_meet
       all_goals refine⟨A5,_,q5,rfl,rfl,q1,((q4.keep t).keepAbove λk cs fr hk _=>?_).lower qw,((R.keep t).set_ 0 _).set_ 1 _,Ba (Ba (An a1 (An (An H bs) t)) (p:=⟨g,0,none⟩) hg _) (p:=⟨g,1,none⟩) hg _⟩
       all_goals have mz:k≠g:=by have G:w7.heap.size<=k:=hk;omega
       all_goals exact(Dv _ _ _ _ mz).trans (Dv _ _ _ _ mz)
    obtain⟨A8,n8,c8,rfl,-,r1,lb,R,bs⟩:=hcut;have bt:=An D bs;have lx:=ec.keep bt;have e6:=aw.keep bt;have mo:=An ad (An d (An a6 bt));have nr:=v9.keep mo;have da:=ss.keep mo;obtain⟨ni,-,-,sq,sr,-⟩:=HO.out;obtain⟨u,rfl⟩:∃u:Nat,O=u:=⟨O.toNat,by omega⟩
    have hu:u<s.us.length:=by omega
    have dx:=Ar ((Rr ni).2 u hu);have y3:=L.pc;have y4:=L.us;clear ni sq sr hA lf mf lo k3 a1 gg nd;obtain⟨b4,o4,rfl,e4,-,-⟩:=da.at_ hu;let⟨i,hi⟩:∃i:Nat,(use s.us u).pc=i:=⟨(use s.us u).pc.toNat,by have:=dx.out;omega⟩
    have r3:i<s.pc.length:=by have:=dx.out.2.1;rw[hi]at this;omega
    have j5:=Ar (show Cg s u=pce s.pc i by unfold Cg;rw[show ((u:Int)).toNat=u by omega,hi];rfl);rw[hi]at e4;obtain⟨M,N,rfl,As,cw,hc⟩:=nr.at_ r3;let⟨o,nb⟩:=gN (pce s.pc i)
    rw[nb]at cw j5;rw[j5.out]at ds;obtain⟨E1,d1,E2,d2,E3,d3,E4,d4,rfl,-⟩:=cw;have x0:=hc 0 _ rfl;rw[Nat.add_zero]at x0;have x1:=hc 1 _ rfl;have x2:=hc 2 _ rfl;have x3:=hc 3 _ rfl;have x4:=hc 4 _ rfl;have x5:=hc 5 _ rfl;have x6:=hc 6 _ rfl;have B6:(u:Int)<(s.us.length:Int):=by omega
    have B7:(i:Int)<(s.pc.length:Int):=by omega
    obtain⟨T,rfl⟩:∃W:World,W=wc:=⟨_,rfl⟩
    have KF:∀b,Be T b->(λb=>Cq b w.heap.size 3 (.slice (some ⟨M,N,none⟩) s.pc.length c3)/\Cq b w.heap.size 4 (.slice (some ⟨b4,o4,none⟩) s.us.length c4)/\Cq b BP 1 (u:Int)/\Cq b b4 (o4+u*3) (i:Int)/\Cq b M (N+i*7) (.string o.nm)/\Cq b M (N+i*7+1) (.slice E1 o.ed.length d1)/\Cq b M (N+i*7+2) o.gr/\Cq b M (N+i*7+3) (.slice E2 o.nt.length d2)/\Cq b M (N+i*7+4) (.slice E3 o.cr.length d3)/\Cq b M (N+i*7+5) (.slice E4 o.wd.length d4)/\Cq b M (N+i*7+6) (.bool o.mt)) b:=λb d=>by
     obtain⟨-,-,-,j3,j4,-,-⟩:=st7 (lx.keep d);exact⟨j3,j4,(st7 (e6.keep d)).2.1,Aq d e4,Aq d x0,Aq d x1,Aq d x2,Aq d x3,Aq d x4,Aq d x5,Aq d x6⟩
    have t:=Aw (Below.refl T.heap.size T);clear hc nb hi e4 x0 x1 x2 x3 x4 x5 x6 nr da dx;go_upto_region 31 with fail;go_cut [19] λv W=>v=.pointer (some ⟨T.heap.size,0,none⟩)/\Be T W/\Bf W T.heap.size 48 #[.string o.nm,.slice E1 o.ed.length d1,o.gr,.slice E2 o.nt.length d2,.slice E3 o.cr.length d3,.slice E4 o.wd.length d4,.bool o.mt]
    case first =>
     go_region_held3 (λb=>Cq b w.heap.size 3 (.slice (some ⟨M,N,none⟩) s.pc.length c3)/\Cq b w.heap.size 4 (.slice (some ⟨b4,o4,none⟩) s.us.length c4)/\Cq b BP 1 (u:Int)/\Cq b b4 (o4+u*3) (i:Int)/\Cq b M (N+i*7) (.string o.nm)/\Cq b M (N+i*7+1) (.slice E1 o.ed.length d1)/\Cq b M (N+i*7+2) o.gr/\Cq b M (N+i*7+3) (.slice E2 o.nt.length d2)/\Cq b M (N+i*7+4) (.slice E3 o.cr.length d3)/\Cq b M (N+i*7+5) (.slice E4 o.wd.length d4)/\Cq b M (N+i*7+6) (.bool o.mt))
      (first
       | with_reducible exact KF _ t
       | with_reducible exact KF _ (Aw blA))
      (fail)
     all_goals go_wp2_with fail
     all_goals go_meet
     all_goals exact⟨rfl,Aw blA,Bf.drew (Bf.new _ _ _)⟩
    obtain⟨rfl,a7,hQ⟩:=hcut;obtain⟨V,rfl⟩:∃W:World,W=wc:=⟨_,rfl⟩
    have dc:=Ar (show Hi s z j C a (k+1)=(0,S++[⟨PL,o.gr,o.mt,(ax,ay)⟩],Q++[Ts ⟨ga,(u:Int),cp,fl,qu,cx,cy⟩ j]) by rw[HI.out,ds.out];simp);have er:=An (An a6 bt) a7;have qx:w3.heap.size<=U.heap.size:=Nat.le_trans d.size a6.size;have rm:ShV V w3.heap.size ⟨A8,n8,c8,o.gr,o.mt,ax,ay⟩ ⟨PL,o.gr,o.mt,(ax,ay)⟩:=⟨rfl,rfl,rfl,rfl,(lb.keep a7).lower qx,r1⟩;have lr:=e6.keep a7;obtain⟨y0,y1,-,-,-⟩:=(R.keep a7).pair;obtain⟨-,-,q2,-,-,-,q6⟩:=pc7 hQ;have ak:=Ao (Below.refl V.heap.size V) (.cells #[.slice A8 n8 c8,o.gr,.bool o.mt,ax,ay] 72);have b9:=(Vj.keep K er).keep ak;have nc:=rm.keep ak;have e7:=lr.keep ak;have b8:=OwG.keep (OwG.keep J er) ak;have bu:=An (An d er) ak;let⟨Ax,gy⟩:=b9.own;clear lx e6 lb R KF t
    go_upto_region 33 with (at_builtin;refine Mq rfl _ _ rfl w3.heap.size _ S rfl b9 V.heap.size 1 A8 n8 c8 o.gr o.mt ax ay ⟨PL,o.gr,o.mt,(ax,ay)⟩ 72 rfl (Bf.new _ _ _) nc (by omega) bu.size ?_;intro v7 w7 r7 ey n1)
    clear y0 y1 q2 q6;have lk:=e7.grown ey (OwG.neB gy e7 (by decide));have n5:=OwG.kept b8 ey (OwG.apart b8 gy (by decide));have H:=Below.grown bu ey bu.size n1;let⟨k0,k1,k2,k3,k4,k5,k6⟩:=st7 lk;have ba:=Ao (Below.refl w7.heap.size w7) (.cells #[(j:Int),(u:Int),cp,.bool fl,qu,cx,cy] 62);have b7:=OwG.keep n5 ba;have fs:=Vj.keep r7 ba;have ck:=An H ba;clear e7 b8 bu b9 gy ak lk aw lr
    go_wp2_with (at_builtin;refine Eu rfl _ _ rfl w3.heap.size _ Q rfl b7 w7.heap.size 1 ⟨(j:Int),(u:Int),cp,fl,qu,cx,cy⟩ 62 rfl (Bf.new _ _ _) (by omega) ck.size ?_;intro v9 w9 r8 my vo)
    have n9:=Vj.grown fs b7 (by decide) (by decide) my;have eo:=Bk ck b7 my;go_roundw
    case rel=>exact⟨k+1,by omega,by go_num,Ar (by rw[dc.out]),by rw[dc.out];exact n9,by rw[dc.out];exact r8,eo⟩
    case measure=>simp[intOf];omega
   have P:=Ar (pj.out x (by rw[HI.out,if_pos (by unfold Fq;dsimp only;rw[hr,if_pos hx];exact hx)];unfold Fq;dsimp only;rw[hr,if_pos hx]) hx);have zk:(x != 0)=true:=by simpa using hx
   clear hx hr;go_wp2_with fail
   go_ret3
   rw[P.out];exact ig.none_ (An ad (An d (An a6 D)))
  obtain rfl:m=k:=by omega
  go_wp2_with fail;exact⟨⟨j+1,by omega,by go_num,Ar (by rw[HU.out];exact h0.out),by rw[HU.out];exact K,by rw[HU.out];exact J,d⟩,by simp[intOf];omega⟩
 obtain rfl:n=j:=by omega
 go_wp2_with fail
 go_ret3
 have P:=Ar (show Bc s Z=Hc s Z C n from j6.out);exact⟨_,_,by rw[P.out,F.out];rfl,by rw[P.out];exact K.lower ad.size,by rw[P.out];exact OwG.lower J ad.size,An ad d⟩
theorem Ae9(b:Array Value) (s:StyleP) (A:Option Addr) (n c:Nat) (Z:List Int) (w:World) (g:n<=c) (d:c<=9223372036854775807) (f:InS w A n Z) (a:SmS s) (e:StV w b s) :
 Calls Tryz.prog 7 #[.agg b,.slice A n c] w (ig w (Bc s Z)):=by
 by_cases h:Bv s=0
 .exact Al6 b s A n c Z w g d f a e h
 rw[show Bc s Z=(Bv s,[],[]) by unfold Bc;rw[if_pos h]];exact Al7 b s A n c Z w a e h
theorem Gr(b:Array Value) (s:StyleP) (A:Option Addr) (n c:Nat) (Z:List Int) (w:World) (g:n<=c) (d:c<=9223372036854775807) (f:InS w A n Z) (a:SmS s) (e:StV w b s) :
 Calls Tryz.prog 6 #[.agg b,.slice A n c] w (ig w (Bc s Z)):=by
 by_cases h:Bv s=0
 .exact Aoi b s A n c Z w g d f a e h
 rw[show Bc s Z=(Bv s,[],[]) by unfold Bc;rw[if_pos h]];exact Aoj b s A n c Z w a e h
theorem ju(A B:Option Addr) (r s n:Nat) (l:LP) (w:World) (D:n<=9223372036854775807) (o:SpS w A n l) (p:SpS w B n l) :
 Calls Tryz.prog 25 #[.slice A n r,.slice B n s] w (Bz w (.bool true)):=by
 have t:=Ea;have q:((n:Int) != (n:Int))=false:=by simp
 go_in;go_wp2;go_loopw [5] (λi wr=>∃k:Nat,k<=n/\i=.int .i64 k/\Be w wr) λi _=>n-(intOf i).toNat
 case atStart=>exact⟨0,Nat.zero_le _,rfl,bl0⟩
 obtain⟨k,C,rfl,b⟩:=hrel;by_cases a:k<n
 .obtain⟨v,F,rfl,-,e⟩:=(o.keep b).at_ a;obtain⟨z,G,rfl,-,f⟩:=(p.keep b).at_ a;let⟨g,h⟩:=e k a;let⟨j,m⟩:=f k a;generalize d:gt l k=u at g h j m;obtain⟨x,y⟩:=u;dsimp only at g h j m;clear d e f o p;have E:eqS (x,y) (x,y)=true:=(Ge _ _).2 rfl;go_wp2;go_quiet (fail);have c:=Bd b nq;clear b;go_wp2;exact⟨⟨k+1,by omega,by go_num,c⟩,by simp[intOf];omega⟩
 obtain rfl:n=k:=by omega
 go_wp2;go_ret;exact⟨rfl,b⟩
theorem Aiu(A B:Option Addr) (Z cb n:Nat) (S:List Shp) (w:World) (t:ShS w A n S) (I:ShS w B n S) :
 Calls Tryz.prog 8 #[.slice A n Z,.slice B n cb] w (Bz w (.bool true)):=by
 have hn:=t.2.1;have q:((n:Int) != (n:Int))=false:=by simp
 go_in;go_upto_region 4 with fail;clear q;go_loopw [5] (λi wx=>∃k:Nat,k<=n/\i=.int .i64 k/\Be w wx) λi _=>n-(intOf i).toNat
 case atStart=>exact⟨0,Nat.zero_le _,rfl,bl0⟩
 obtain⟨k,hk,rfl,J⟩:=hrel;by_cases f:k<n
 .obtain⟨c,g,rfl,-,G⟩:=t.at_ f;obtain⟨d,j,rfl,-,H⟩:=I.at_ f;generalize hs:shp S k=s at G H;obtain⟨P,p,r,l,o⟩:=s;obtain⟨z,E,x,L,M,N,-,O,Q,R,T⟩:=G;have K:=Nat.le_trans L M;clear L M;obtain⟨C,F,y,-,-,U,-,V,W,X,Y⟩:=H;dsimp only at *
  generalize v:P.length=m at K x N y U;have B1:(k:Int)<(n:Int):=by omega
  have B0:(0:Int)<=(k:Int):=by omega
  have Q1:(p != p)=false:=by simp
  have Q2:(r != r)=false:=by simp
  have Q3:(decide (l=l)&&decide (o=o))=true:=by simp
  have D:∀a,Be w a->(λa=>Cq a c (g+k*5) (.slice z m E)/\Cq a c (g+k*5+1) p/\Cq a c (g+k*5+2) (.bool r)/\Cq a c (g+k*5+3) l/\Cq a c (g+k*5+4) o/\Cq a d (j+k*5) (.slice C m F)/\Cq a d (j+k*5+1) p/\Cq a d (j+k*5+2) (.bool r)/\Cq a d (j+k*5+3) l/\Cq a d (j+k*5+4) o) a:=λa h=>⟨Aq h x,Aq h O,Aq h Q,Aq h R,Aq h T,Aq h y,Aq h V,Aq h W,Aq h X,Aq h Y⟩
  have b:=An J (Aw (Below.refl wr.heap.size wr));clear hs v x O Q R T y V W X Y t I;go_upto_region 6 with fail
  go_region_held3 (sB D)
   (with_reducible exact D _ b)
   ((go_at_call 25;(with_reducible refine(ju z C E F m P _ K (N.keep b) (U.keep b)).mono ?_);rintro e w5 ⟨rfl,u⟩;replace b:=An b u))
  go_wp2;exact⟨⟨k+1,by omega,by go_num,b⟩,by simp[intOf];omega⟩
 obtain rfl:n=k:=by omega
 go_wp2;go_ret;exact⟨rfl,J⟩
theorem Ajj(A B:Option Addr) (T U n:Nat) (l:List PlcP) (w:World) (hn:n<=1000000) (s:PlS w A n l) (t:PlS w B n l) :
 Calls Tryz.prog 9 #[.agg #[.int .i64 0,.int .i64 0,.int .i64 0,.int .i64 0,.slice none 0 0,.slice A n T],.agg #[.int .i64 0,.int .i64 0,.int .i64 0,.int .i64 0,.slice none 0 0,.slice B n U]] w (Bz w (.bool true)):=by
 have q:((n:Int) != (n:Int))=false:=by simp
 go_in;go_upto_region 1 with fail;refine Eo λX d j u=>?_
 have e:∀{W:World} {g:Nat} {C:Value},Bf W g 42 #[.int .i64 0,.int .i64 0,.int .i64 0,.int .i64 0,.slice none 0 0,C]->Cq W g 0 (.int .i64 0)/\Cq W g 1 (.int .i64 0)/\Cq W g 2 (.int .i64 0)/\Cq W g 3 (.int .i64 0)/\Cq W g 4 (.slice none 0 0)/\Cq W g 5 C:=λH=>⟨(H.cell 0).trans rfl,(H.cell 1).trans rfl,(H.cell 2).trans rfl,(H.cell 3).trans rfl,(H.cell 4).trans rfl,(H.cell 5).trans rfl⟩
 let⟨V,Y,Z,y,z,p5⟩:=e j;let⟨q0,q1,q2,q3,D,q5⟩:=e u;go_upto_region 4 with fail;go_loopw [5] (λi o=>i=.int .i64 0/\o=X) λ_ _=>0
 case atStart=>exact⟨rfl,rfl⟩
 obtain⟨rfl,v⟩:=hrel;rw[v];clear v;go_upto_region 9 with fail;clear q V Y Z y z p5 q0 q1 q2 q3 D q5;have f:=s.keep d;have h:=t.keep d;clear s t;go_loopw [6] (λi o=>∃k:Nat,k<=n/\i=.int .i64 k/\Be X o) λi _=>n-(intOf i).toNat
 case atStart=>exact⟨0,Nat.zero_le _,rfl,bl0⟩
 obtain⟨k,hk,rfl,b⟩:=hrel;have z:=(e (j.keep b)).2.2.2.2.2;have D:=(e (u.keep b)).2.2.2.2.2;have y:=(e (j.keep b)).2.2.2.2.1;by_cases a:k<n
 .obtain⟨b1,o1,rfl,p⟩:=(f.keep b).at_ a;obtain⟨b2,o2,rfl,r⟩:=(h.keep b).at_ a;let⟨E,F,G,I,J,K,L⟩:=p k a;let⟨M,N,O,P,Q,R,S⟩:=r k a;let⟨⟨ga,us,cp,fl,qu,cx,cy⟩,x⟩:∃c,plc l k=c:=⟨_,rfl⟩
  rw[x]at E F G I J K L M N O P Q R S;dsimp only at E F G I J K L M N O P Q R S;have B1:(k:Int)<(n:Int):=by omega
  have B0:(0:Int)<=(k:Int):=by omega
  clear x p r;go_upto_region 11 with fail;go_quiet (fail);have m:=Bd b nq;go_wp2;exact⟨⟨k+1,by omega,by go_num,m⟩,by simp[intOf];omega⟩
 obtain rfl:n=k:=by omega
 go_wp2;go_ret;exact⟨rfl,An d b⟩
theorem Ut(h:a<b.length):gi b a=b[a]:=by
 unfold gi;rw[List.getD,List.getElem?_eq_getElem h];rfl
theorem Rc (f:Int->Int->Int):∀(j:Nat) (l:List Int),j<l.length->(Kk f l j).Perm l
 | 0,l,_=>by rw[Kk]
 | j+1,l,h=>by
   rw[Kk];split
   .have a:=@List.set_set_perm _ l (j+1) j h (by omega);rw[Ut h,Ut (show j<l.length by omega)];exact(Rc f j _ (by simp;omega)).trans a
   exact List.Perm.refl _
theorem Jq (f:Int->Int->Int) (l:List Int):∀i,i<=l.length->(Jb f l i).Perm l
 | 0,_=>List.Perm.refl _
 | i+1,h=>by
   have ih:=Jq f l i (by omega);rw[Jb];exact(Rc f i _ (by rw[ih.length_eq];omega)).trans ih
theorem Ud(S:List Shp):(No S).Perm ((List.range S.length).map λi:Nat=>(i:Int)):=Jq _ _ _ (by simp)
def arT (l:LP) (n:Nat):Nat->Int
 | 0=>0
 | k+1=>arT l n k+((gt l k).1*(gt l ((k+1) % n)).2-(gt l k).2*(gt l ((k+1) % n)).1)
theorem Aqq{x y:Int} (a : -1048576<=x) (b:x<=1048576) (c : -1048576<=y) (d:y<=1048576) : -1099511627776<=x*y/\x*y<=1099511627776:=by
 have h:=Nat.mul_le_mul (show x.natAbs<=1048576 by omega) (show y.natAbs<=1048576 by omega);rw[<-Int.natAbs_mul]at h;generalize x*y=z at h ⊢;omega
theorem Z5 {l:LP} (b:∀q∈l,Du 1048576 q) (c:l.length<=45):∀k,k<=l.length->F4 l l.length k=arT l l.length k /\ -(k:Int)*2199023255552<=arT l l.length k/\arT l l.length k<=(k:Int)*2199023255552
 | 0,_=>by simp[F4,arT]
 | k+1,hk=>by
   let⟨ih,f,g⟩:=Z5 b c k (by omega);have d:=b _ (fo (l:=l) (i:=k) (by omega));have e:=b _ (fo (l:=l) (i:=(k+1) % l.length) (Nat.mod_lt _ (by omega)));unfold Du at d e;have j:=Aqq (x:=(gt l k).1) (y:=(gt l ((k+1) % l.length)).2) (by omega) (by omega) (by omega) (by omega);have m:=Aqq (x:=(gt l k).2) (y:=(gt l ((k+1) % l.length)).1) (by omega) (by omega) (by omega) (by omega);rw[F4,arT,ih];generalize (gt l k).1*(gt l ((k+1) % l.length)).2=u at *
   generalize (gt l k).2*(gt l ((k+1) % l.length)).1=v at *
   generalize arT l l.length k=a at *
   have h:(k:Int)<=45:=by omega
   rw[show wrap64 u=u by unfold wrap64;omega,show wrap64 v=v by unfold wrap64;omega,show wrap64 (u-v)=u-v by unfold wrap64;omega,show wrap64 (a+(u-v))=a+(u-v) by unfold wrap64;omega];refine⟨by omega,by omega,by omega⟩
theorem vf(a:Bg o o.length=0):Qi o=arT o o.length o.length /\ -100000000000000<=Qi o/\Qi o<=100000000000000:=by
 have e:=El a;let⟨b,c,d⟩:=Z5 (gv a) (by omega) o.length (Nat.le_refl _);unfold Qi;rw[if_pos a,b];have:(o.length:Int)<=40:=by omega
 refine⟨rfl,by omega,by omega⟩
theorem Ag4(a:Bg o o.length=0):0<=Vh o/\Vh o<=100000000000000:=by
 have:=vf a;unfold Vh;omega
theorem Aee(l:LP) : -100000000000000<=Qi l/\Qi l<=100000000000000:=by
 by_cases a:Bg l l.length=0
 .exact(vf a).2
 unfold Qi;rw[if_neg a];omega
theorem vj(l:LP):0<=Vh l/\Vh l<=100000000000000:=by
 have:=Aee l;unfold Vh;omega
theorem O5(A:Option Addr) (a n:Nat) (l:LP) (w:World) (i:n<=9223372036854775807) (b:n<=a) (g:SpS w A n l) :
 Calls Tryz.prog 29 #[.slice A n a] w (Bz w (Vh l)):=by
 have d:=Ar (show (if Bg l n=0 then F4 l n n else 0)=Qi l by unfold Qi;rw[g.1]);have h:=Aee l;have f:=Ar (show Vh l=max (Qi l) (-(Qi l)) from rfl);generalize j:Qi l=z at d h f;have k:IntKind.i64.wrap (-z) = -z:=by rw[IntKind.wrap_i64];omega
 clear j;go_in
 go_wp2_with (go_at_call 51;refine rR (Vg A a n l _ i b g) λm c=>?_;rw[d.out])
 go_ret;exact⟨Bm (by rw[f.out]),c⟩
def Ahq (B:Nat):Value:=.func (.func 28) #[] #[.pointer (some ⟨B,0,none⟩)]
theorem Acb(B:Nat) (A:Option Addr) (n c:Nat) (S:List Shp) (i k:Nat) (w:World) (P:Bf w B 32 #[.slice A n c]) (u:ShS w A n S) (Z:i<n) (hk:k<n) :
 Calls Tryz.prog 28 #[(i:Int),(k:Int),.pointer (some ⟨B,0,none⟩)] w (Bz w (Ov S i k)):=by
 have h:=Ar (show Ov S i k=Vh (shp S k).poly-Vh (shp S i).poly by unfold Ov;simp);have c0:Cq w B 0 (.slice A n c):=(P.cell 0).trans rfl;obtain⟨b,g,rfl,-,y⟩:=u.at_ Z;obtain⟨b',T,e,-,z⟩:=u.at_ hk;injection e with e
 injection e with e1 e2
 subst e1 e2;obtain⟨I,N,s,C,i3,D,-⟩:=y;obtain⟨J,O,t,E,k3,F,-⟩:=z;have L:=vj (shp S i).poly;have M:=vj (shp S k).poly;let⟨G,o⟩:=gN ((shp S i).poly)
 let⟨H,p⟩:=gN ((shp S k).poly)
 rw[o]at s C D L h;rw[p]at t E F M h;let⟨Q,q⟩:=gN G.length
 let⟨R,r⟩:=gN H.length
 rw[q]at s C D;rw[r]at t E F;let⟨U,d⟩:=gN (Vh G)
 let⟨V,f⟩:=gN (Vh H)
 have W:=Ar d;have X:=Ar f;rw[d]at L h;rw[f]at M h;have B1:(i:Int)<(n:Int):=by omega
 have B2:(k:Int)<(n:Int):=by omega
 have W1:IntKind.i64.wrap (V-U)=V-U:=by rw[IntKind.wrap_i64];omega
 clear o p q r d f u P;have K:∀j,Be w j->(Cq j B 0 (.slice (some ⟨b,g,none⟩) n c)/\Cq j b (g+i*5) (.slice I Q N)/\Cq j b (g+k*5) (.slice J R O)):=λj v=>⟨Aq v c0,Aq v s,Aq v t⟩
 have a:=Aw (Below.refl w.heap.size w);clear c0 s t;go_in;go_upto_region 1 with fail
 go_region_held3 (sB K)
  (with_reducible exact K _ a)
  ((first
    | (go_at_call 29;have Y:=m;(with_reducible refine(O5 I N Q G _ (by omega) C (D.keep a)).mono ?_);rintro e w5 ⟨rfl,x⟩;rw[W.out];replace a:=An a x)
    | (go_at_call 29;(with_reducible refine(O5 J O R H _ (by omega) E (F.keep a)).mono ?_);rintro e w4 ⟨rfl,m⟩;rw[X.out];replace a:=An a m)))
 go_wp2;go_ret;exact⟨Bm (by rw[h.out]),a⟩
theorem OwI.cellsI{w:World}   (h:OwI w a (.slice (some ⟨i,0,none⟩) n k) b) (f:b.length=n) {c:Nat} (e:c<n):Cq w i c (gi b c)/\w.frozen? ⟨i,c,none⟩=false:=by
 subst f;have c0:=OwG.cells h c (by omega);have d:=Bu Ml b c 0 _ (Wr e) (by omega);rw[Nat.mul_one,Nat.add_zero]at d;rw[d]at c0;exact⟨c0,OwG.frozen h _⟩
theorem sc{k:Nat} (x:Int):(b.flatMap enI).set k (.int .i64 x)=(b.set k x).flatMap enI:=by
 induction b generalizing k with
 | nil=>simp
 | cons a b ih =>
   cases k with
   | zero=>simp[enI]
   | succ k=>rw[List.set_cons_succ,List.flatMap_cons,List.flatMap_cons,<-ih];simp[enI]
theorem OwI.storeI{w:World}   (h:OwI w a (.slice (some ⟨i,0,none⟩) n k) b) (e:b.length=n) (c:Nat) (x:Int):OwI (w.setCell ⟨i,c,none⟩ (.int .i64 x)) a (.slice (some ⟨i,0,none⟩) n k) (b.set c x):=by
 subst e;have d:=(World.ownsRow.stored h c (.int .i64 x)).1;rw[sc]at d;unfold OwI OwG;rw[List.length_set];exact d
def Vu (l:List Int) (j:Nat):List Int:=(l.set (j+1) (gi l j)).set j (gi l (j+1))
theorem jk(h:a+1<b.length) {P:Int->Prop} (c:∀z∈b,P z):∀z∈Vu b a,P z:=by
 intro z d;unfold Vu at d;have e:gi b a∈b:=by rw[Ut (by omega)];exact List.getElem_mem _
 have f:gi b (a+1)∈b:=by rw[Ut h];exact List.getElem_mem _
 rcases List.mem_or_eq_of_mem_set d with h|rfl
 .rcases List.mem_or_eq_of_mem_set h with h|rfl
  .exact c z h
  exact c _ e
 exact c _ f
theorem rp(h:a<b.length):gi b a∈b:=by rw[Ut h];exact List.getElem_mem _
theorem rb(h:j (gi b (a+1)) (gi b a)<0):Kk j b (a+1)=Kk j (Vu b a) a:=by rw[Kk,if_pos h];rfl
theorem Aau(h:¬j (gi b (a+1)) (gi b a)<0):Kk j b (a+1)=b:=by rw[Kk,if_neg h]
theorem Rb(f:Int->Int->Int) (l:List Int):Kk f l 0=l:=by rw[Kk]
theorem jl(l:List Int) (j:Nat):(Vu l j).length=l.length:=by unfold Vu;simp
def SoW (a:World) (B n:Nat) (S:List Shp):Prop:=∃A c,Bf a B 32 #[.slice A n c]/\ShS a A n S
def Ahs (n:Nat) (l:List Int):Prop:=∀z∈l,0<=z/\z<n
theorem ra(B n:Nat) (S:List Shp) (g d m:Nat) (l:List Int) (o w:World) (hm:m<=1000) (hl:l.length=m) (hS:SoW o B n S) (E:Be o w) (hM:Ahs n l) (b:OwI w o.heap.size (.slice (some ⟨g,0,none⟩) m d) l) :
 Calls Tryz.prog 79 #[.slice (some ⟨g,0,none⟩) m d,.int .i64 0,(m:Int),Ahq B] w λe w'=>e=.returned (.tuple #[])/\OwI w' o.heap.size (.slice (some ⟨g,0,none⟩) m d) (Jb (Ov S) l m)/\Be o w':=by
 have HS:=Ar hS;unfold Ahq;have HI:=Ar λi=>show Jb (Ov S) l (i+1)=Kk (Ov S) (Jb (Ov S) l i) i from rfl;have F:o.heap.size<=g:=(OwG.lt b g rfl).1;have Z:=Ar (λi (hi:i<=m)=>show (Jb (Ov S) l i).length=m from by rw[(Jq _ _ i (by omega)).length_eq,hl]);have a1:=Ar (λi (hi:i<=m)=>show Ahs n (Jb (Ov S) l i) from λz hz=>hM z ((Jq _ _ i (by omega)).mem_iff.1 hz));have u:Jb (Ov S) l 1=l:=by rw[HI.out 0,Rb];rfl
 clear hS hM;by_cases au:m<=1
 .have HE:=Ar (show Jb (Ov S) l m=l by
   rcases Nat.le_one_iff_eq_zero_or_eq_one.1 au with h|h
   .rw[h];rfl
   rw[h];exact u)
  clear u hl;go_in;go_wp2;go_loopw [8] (λi wr=>i=.int .i64 1/\wr=w) λ_ _=>0
  case atStart=>exact⟨rfl,rfl⟩
  obtain⟨rfl,rfl⟩:=hrel;have B1:¬(1:Int)<(m:Int):=by omega
  go_wp2
  go_end0
  exact⟨rfl,by rw[HE.out];exact b,E⟩
 have X:=Ar u;clear u hl;go_in;go_wp2;go_loopw [8,9] (λi _ wr=>∃k:Nat,1<=k/\k<=m/\i=.int .i64 k/\OwI wr o.heap.size (.slice (some ⟨g,0,none⟩) m d) (Jb (Ov S) l k)/\Be o wr) λi _ _=>m-(intOf i).toNat
 case atStart=>exact⟨1,Nat.le_refl _,by omega,rfl,by rw[X.out];exact b,E⟩
 clear b E;obtain⟨k,cd,hk,rfl,b,c⟩:=hrel;by_cases cf:k<m
 .have B1:(k:Int)<(m:Int):=by omega
  have Y:=Ar (HI.out k);have J:=Ar (Z.out k hk);have K:=Ar (a1.out k hk);generalize a8:Jb (Ov S) l k=L0 at b Y J K;clear a8;obtain⟨wa,rfl⟩:∃wa:World,wa=wr:=⟨_,rfl⟩
  go_upto_region 4 with fail;go_loopw [9] (λj wx=>∃(p:Nat) (L:List Int),p<=k/\j=.int .i64 p/\Hid (Kk (Ov S) L p=Kk (Ov S) L0 k)/\Hid (L.length=m)/\Hid (Ahs n L)/\OwI wx o.heap.size (.slice (some ⟨g,0,none⟩) m d) L/\Be o wx) λj _=>(intOf j).toNat
  case atStart=>exact⟨k,L0,Nat.le_refl _,rfl,Ar rfl,J,K,b,c⟩
  clear b c;obtain⟨p,L,hp,rfl,hI,f,hN,b,c⟩:=hrel;by_cases O:p=0
  .subst O;go_upto_region 4 with fail;go_quiet (fail);go_wp2;have y:=hI.out;rw[Rb]at y;exact⟨⟨k+1,by omega,by omega,by go_num,by rw[Y.out,<-y];exact OwG.keep b (Bd bl0 _),Bd c _⟩,by simp[intOf];omega⟩
  obtain⟨q,rfl⟩:∃q,p=q+1:=⟨p-1,by omega⟩
  clear O;have G:q+1<m:=by omega
  let⟨M,f1⟩:=OwI.cellsI b f.out G;let⟨W,f2⟩:=OwI.cellsI b f.out (show q<m by omega);have n1:=hN.out _ (rp (show q+1<L.length by rw[f.out];exact G));have n2:=hN.out _ (rp (show q<L.length by rw[f.out];omega));have V:=Ar λ(h:Ov S (gi L (q+1)) (gi L q)<0)=>(rb h).symm.trans hI.out;have s:=Ar λ(h:¬Ov S (gi L (q+1)) (gi L q)<0)=>(Aau h).symm.trans hI.out;have t:=Ar (show Vu L q=(L.set (q+1) (gi L q)).set q (gi L (q+1)) from rfl);let⟨H,Q⟩:∃z:Nat,gi L (q+1)=z:=⟨(gi L (q+1)).toNat,by omega⟩
  let⟨I,T⟩:∃z:Nat,gi L q=z:=⟨(gi L q).toNat,by omega⟩
  rw[Q]at M n1 V s t;rw[T]at W n2 V s t;have R:H<n:=by omega
  have U:I<n:=by omega
  generalize hx:Ov S H I=x at V s;have HX:=Ar hx;clear Q T n1 n2 hx;have W1:IntKind.i64.wrap (((q+1:Nat):Int)-1)=(q:Int):=by rw[IntKind.wrap_i64];omega
  have B3:((q+1:Nat):Int)<(m:Int):=by omega
  have B4:(q:Int)<(m:Int):=by omega
  have B5:(0<q+1)=True:=by simp
  generalize hr:q+1=r at M f1 W1 B3 B5 t ⊢;have A:=Ar hr;clear hr G;have KF:∀C,Be wr C->(Cq C g r (H:Int)/\Cq C g q (I:Int)):=λC c=>⟨Aq c M,Aq c W⟩
  have a:=Aw (Below.refl wr.heap.size wr);go_upto_region 4 with fail
  go_region_held3 (λC=>Cq C g r (H:Int)/\Cq C g q (I:Int))
   (with_reducible exact KF _ a)
   ((go_at_call 28;let⟨AS,cS,a6,ai⟩:=HS.out;(with_reducible refine(Acb B AS n cS S H I _ (a6.keep (An c a)) (ai.keep (An c a)) R U).mono ?_);rintro e w5 ⟨rfl,ak⟩;rw[HX.out];replace a:=An a ak))
  have v:=OwG.keep b a;have N:=An c a;have F:=(OwG.lt b g rfl).1;have d1:=Aq a M;have d2:=Aq a W;obtain⟨-,c9⟩:=OwI.cellsI v f.out (show r<m by have:=A.out;omega);obtain⟨-,cb⟩:=OwI.cellsI v f.out (show q<m by have:=A.out;omega);clear KF a b c M W f1 f2;by_cases b1:x<0
  .have D:=V.out b1;have ba:¬r=q:=by have:=A.out;omega
   have bb:¬q=r:=by have:=A.out;omega
   go_wp2;go_region;go_wp2;have b0:q+1<L.length:=by rw[f.out,A.out];omega
   have aw:=(OwI.storeI v f.out r (I:Int)).storeI (by rw[List.length_set];exact f.out) q (H:Int);refine⟨⟨q,Vu L q,by have:=A.out;omega,rfl,Ar D,Ar (by rw[jl];exact f.out),Ar λz hz=>jk b0 (P:=λz=>0<=z/\z<(n:Int)) hN.out z hz,?_,?_⟩,by have:=A.out;simp[intOf];omega⟩
   .rw[t.out];exact aw
   exact Aw (Ba (Ba N (p:=⟨g,r,none⟩) F _) (p:=⟨g,q,none⟩) F _)
  have D:=s.out (by omega);go_wp2;exact⟨⟨k+1,by omega,by omega,by go_num,by rw[Y.out,<-D];exact v,N⟩,by simp[intOf];omega⟩
 obtain rfl:m=k:=by omega
 go_wp2
 go_end0
 exact⟨rfl,b,c⟩
theorem yt(B n:Nat) (S:List Shp) (g c m:Nat) (l:List Int) (d w:World) (x:m<20) (k:l.length=m) (q:SoW d B n S) (f:Be d w) (p:Ahs n l) (r:OwI w d.heap.size (.slice (some ⟨g,0,none⟩) m c) l) :
 Calls Tryz.prog 50 #[.slice (some ⟨g,0,none⟩) m c,(m:Int),Ahq B] w λe o=>e=.returned (.tuple #[])/\OwI o d.heap.size (.slice (some ⟨g,0,none⟩) m c) (Jb (Ov S) l m)/\Be d o:=by
 have j:=Ar (ra B n S g c m l d w (by omega) k q f p r);unfold Ahq at j ⊢;have u:((20:Int)<=(m:Int))=False:=by simp;omega
 have v:((20:Int)<(m:Int))=False:=by simp;omega
 clear k;go_in;go_upto_region 2 with fail;go_loopw [7,8] (λa b wr=>a=.int .i64 0/\b=.int .i64 20/\wr=w) λ_ _ _=>0
 case atStart=>exact⟨rfl,rfl,rfl⟩
 obtain⟨rfl,rfl,rfl⟩:=hrel
 go_upto_region 7 with (go_at_call 79;refine j.out.mono ?_;rintro e s ⟨rfl,i,h⟩)
 go_loopw [6,7,8,9] (λa _ _ _ t=>a=.int .i64 20/\t=s) λ_ _ _ _ _=>0
 case atStart=>exact⟨rfl,rfl⟩
 obtain⟨rfl,rfl⟩:=hrel;go_wp2
 go_end0
 exact⟨rfl,i,h⟩
theorem jt(B n:Nat) (S:List Shp) (g a m:Nat) (l:List Int) (b w:World) (p:m<20) (i:l.length=m) (o:SoW b B n S) (c:Be b w) (k:Ahs n l) (q:OwI w b.heap.size (.slice (some ⟨g,0,none⟩) m a) l) :
 Calls Tryz.prog 27 #[.slice (some ⟨g,0,none⟩) m a,Ahq B] w λe j=>e=.returned (.tuple #[])/\OwI j b.heap.size (.slice (some ⟨g,0,none⟩) m a) (Jb (Ov S) l m)/\Be b j:=by
 have h:=Ar (yt B n S g a m l b w p i o c k q);unfold Ahq at h ⊢;clear i;go_in
 go_wp2_with (go_at_call 50;refine h.out.mono ?_;rintro e r ⟨rfl,f,d⟩)
 go_end0
 exact⟨rfl,f,d⟩
theorem qd(n:Nat) (f:n<=1000):∃Z:Array Value,(∀w,(Instr.makeSlice 23 (.int .i64 (n:Int)) (.int .i64 (n:Int))).run Tryz.prog w=.ok (.slice (some ⟨w.heap.size,0,none⟩) n n) (w.alloc (.cells Z 3)))/\∀w:World,OwI (w.alloc (.cells Z 3)) w.heap.size (.slice (some ⟨w.heap.size,0,none⟩) n n) (List.replicate n 0):=by
 let⟨i,e,a,b,c⟩:=info_parts Aj5;refine⟨madeCells (Value.int IntKind.i64 0).cells (n*1),λw=>?_,λw=>?_⟩
 .have d:=run_make (P:=Tryz.prog) w 23 3 i (.int .i64 0) Tryz.underlying23 e a .i64 .i64 n n (by omega) (by omega) (by rw[c];omega) (by omega);rw[b]at d;simpa using d
 unfold OwI OwG;rw[List.length_replicate,<-O6 Ml 0 n (Value.int IntKind.i64 0).cells (by kernel_rfl) (by omega)];exact World.ownsRow_lit w _ n (Nat.le_refl _) (by unfold maxLen;omega) (size_madeCells _ _)
def upI (n k:Nat):List Int:=(List.range n).map λi=>if i<k then (i:Int) else 0
theorem Vq(n k:Nat):(upI n k).length=n:=by unfold upI;simp
theorem xq(n:Nat):upI n 0=List.replicate n 0:=by
 unfold upI;apply List.ext_getElem
 .simp
 intro i a b;simp
theorem Xo(n:Nat):upI n n=(List.range n).map λi:Nat=>(i:Int):=by
 unfold upI;apply List.map_congr_left;intro i a;rw[if_pos (List.mem_range.1 a)]
theorem xt(h:i<a):(upI a i).set i (i:Int)=upI a (i+1):=by
 apply List.ext_getElem
 .simp[upI]
 intro b c d;rw[List.getElem_set];simp[upI]at c d ⊢;by_cases e:i=b
 .subst e;simp
 rw[if_neg e];by_cases q:b<i
 .rw[if_pos q,if_pos (by omega)]
 rw[if_neg q,if_neg (by omega)]
def Ahp (z:Bool):List Value:=[.bool z]
theorem Zj(z:Bool):(Ahp z).length=1:=rfl
def wj (w:World) (a:Nat) (v:Value) (l:List Bool):Prop:=OwG 4 1 Ahp w a v l
theorem Aj8:(Tryz.prog.info? 4).map (λi=>(i.zero,i.size,i.bytes))=some (some (.bool false),1,1):=by kernel_rfl
theorem Aa0(h:a<g.length):g[a]? = some (gbo g a):=by
 unfold gbo;rw[List.getD,List.getElem?_eq_getElem h];rfl
theorem wj.cellsB{w:World}   (h:wj w a (.slice (some ⟨i,0,none⟩) n k) g) (e:g.length=n) {b:Nat} (d:b<n):Cq w i b (.bool (gbo g b))/\w.frozen? ⟨i,b,none⟩=false:=by
 subst e;have c0:=OwG.cells h b (by omega);have c:=Bu Zj g b 0 _ (Aa0 d) (by omega);rw[Nat.mul_one,Nat.add_zero]at c;rw[c]at c0;exact⟨c0,OwG.frozen h _⟩
theorem fw{k:Nat} (x:Bool):(g.flatMap Ahp).set k (.bool x)=(g.set k x).flatMap Ahp:=by
 induction g generalizing k with
 | nil=>simp
 | cons a g ih =>
   cases k with
   | zero=>simp[Ahp]
   | succ k=>rw[List.set_cons_succ,List.flatMap_cons,List.flatMap_cons,<-ih];simp[Ahp]
theorem wj.storeB{w:World}   (h:wj w a (.slice (some ⟨i,0,none⟩) n k) g) (d:g.length=n) (b:Nat) (x:Bool):wj (w.setCell ⟨i,b,none⟩ (.bool x)) a (.slice (some ⟨i,0,none⟩) n k) (g.set b x):=by
 subst d;have c:=(World.ownsRow.stored h b (.bool x)).1;rw[fw]at c;unfold wj OwG;rw[List.length_set];exact c
theorem et(n:Nat) (f:n<=1000):∃Z:Array Value,(∀w,(Instr.makeSlice 114 (.int .i64 (n:Int)) (.int .i64 (n:Int))).run Tryz.prog w=.ok (.slice (some ⟨w.heap.size,0,none⟩) n n) (w.alloc (.cells Z 4)))/\∀w:World,wj (w.alloc (.cells Z 4)) w.heap.size (.slice (some ⟨w.heap.size,0,none⟩) n n) (List.replicate n false):=by
 let⟨i,e,a,b,c⟩:=info_parts Aj8;refine⟨madeCells (Value.bool false).cells (n*1),λw=>?_,λw=>?_⟩
 .have d:=run_make (P:=Tryz.prog) w 114 4 i (.bool false) Tryz.underlying114 e a .i64 .i64 n n (by omega) (by omega) (by rw[c];omega) (by omega);rw[b]at d;simpa using d
 unfold wj OwG;rw[List.length_replicate,<-O6 Zj false n (Value.bool false).cells (by kernel_rfl) (by omega)];exact World.ownsRow_lit w _ n (Nat.le_refl _) (by unfold maxLen;omega) (size_madeCells _ _)
theorem fh(g b n:Nat) (l:List Bool) (w:World) (a:Nat) (y:n<=1000000) (q:l.length=n) (s:wj w a (.slice (some ⟨g,0,none⟩) n b) l) :
 Calls Tryz.prog 90 #[.slice (some ⟨g,0,none⟩) n b,.bool false] w (Bz w (Db (λi=>!gbo l i) n)):=by
 have r:=Ar q;clear q;go_in;go_wp2;go_loopw [8] (λi wr=>∃k:Nat,k<=n/\i=.int .i64 k/\Hid (Bp (λi=>!gbo l i) k=false)/\Be w wr) λi _=>n-(intOf i).toNat
 case atStart=>exact⟨0,Nat.zero_le _,rfl,Bp.zero _,bl0⟩
 obtain⟨k,v,rfl,p,j⟩:=hrel;by_cases c:k<n
 .obtain⟨c0,-⟩:=wj.cellsB (OwG.keep s j) r.out c;have e:=Ar (λ(h:gbo l k=true)=>Bp.succ (f:=λi=>!gbo l i) p.out (by rw[h];rfl));have d:=Ar (λ(h:gbo l k=false)=>Hf (f:=λi=>!gbo l i) c p.out (by rw[h];rfl));generalize t:gbo l k=x at c0 e d;clear t;have u:(k:Int)<(n:Int):=by omega
  cases x with
  | false =>
    have m:=Ar (d.out rfl);clear e d;go_wp2;go_ret;exact⟨Bm m.out.symm,j⟩
  | true =>
    have o:=Ar (e.out rfl);clear e d;go_wp2;exact⟨⟨k+1,by omega,by go_num,o,j⟩,by simp[intOf];omega⟩
 obtain rfl:n=k:=by omega
 go_wp2;go_ret;exact⟨Bm (Fy p.out).symm,j⟩
theorem Sv(g b n:Nat) (l:List Bool) (w:World) (a:Nat) (h:n<=1000000) (d:l.length=n) (j:wj w a (.slice (some ⟨g,0,none⟩) n b) l) :
 Calls Tryz.prog 54 #[.slice (some ⟨g,0,none⟩) n b,.bool false] w (Bz w (.bool (Bp (λi=>!gbo l i) n))):=by
 have f:=Ar d;clear d;go_in
 go_wp2_with (go_at_call 90;refine rR (fh g b n l _ a h f.out j) λk c=>?_)
 go_ret;exact⟨Bn (Hy _ _),c⟩
section
open Go.RowKit Go.Maps
def okC (p:Int×Int×Int):Prop:=inR p.1/\inR p.2.1/\inR p.2.2
def ir (p:Int×Int×Int):Value:=.agg #[p.1,p.2.1,p.2.2]
def klC (p:Int×Int×Int):Lit:=.string (keyBytes [.int .i64 p.1,.int .i64 p.2.1,.int .i64 p.2.2])
theorem Ahz:(match Tryz.prog.underlying 112 with|some (.array _ _)|some (.struct _)=>true|_=>false)=true:=by rw[Tryz.underlying112]
theorem Aou:(112:TypeId)<Tryz.prog.types.size:=of_decide_eq_true (by kernel_rfl)
theorem Amp:Keyed Tryz.prog 112:=Keyed.of_law (deep_law_laid (P:=Tryz.prog) (k:=112) O8 (m:=3) (by omega) Aou (by kernel_rfl) Ahz)
theorem uw:Tryz.prog.cellsOf 112=3:=by kernel_rfl
theorem Amw:Tryz.prog.keyType 112=true:=by kernel_rfl
theorem Af4(p:Int×Int×Int) (h:okC p):keyOf Tryz.prog 112 (ir p)=some (klC p):=by
 obtain⟨m,d⟩:=Qm;have a:=Pe h.1;have b:=Pe h.2.1;have c:=Pe h.2.2;unfold keyOf ir klC;rw[d];simp[Tryz.underlying112,Amw,Value.formed,uw,Program.keyLits,Tryz.underlying3,cellsI,Value.cells,a,b,c]
theorem Apb(h:l.length=3):∃a b c,l=[a,b,c]:=by
 match l,h with
 | [a,b,c],_=>exact⟨a,b,c,rfl⟩
theorem Af0{d:Nat}  {L:List Lit} (h:Tryz.prog.keyLits (d+2) 112 l=some L):∃x y z,l=[.int .i64 x,.int .i64 y,.int .i64 z]/\inR x/\inR y/\inR z:=by
 let⟨i,⟨n,e⟩,⟨o,f⟩,p,g⟩:=Y6 Tryz.underlying112 h;rw[uw]at i;rw[cellsI]at e f g;obtain⟨a,b,c,rfl⟩:=Apb i;simp only[List.drop_zero,List.drop_succ_cons,List.take_succ_cons,List.take_zero]at e f g;obtain⟨x,rfl,j⟩:=Uo (P:=Tryz.prog) Tryz.underlying3 e;obtain⟨y,rfl,k⟩:=Uo (P:=Tryz.prog) Tryz.underlying3 f;obtain⟨z,rfl,m⟩:=Uo (P:=Tryz.prog) Tryz.underlying3 g;exact⟨x,y,z,rfl,j,k,m⟩
theorem Aaq(v:Value) (l:Lit) (h:keyOf Tryz.prog 112 v=some l):∃p,v=ir p/\okC p:=by
 obtain⟨m,f⟩:=Qm;obtain⟨g,L,rfl,b,rfl⟩:=keyOf_top (P:=Tryz.prog) (k:=112) Ahz h;rw[f]at b;let⟨x,y,z,a,c,d,e⟩:=Af0 b;refine⟨(x,y,z),?_,c,d,e⟩;unfold ir;rw[show g=#[.int .i64 x,.int .i64 y,.int .i64 z] by apply Array.ext';simpa using a]
theorem repC:KeyRep Tryz.prog 112 ir okC klC where
 law:=Amp
 of:=Af4
 inv:=Aaq
 inj x y h:=by
  unfold ir at h;injection h with h
  injection h with h
  simp at h;exact Prod.ext h.1 (Prod.ext h.2.1 h.2.2)
def kI3 (C:List PlcP) (x:Int×Int×Int):Nat->Int
 | 0 => -1
 | n+1=>if kt (plc C n)=x then (n:Int) else kI3 C x n
theorem Adz (C:List PlcP) (p:PlcP):∀n,kI3 C (kt p) n=Sf C p n
 | 0=>rfl
 | n+1=>by
   rw[kI3,Sf,Adz C p n];by_cases h:kt (plc C n)=kt p
   .rw[if_pos h,if_pos (Y8.2 h)]
   rw[if_neg h,if_neg λq=>h (Y8.1 q)]
theorem Ady (C:List PlcP) (x:Int×Int×Int):∀n,-1<=kI3 C x n/\kI3 C x n<n
 | 0=>by simp[kI3]
 | n+1=>by
   have:=Ady C x n;rw[kI3];split<;>omega
def Nh (w:World) (b n:Nat) (C:List PlcP) (k:Nat):Prop :=
 ∃D:DataW Unit,w.ownsMap Tryz.prog 112 (plainElem Tryz.prog 3) b n D/\∀x,okC x->(0<=kI3 C x k->Maps.has D (klC x)=true/\∀d,D.atKey (klC x) d=.lit (.int .i64 (kI3 C x k)))/\(kI3 C x k<0->Maps.has D (klC x)=false)
theorem Nh.made(w:World) (C:List PlcP):Nh (w.alloc (.map #[] 0)) w.heap.size 0 C 0 :=
 ⟨.map [],World.ownsMap_made w _ _ _,λx _=>⟨λh=>by simp[kI3]at h,λ_=>rfl⟩⟩
theorem Nh.kept{w:World}   {row:Option Nat} (h:Nh w a i f k) (g:w.grownBy e row) (b:some a≠row):Nh e a i f k:=by
 obtain⟨D,c,d⟩:=h;exact⟨D,c.kept g b,d⟩
theorem Nh.keep{w:World} {k:Nat}  (h:Nh w a i f k) (b:Be w e):Nh e a i f k :=
 h.kept (row:=none) ⟨b.os,b.tape,b.output,b.size,λk c _=>b.block k c⟩ (by simp)
theorem Ahu:∀w,(zeroValue 3).run Tryz.prog w=.ok (.int .i64 0) w:=λ_=>by kernel_rfl
theorem Nh.get{w:World}   (h:Nh w a i f k) {x:Int×Int×Int} (e:okC x) :
 ∃z,(Instr.lookup 110 (.map (some a)) (ir x) true).run Tryz.prog w=.ok (.tuple #[.int .i64 z,.bool (decide (0<=kI3 f x k))]) w/\(0<=kI3 f x k->z=kI3 f x k):=by
 obtain⟨D,m,n⟩:=h;let⟨v,r,b,o⟩:=m.look_ok repC.law Tryz.underlying110 (Ahu w) (plainElem_int Tryz.underlying3 (by decide)) (repC.of x e);obtain⟨z,rfl,g,-⟩:=plainElem_int_inv Tryz.underlying3 o;simp only[Prod.mk.injEq]at g;let⟨p,q⟩:=n x e;by_cases d:0<=kI3 f x k
 .obtain⟨j,l⟩:=p d;refine⟨z,by rw[b,j,decide_eq_true d],λ_=>?_⟩;have c:=g.1;rw[l]at c;injection c with c
  injection c with _ c
  exact c.symm
 exact⟨z,by rw[b,q (by omega),decide_eq_false d],λh=>absurd h d⟩
theorem Nh.put{w:World}   (h:Nh w a i f k) (q:i<maxLen) (l:okC (kt (plc f k))) (u:k<=1000000) :
 ∃j,(Instr.mapUpdate 110 (.map (some a)) (ir (kt (plc f k))) (.int .i64 (k:Int))).run Tryz.prog w=.ok () j/\Nh j a (i+1) f (k+1)/\w.grownBy j (some a):=by
 obtain⟨D,o,n⟩:=h;let⟨j,g,r,s⟩:=o.update repC.law Tryz.underlying110 q (repC.of _ l) (plainElem_int Tryz.underlying3 (Pe (n:=(k:Int)) (by unfold inR;omega)));have p:IsMap D:=by obtain⟨t,c,_,_,_,rfl⟩:=o;exact⟨_,rfl⟩
 refine⟨j,g,⟨_,r,λy m=>?_⟩,s⟩;rw[kI3];by_cases e:kt (plc f k)=y
 .rw[if_pos e];subst e;exact⟨λ_=>⟨Maps.has_put_same p (repC.law.key (repC.of _ l)) _,λd=>Maps.atKey_put_same p (repC.law.key (repC.of _ l)) _ _⟩,λh=>by omega⟩
 rw[if_neg e];have b:klC y≠klC (kt (plc f k)):=λh=>e (repC.one m l h).symm
 rw[Maps.has_put_other b];refine⟨λh=>⟨((n y m).1 h).1,λd=>?_⟩,(n y m).2⟩;rw[Maps.atKey_put_other b];exact((n y m).1 h).2 d
theorem Rq{w:World}   {d:Array Oper} {b:List Oper} {o:Oper}  {Q:Exit->Act->World->Prop} (p:o.guard=none) (l x v:Operand) (j:o.op=Op.mapUpdate 110 l x v)
 (r:m.eval l=.map (some a)) (h:Nh w a i f k) (s:i<maxLen) (t:okC (kt (plc f k))) (q:k<=1000000) (y:m.eval x=ir (kt (plc f k))) (u:m.eval v=.int .i64 (k:Int))
 (n:∀e,Nh e a (i+1) f (k+1)->w.grownBy e (some a)->wpList Tryz.prog d Q b (m.put o.dst undef) e):wpList Tryz.prog d Q (o::b) m w:=by
 refine wpList_plain p λB g=>?_
 let⟨e,c,z,A⟩:=h.put s t q;unfold Oper.wp;simp[execOp,j,r,y,u,c,Result.andThen];exact g _ _ (n e z A)
theorem Ks{w:World}   {d:Array Oper} {b:List Oper} {o:Oper}  {Q:Exit->Act->World->Prop} (n:o.guard=none) (j x:Operand) (g:o.op=Op.lookup 110 j x true)
 (q:m.eval j=.map (some a)) (h:Nh w a i f k) (p:Int×Int×Int) (r:okC p) (s:m.eval x=ir p)
 (l:∀z,(0<=kI3 f p k->z=kI3 f p k)->wpList Tryz.prog d Q b (m.put o.dst (.tuple #[.int .i64 z,.bool (decide (0<=kI3 f p k))])) w):wpList Tryz.prog d Q (o::b) m w:=by
 refine wpList_plain n λu e=>?_
 let⟨z,c,t⟩:=h.get r;unfold Oper.wp;simp[execOp,g,q,s,c,Result.andThen];exact e _ _ (l z t)
theorem Yx(c:PlcP) (w:World):Calls Tryz.prog 53 #[.agg #[c.ga,c.us,c.cp,.bool c.fl,c.qu,c.x,c.y]] w (Bz w (ir (kt c))):=by
 obtain⟨b,d,a,e,f,x,y⟩:=c;unfold ir kt;dsimp only;go_in;go_wp2;exact bR ⟨rfl,Ao blA _⟩ rfl (by simp[results,Tryz.results53,go_sem])
end
end Go.Proofs.YtlogblbfbihleaaGreat
