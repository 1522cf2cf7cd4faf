/- Lean texts of the claim. -/
import Derived.Test.YtboghahlhmnblaaGreatZv28
import Derived.Test.YtboghahlhmnblaaGreatZv27
import Derived.Test.YtboghahlhmnblaaGreatZv26
import Derived.Test.YtboghahlhmnblaaGreatZv25
namespace Go.Proofs.YtboghahlhmnblaaGreat
set_option linter.all false
set_option maxRecDepth 100000
set_option maxHeartbeats 0
open Go.RowKit Go.Proofs.Tryz
variable{a l:World}{b n:Array Value}{c:List PlcP}{e m o:Nat}{f:StyleP}{g:Int}{h:List Int}{i:Value}{j:List Shp}{k:Option Addr}{p:ShX}{q:Shp}{x z:Int}{Z:List Int}{base':Nat}{w:World}
theorem kf(w:World):Calls prog 78 #[] w (Bz w (.agg #[.bool true,.int .i64 0])):=by
 go_in;go_upto_region 1 with fail;refine Bq λX a b=>?_
 obtain⟨g,h,e,f,-⟩:=b.pair;go_wp2;obtain⟨c,d,-,-,-⟩:=((b.set_ 0 (.bool true)).set_ 1 (.int .i64 0)).pair;exact bR ⟨rfl,Ba (Ba a (p:=⟨w,0,none⟩) aA) (p:=⟨w,1,none⟩) aA⟩ rfl (by simp[results,results78,go_sem,c,d])
theorem Aof(s:StyleP)(z u:Int)(y:SmS s)(Z:StV w b s):Calls prog 18 #[.agg b,z,u] w (Ng w (J5 s z u)):=by
 let⟨r,x⟩:=gN (Ii s z u)
 obtain⟨H,P,I,Q,J,R,K,S,L,T,M,U,rfl,-⟩:=id Z
 have n:=Ar (λ(X:World) (hX:StV X #[.string s.nm,.slice H s.sz.length P,.slice I s.mu.length Q,.slice J s.pc.length R,.slice K s.us.length S,.slice L s.se.length T,.slice M s.no U] s)=>show Calls prog 42 #[.agg #[.string s.nm,.slice H s.sz.length P,.slice I s.mu.length Q,.slice J s.pc.length R,.slice K s.us.length S,.slice L s.se.length T,.slice M s.no U],z,u] X (Qk X r (Cg s u)) by
  rw[<-x];exact jh s z u X y hX)
 have o:=Ar (show J5 s z u=if r.2≠0 then ([],r.2) else Ff r.1 (Cg s u).wd by unfold J5;rw[x]);obtain⟨E,c⟩:=r;dsimp only at n o;clear x;go_enter func18,ntmps18;go_upto_region 1 with fail;refine Bq λX d W=>?_
 let⟨p0,p1,p2,p3,p4,p5,p6⟩:=st7 W;have g:=Z.keep d;by_cases h:c=0
 .subst h;have l:=Ar (show J5 s z u=Ff E (Cg s u).wd by rw[o.out,if_neg aL])
  go_upto_region 2 with (go_at_call 42;refine(n.out _ g).mono ?_;rintro e w1 ⟨N,c7,G,m,rfl,A,i2,j,B,C,a⟩;have v:=C rfl;subst v;clear C;obtain⟨E1,d1,E2,d2,E3,d3,O,V,rfl,-,-,-,k1,k2,D⟩:=B)
  let⟨m,i⟩:=gN (Cg s u)
  rw[i]at k1 D l ⊢;clear i;refine Bq λY f hQ=>?_
  let⟨y0,y1,y2,y3,y4,y5,y6⟩:=pc7 hQ;have k:=j.keep f;have F:=D.keep f;have hl:=j.1
  try dsimp only at A i2 j k hl ⊢
  clear j D p0 p1 p2 p3 p4 p5 p6 W g
  go_wp2_with (go_at_call 43;refine aF (Ai1 N c7 E.length E O m.wd.length V m.wd A aK aK k F) λw2 v2 t q=>?_)
  go_ret2
  rw[l.out];exact⟨_,rfl,OwG.lower t (An (An d a) f).size,An (An (An d a) f) q⟩
 have l:=Ar (show J5 s z u=([],c) by rw[o.out,if_pos h]);have b1:(c != 0)=true:=by simpa using h
 clear h
 go_wp2_with (go_at_call 42;refine(n.out _ g).mono ?_;rintro e w1 ⟨N,c7,G,m,rfl,A,i2,j,B,C,a⟩;obtain⟨E1,d1,E2,d2,E3,d3,O,V,rfl,-⟩:=B)
 go_ret2
 rw[l.out];exact⟨_,rfl,OwG.nil,Ao (An d a)⟩
theorem Aew(s:StyleP)(z u:Int)(F:SmS s)(hv:StV w b s):Calls prog 77 #[.agg b,z,u] w (Alb w (Rn s z u)):=by
 let⟨r,x⟩:=gN (Ii s z u)
 obtain⟨N,T,O,U,P,V,Q,W,R,Z,S,c6,rfl,-⟩:=id hv
 have A:=Ar (λ(X:World) (hX:StV X #[.string s.nm,.slice N s.sz.length T,.slice O s.mu.length U,.slice P s.pc.length V,.slice Q s.us.length W,.slice R s.se.length Z,.slice S s.no c6] s)=>show Calls prog 42 #[.agg #[.string s.nm,.slice N s.sz.length T,.slice O s.mu.length U,.slice P s.pc.length V,.slice Q s.us.length W,.slice R s.se.length Z,.slice S s.no c6],z,u] X (Qk X r (Cg s u)) by
  rw[<-x];exact jh s z u X F hX)
 have B:=Ar (show Rn s z u=if r.2≠0 then ((0,0),r.2) else (gt (edg r.1 0).ln 0,0) by unfold Rn;rw[x]);obtain⟨E,c⟩:=r;dsimp only at A B
 have HK:=Ar (λ(h:c=0)=>show 2<=E.length/\2<=(edg E 0).ln.length from by
  have o:=(Ry (E:=E) (by rw[x,h])).2.2.2.2.2.1;obtain⟨q1,-,q3,-⟩:=D5 o;exact⟨q1,(Er (q3 0 aK).2).1⟩)
 clear x;go_enter func77,ntmps77;go_upto_region 1 with fail;refine Eo λX j C hR=>?_
 let⟨p0,p1,p2,p3,p4,p5,p6⟩:=st7 C;have i:=hv.keep j;by_cases h:c=0
 .obtain⟨hl,D⟩:=HK.out h;subst h;have g:=Ar (show Rn s z u=(gt (edg E 0).ln 0,0) by rw[B.out,if_neg aL])
  go_upto_region 2 with (go_at_call 42;refine(A.out _ i).mono ?_;rintro e M ⟨A7,c7,L,p7,rfl,y,i2,t,G,i5,f⟩;obtain⟨E1,d1,E2,d2,E3,d3,E4,d4,rfl,-⟩:=G)
  refine Cj (λY=>Be M Y) blA ?_;rintro Y d;have a:=(hR.keep f).keep d;let⟨x0,x1⟩:=Vs a;have f0:=a.frozen 0;have f1:=a.frozen 1
  try dsimp only at y t ⊢
  obtain⟨cw,cc,rfl,hc⟩:=(t.keep d).at_ (show 0<E.length by omega);have k:=hc 0 aK;rw[eC,bU]at k;obtain⟨g0,Al,cl,g1,g2,g3,g4⟩:=k;obtain⟨bl,ol,rfl,-,l⟩:=g4.at_ (show 0<(edg E 0).ln.length by omega);let⟨H,I⟩:=l 0 aK;rw[eC,bU]at H I;let⟨n,hn⟩:=gN E.length
  let⟨m,hm⟩:=gN ((edg E 0).ln.length)
  let⟨q,hq⟩:=gN (gt (edg E 0).ln 0)
  rw[hn]at hl ⊢;rw[hm]at D g1;rw[hq]at H I g;obtain⟨qx,qy⟩:=q;dsimp only at H I;have B1:(0:Int)<(n:Int):=aK
  have B2:(0:Int)<(m:Int):=aK
  clear p0 p1 p2 p3 p4 p5 p6 C i t hc l hn hm hq g4 y;go_wp2_with fail;let⟨J,K⟩:=Vs ((a.set_ 0 qx).set_ 1 qy);exact cB (v:=.tuple #[.agg #[qx,qy],.int .i64 0]) (by simp[results,results77,go_sem,J,K]) rfl ⟨by rw[g.out],Ba (Ba (An (An j f) d) (p:=⟨w+1,0,none⟩) (by show w.heap.size<=w.heap.size+1;omega)) (p:=⟨w+1,1,none⟩) (by show w.heap.size<=w.heap.size+1;omega)⟩
 have g:=Ar (show Rn s z u=((0,0),c) by rw[B.out,if_pos h]);have c9:(c != 0)=true:=by simpa using h
 clear h
 go_upto_region 2 with (go_at_call 42;refine(A.out _ i).mono ?_;rintro e M ⟨A7,c7,L,p7,rfl,y,i2,t,G,i5,f⟩;obtain⟨E1,d1,E2,d2,E3,d3,E4,d4,rfl,-⟩:=G)
 refine Cj (λY=>Be M Y) blA ?_;rintro Y d;have a:=(hR.keep f).keep d;let⟨x0,x1⟩:=Vs a;have f0:=a.frozen 0;have f1:=a.frozen 1;clear p0 p1 p2 p3 p4 p5 p6 C i t y;go_wp2_with fail;let⟨J,K⟩:=Vs ((a.set_ 0 (.int .i64 0)).set_ 1 (.int .i64 0));exact cB (v:=.tuple #[.agg #[.int .i64 0,.int .i64 0],c]) (by simp[results,results77,go_sem,J,K]) rfl ⟨by rw[g.out],Ba (Ba (An (An j f) d) (p:=⟨w+1,0,none⟩) (by show w.heap.size<=w.heap.size+1;omega)) (p:=⟨w+1,1,none⟩) (by show w.heap.size<=w.heap.size+1;omega)⟩
def ig(w:World)(r:Int×List Shp×List PlcP)(e:Ending)(a:World):Prop:=∃b c,e=.returned (.tuple #[b,c,r.1])/\Vj a w b r.2.1/\Tb a w c r.2.2/\Be w a
theorem ig.none_(b:Be w a):ig w (x,[],[]) (.returned (.tuple #[.slice none 0 0,.slice none 0 0,x])) a:=⟨_,_,rfl,Vj.nil,OwG.nil,b⟩
theorem X8{j:Int}{a:Int×List Shp×List PlcP}(h:Hi f g j c a e=(x,[],[]))(b:x≠0):∀m,Hi f g j c a (e+m)=(x,[],[]):=by
 intro m;induction m with
 | zero=>exact h
 | succ m ih=>rw[<-cQ,Hi,if_pos (by rw[ih];exact b)];exact ih
theorem X6(a:Hc f h c e=(x,[],[]))(b:x≠0):∀m,Hc f h c (e+m)=(x,[],[]):=by
 intro m;induction m with
 | zero=>exact a
 | succ m ih=>rw[<-cQ,Hc,if_pos (by rw[ih];exact b)];exact ih
theorem mw(h:e<c.length):plc c e∈c:=by rw[nu h];exact cY h
theorem Zo(a:SmS f)(h:Bv f=0):(Kq f).length<=16:=by
 obtain⟨-,d,-,c⟩:=Kw h;have:=Lk (U:=f.us) (n:=f.us.length) (λi b=>(c i b).2.2.2) f.us.length aA;have:=a.us;unfold Kq;rw[if_neg (by rw[h];simp)];omega
theorem X7{s:StyleP}{C:List PlcP}{j k n:Nat}(d:j<=6)(f:C.length<=16)(e:k<=C.length)(a:(Hc s Z C j).1=0)(h:(Hi s z n C (Hc s Z C j) k).1=0):
 (Hi s z n C (Hc s Z C j) k).2.1.length<=1000/\(Hi s z n C (Hc s Z C j) k).2.2.length<=1000:=by
 let⟨_,_,c⟩:=V5 k e h;have b:=(Vy (s:=s) (Z:=Z) (C:=C) j a).1;rw[c,b];have g:=Lp s Z C j;have i:=Pf C j;have l:j*C.length<=6*16:=cJ d f;simp only[bA,List.length_map,bC];omega
theorem ShV.lower{x:ShX}(h:ShV w e x q)(a:base'<=e):ShV w base' x q:=⟨h.1,h.2.1,h.2.2.1,h.2.2.2.1,h.2.2.2.2.1.lower a,h.2.2.2.2.2⟩
theorem ShV.store{x:ShX}(h:ShV w e x q)(c:m<e):ShV (w.setCell ⟨m,o,none⟩ i) e x q:=⟨h.1,h.2.1,h.2.2.1,h.2.2.2.1,h.2.2.2.2.1.keepAbove λk a b d _=>Dv aK,h.2.2.2.2.2⟩
theorem Aoi(vs:Array Value)(s:StyleP)(A:Option Addr)(n c:Nat)(Z:List Int)(w:World)(hn:n<=c)(oe:c<=9223372036854775807)(hZ:InS w A n Z)(a1:SmS s)(hv:StV w vs s)(h:Bv s=0):Calls prog 14 #[.agg vs,.slice A n c] w (ig w (Bc s Z)):=by
 have HC:=Ar h;have fb:=hZ.1
 have HS:=Ar (show Bc s Z=if n<1\/6<n then (3,[],[]) else if Bp (λi=>decide (gi Z i<0) || decide ((s.sz.length:Int)<=gi Z i)) n then (3,[],[]) else if 60<(Kq s).length*n then (5,[],[]) else Hc s Z (Kq s) n by
  unfold Bc;rw[if_neg (by rw[h];simp),fb])
 have y1:=a1.sz;have aw:=Zo a1 h;clear h fb;obtain⟨A1,c1,A2,c2,A3,c3,A4,c4,A5,c5,A6,c6,rfl,⟨v1,v2,v3⟩,⟨v4,v5,v6⟩,⟨v7,v8,v9⟩,⟨p8,pe,lk⟩,⟨pk,pn,lo⟩,pq,ps⟩:=id hv;go_enter func14,ntmps14;go_upto_region 1 with fail;refine Bq λX bx hP=>?_
 let⟨p0,p1,p2,p3,p4,p5,p6⟩:=st7 hP;have cd:=hv.keep bx;have iy:=hP
 go_upto_region 4 with (go_at_call 27;refine rR (Fs _ s _ a1 cd) λw1 ak=>?_;rw[HC.out])
 have ai:=hP.keep ak;have ca:=cd.keep ak;have v:=An bx ak;have bs:=hZ.keep v;clear p0 p1 p2 p3 p4 p5 p6 hP iy cd bx ak;by_cases h1:n<1
 .have l:=Ar (show Bc s Z=(3,[],[]) by rw[HS.out,if_pos (.inl h1)]);obtain rfl:n=0:=aK
  go_wp2
  go_ret3
  rw[l.out];exact ig.none_ v
 by_cases h6:6<n
 .have l:=Ar (show Bc s Z=(3,[],[]) by rw[HS.out,if_pos (.inr h6)]);have B1:((n:Int)<1)=False:=aO
  have B2:((6:Int)<(n:Int))=True:=aO
  go_wp2
  go_ret3
  rw[l.out];exact ig.none_ v
 have E:=Ar (show Bc s Z=if Bp (λi=>decide (gi Z i<0) || decide ((s.sz.length:Int)<=gi Z i)) n then (3,[],[]) else if 60<(Kq s).length*n then (5,[],[]) else Hc s Z (Kq s) n by rw[HS.out,if_neg aK]);have B1:((n:Int)<1)=False:=aO
 have B2:((6:Int)<(n:Int))=False:=aO
 have j9:n<=6:=aK
 let⟨ns,eg⟩:=gN s.sz.length
 rw[eg]at ai E y1 ca;have cz:=Ar ca;clear HS eg ca h1 h6 v1 v3 v6 v9 lk lo;go_upto_region 7 with fail;clear B1 B2;go_loopw [9,34] (λ_ i wx=>∃k:Nat,k<=n/\i=k/\Hid (Bp (λi=>decide (gi Z i<0) || decide ((ns:Int)<=gi Z i)) k=false)/\Be w1 wx) λ_ i _=>n-(intOf i).toNat
 case atStart=>exact⟨0,aB,rfl,Ar rfl,bl0⟩
 obtain⟨k,hk,rfl,hA,b⟩:=hrel;by_cases ee:k<n
 .obtain⟨b0,o0,rfl,e0⟩:=(bs.keep b).at_ ee;obtain⟨-,p1,-,-,-,-,-⟩:=st7 (ai.keep b);have HY:=Ar λ(h:(decide (gi Z k<0) || decide ((ns:Int)<=gi Z k))=false)=>Bp.succ (f:=λi=>decide (gi Z i<0) || decide ((ns:Int)<=gi Z i)) hA.out h;have HN:=Ar λ(h:(decide (gi Z k<0) || decide ((ns:Int)<=gi Z k))=true)=>Bp.yes (f:=λi=>decide (gi Z i<0) || decide ((ns:Int)<=gi Z i)) ee h;let⟨z,hz⟩:=gN (gi Z k)
  rw[hz]at e0 HY HN;clear hz;have B3:(k:Int)<(n:Int):=aK
  by_cases t:z<0
  .have l:=Ar (show Bc s Z=(3,[],[]) by rw[E.out,if_pos (HN.out (by simp[t]))])
   go_wp2
   go_ret3
   rw[l.out];exact ig.none_ (An v b)
  obtain⟨z,rfl⟩:∃q:Nat,z=q:=⟨z.toNat,aK⟩
  by_cases ou:(ns:Int)<=(z:Int)
  .have l:=Ar (show Bc s Z=(3,[],[]) by rw[E.out,if_pos (HN.out aO)])
   go_wp2
   go_ret3
   rw[l.out];exact ig.none_ (An v b)
  have ho:=Ar (HY.out aO)
  go_wp2_with fail;exact aE ⟨ho,b⟩
 obtain rfl:n=k:=aK
 have u:=Ar (show Bc s Z=if 60<(Kq s).length*n then (5,[],[]) else Hc s Z (Kq s) n by rw[E.out,if_neg (by rw[hA.out];simp)]);have bq:=ai.keep b;have cb:=cz.out.keep b;have e4:=bs.keep b;have e6:=An v b;let⟨C,hC⟩:=gN (Kq s)
 rw[hC]at u aw;have hh:=Ar hC;clear hC E hA ai cz bs b;let⟨p0,p1,p2,p3,p4,p5,p6⟩:=st7 bq
 go_upto_region 13 with (go_at_call 28;refine aF (gl s a1 cb) λw3 vc c9 J=>?_;rw[hh.out]at c9)
 obtain⟨Ac,cc,rfl,j7,om,e2⟩:=Tb.pls c9;have j0:=bq.keep J;have kl:=cb.keep J;have j3:=e4.keep J;have L:=An e6 J;have cu:=Ar (λj k (h1:j<=n) (h2:k<=C.length) h3 h4=>X7 (s:=s) (Z:=Z) (z:=gi Z j) (C:=C) (j:=j) (k:=k) (n:=j) aK aw h2 h3 h4);let⟨m,hm⟩:=gN C.length
 rw[hm]at j7 e2 u aw cu ⊢;have HM:=Ar hm;let⟨q,hq⟩:=gN (m*n)
 have nq:q<=16*6:=by rw[<-hq];exact cJ aw j9
 have W1:IntKind.i64.wrap ((m:Int)*(n:Int))=(q:Int):=by
  rw[show (m:Int)*(n:Int)=(q:Int) by rw[<-hq];exact(Int.natCast_mul m n).symm,bH];omega
 rw[hq]at u;clear bq cb e4 J p0 p1 p2 p3 p4 p5 p6 c9 hm hq e6;by_cases bm:60<q
 .have l:=Ar (show Bc s Z=(5,[],[]) by rw[u.out,if_pos bm]);have B3:((60:Int)<(q:Int))=True:=aO
  go_wp2
  go_ret3
  rw[l.out];exact ig.none_ L
 have cw:=Ar (show Bc s Z=Hc s Z C n by rw[u.out,if_neg bm]);have B3:((60:Int)<(q:Int))=False:=aO
 clear u bm;go_upto_region 18 with fail;clear B3 W1;go_loopw [11,12,13,14,16,17,18,58] (λv1 v2 _ _ _ _ _ i wx=>∃j:Nat,j<=n/\i=j/\Hid ((Hc s Z C j).1=0)/\Vj wx w3 v1 (Hc s Z C j).2.1/\Tb wx w3 v2 (Hc s Z C j).2.2/\Be w3 wx) λ_ _ _ _ _ _ _ i _=>n-(intOf i).toNat
 case atStart=>exact⟨0,aB,rfl,Ar rfl,Vj.nil,OwG.nil,bl0⟩
 obtain⟨j,hj,rfl,t,g,d,b⟩:=hrel;by_cases j6:j<n
 .obtain⟨b0,o0,rfl,e0⟩:=(j3.keep b).at_ j6;have HU:=Ar (show Hc s Z C (j+1)=Hi s (gi Z j) j C (Hc s Z C j) m by rw[Hc,if_neg (by rw[t.out];simp),HM.out]);have bd:=Ar (λk (h2:k<=m) h4=>cu.out j k hj h2 t.out h4)
  have hg:=Ar (λ(x:Int) (h:Hc s Z C (j+1)=(x,[],[])) (hx:x≠0)=>show Bc s Z=(x,[],[]) by
   rw[cw.out];have:=X6 h hx (n-(j+1));rwa [show j+1+(n-(j+1))=n by omega] at this)
  let⟨a,ha⟩:=gN (Hc s Z C j)
  let⟨z,hz⟩:=gN (gi Z j)
  rw[ha]at g d t HU bd;rw[hz]at e0 HU bd;clear ha hz;have B4:(j:Int)<(n:Int):=aK
  obtain⟨wa,rfl⟩:∃wa:World,wa=wr:=⟨_,rfl⟩
  go_upto_region 21 with fail;go_loopw [11,12,16,17,18,65] (λv1 v2 _ _ _ i wx=>∃k:Nat,k<=m/\i=k/\Hid ((Hi s z j C a k).1=0)/\Vj wx w3 v1 (Hi s z j C a k).2.1/\Tb wx w3 v2 (Hi s z j C a k).2.2/\Be w3 wx) λ_ _ _ _ _ i _=>m-(intOf i).toNat
  case atStart=>exact⟨0,aB,rfl,Ar t.out,g,d,b⟩
  clear g d b e0;obtain⟨k,hk,rfl,cj,g,d,b⟩:=hrel;by_cases e9:k<m
  .obtain⟨b1,o1,rfl,e7⟩:=(e2.keep b).at_ e9;let⟨l0,l1,l2,l3,l4,l5,l6⟩:=e7 k e9;have HI:=Ar (show Hi s z j C a (k+1)=if (Fq s z (plc C k)).2≠0 then ((Fq s z (plc C k)).2,[],[]) else (0,(Hi s z j C a k).2.1++[(Fq s z (plc C k)).1],(Hi s z j C a k).2.2++[Ts (plc C k) j]) by rw[Hi,if_neg (by rw[cj.out];simp)]);have b8:=bd.out k hk cj.out;have hf:=Ar (λ(x:Int) (h:Hi s z j C a (k+1)=(x,[],[])) (hx:x≠0)=>hg.out x (by rw[HU.out];have:=X8 h hx (m-(k+1));rwa [show k+1+(m-(k+1))=m by omega] at this) hx);let⟨S,hS⟩:=gN ((Hi s z j C a k).2.1)
   let⟨Q,hQ⟩:=gN ((Hi s z j C a k).2.2)
   rw[hS]at g HI b8;rw[hQ]at d HI b8;let⟨⟨ga,us,cp,fl,qu,cx,cy⟩,ev⟩:∃c,plc C k=c:=⟨_,rfl⟩
   rw[ev]at l0 l1 l2 l3 l4 l5 l6 HI;dsimp only at l0 l1 l2 l3 l4 l5 l6;have bl:=Ar λ(W:World) (h:StV W #[.string s.nm,.slice A1 ns c1,.slice A2 s.mu.length c2,.slice A3 s.pc.length c3,.slice A4 s.us.length c4,.slice A5 s.se.length c5,.slice A6 s.no c6] s)=>show Calls prog 29 #[.agg #[.string s.nm,.slice A1 ns c1,.slice A2 s.mu.length c2,.slice A3 s.pc.length c3,.slice A4 s.us.length c4,.slice A5 s.se.length c5,.slice A6 s.no c6],z,.agg #[ga,us,cp,.bool fl,qu,cx,cy]] W (Acn W (Fq s z ⟨ga,us,cp,fl,qu,cx,cy⟩)) from Vw s z ⟨ga,us,cp,fl,qu,cx,cy⟩ W a1 h;let⟨⟨sh,er⟩,ey⟩:∃r,Fq s z ⟨ga,us,cp,fl,qu,cx,cy⟩=r:=⟨_,rfl⟩
   rw[ey]at HI bl;clear e7 hS hQ ev ey;have B5:(k:Int)<(m:Int):=aK
   go_upto_region 23 with fail;refine Bq λY M hK=>?_
   let⟨BP,db⟩:=gN wr.heap.size
   rw[db]at hK ⊢;let⟨k0,k1,k2,k3,k4,k5,k6⟩:=st7 hK;let⟨p0,p1,p2,p3,p4,p5,p6⟩:=st7 ((j0.keep b).keep M);have cf:=(kl.keep b).keep M;have dk:=hK.lt;clear l0 l1 l2 l3 l4 l5 l6;by_cases N:er=0
   .subst N;have bc:=Ar (show Hi s z j C a (k+1)=(0,S++[sh],Q++[Ts ⟨ga,us,cp,fl,qu,cx,cy⟩ j]) by rw[HI.out,if_neg aL])
    go_upto_region 26 with (go_at_call 29;refine(bl.out _ cf).mono ?_;rintro e w5 ⟨D,n5,H,I,a8,F,G,rfl,a6,K⟩)
    have a7:=a6 trivial
    try dsimp only at a7
    refine Bq λV bu hT=>?_
    have ds:Y.heap.size<=w5.heap.size:=K.size;let⟨BS,im⟩:=gN w5.heap.size
    rw[im]at hT ds ⊢;have ad:=(hK.keep K).keep bu;have fK:=ad.frozen 0;have kp:=(st7 ad).1;clear k0 k1 k2 k3 k4 k5 k6 p0 p1 p2 p3 p4 p5 p6;go_upto_region 27 with fail;refine Cj (λU=>Be wr U/\Bf U BP 67 #[(j:Int),us,cp,.bool fl,qu,cx,cy]/\Bf U BS 85 #[.slice D n5 H,I,.bool a8,F,G]/\ShV U Y ⟨D,n5,H,I,a8,F,G⟩ sh) ⟨Ba (An M (An K bu)) (p:=⟨BP,0,none⟩) (Nat.le_of_eq db),ad.set_ 0 _,hT.far (p:=⟨BP,0,none⟩) (by show BS≠BP;omega) _,(a7.keep bu).store dk⟩ ?_;rintro U ⟨bt,e1,e3,kk⟩;let⟨t0,t1,t2,t3,t4⟩:=sh5 e3;have j2:w3.heap.size<=Y.heap.size:=bB b.size M.size;have y:=Ao (aV U U) (o:=.cells #[.slice D n5 H,I,.bool a8,F,G] 85);have R:=(Vj.keep g bt).keep y;have ew:=(kk.lower j2).keep y;have bp:=e1.keep y;have P:=OwG.keep (OwG.keep d bt) y;have au:=An (An b bt) y;let⟨pz,cg⟩:=R.own;clear hK ad fK kp hT a6 a7 cf
    go_upto_region 28 with (at_builtin;refine Mq rfl rfl w3 S rfl R U 1 D n5 H I a8 F G sh 85 rfl (Bf.new _ _ _) ew au.size ?_;intro v7 w7 jr c0 ec)
    clear t0 t1 t2 t3 t4;have dy:=bp.grown c0 (OwG.neB cg bp aM);have ek:=OwG.kept P c0 (OwG.apart P cg aM);have j4:=dS au c0 au.size ec;let⟨k0,k1,k2,k3,k4,k5,k6⟩:=st7 dy;have T:=Ao (aV w7 w7) (o:=.cells #[(j:Int),us,cp,.bool fl,qu,cx,cy] 67);have O:=OwG.keep ek T;have k9:=Vj.keep jr T;have e5:=An j4 T;clear bp P au R cg y dy e1 e3
    go_upto_region 29 with (at_builtin;refine Eu rfl w3 Q O w7 1 ⟨(j:Int),us,cp,fl,qu,cx,cy⟩ 67 (Bf.new _ _ _) aK e5.size ?_;intro v9 w9 kh e8 nj)
    have eo:=Vj.grown k9 O aM aM e8;have j5:=Bk e5 O e8;go_wp2_with fail;exact aE ⟨Ar (by rw[bc.out]),by rw[bc.out];exact eo,by rw[bc.out];exact kh,j5⟩
   have oq:(er != 0)=true:=by simpa using N
   have l:=Ar (hf.out er (by rw[HI.out,if_pos N]) N);clear N
   go_wp2_with (go_at_call 29;refine(bl.out _ cf).mono ?_;rintro e w5 ⟨D,n5,H,I,a8,F,G,rfl,a6,K⟩)
   go_ret3
   rw[l.out];exact ig.none_ (Ao (An L (An b (An M K))))
  obtain rfl:m=k:=aK
  go_wp2_with fail;exact aE ⟨Ar (by rw[HU.out];exact cj.out),by rw[HU.out];exact g,by rw[HU.out];exact d,b⟩
 obtain rfl:n=j:=aK
 go_wp2
 go_ret3
 have l:=Ar (show Bc s Z=Hc s Z C n from cw.out);exact⟨_,_,by rw[l.out,t.out];rfl,by rw[l.out];exact g.lower L.size,by rw[l.out];exact OwG.lower d L.size,An L b⟩
theorem Ah5{f:Nat}(p:f=14\/f=47)(l:Array Value)(s:StyleP)(A:Option Addr)(n c:Nat)(Z:List Int)(w:World)(g:SmS s)(k:StV w l s)(h:Bv s≠0):Calls prog f #[.agg l,.slice A n c] w (ig w (Bv s,[],[])):=by
 rcases p with rfl|rfl
 have b:=@Fs
 rotate_left 1
 have b:=@N8
 rotate_left 1
 all_goals
  let⟨x,j⟩:=gN (Bv s)
  rw[j]at h ⊢;have m:=Ar j;have q:(x != 0)=true:=by simpa using h
  clear j h;obtain⟨D,J,E,K,F,L,G,M,H,N,I,O,rfl,⟨W,Y,v3⟩,⟨v4,v5,v6⟩,⟨v7,v8,v9⟩,⟨r,t,u⟩,⟨v,y,z⟩,B,C⟩:=id k;go_in;go_upto_region 1 with fail;refine Bq λX a o=>?_
  let⟨P,Q,R,S,T,U,V⟩:=st7 o;have i:=k.keep a
  go_wp2_with ((first|go_at_call 27|go_at_call 64);refine rR (b _ s _ g i) λw1 d=>?_;rw[m.out])
  go_ret3
  exact ig.none_ (An a d)
def Aoj:=@Ah5 14 (.inl rfl)
def Al7:=@Ah5 47 (.inr rfl)
theorem Al6(vs:Array Value)(s:StyleP)(A:Option Addr)(n c:Nat)(Z:List Int)(w:World)(hn:n<=c)(yx:c<=9223372036854775807)(hZ:InS w A n Z)(M:SmS s)(hv:StV w vs s)(h:Bv s=0):Calls prog 47 #[.agg vs,.slice A n c] w (ig w (Bc s Z)):=by
 have HC:=Ar h;have nh:=hZ.1
 have HS:=Ar (show Bc s Z=if n<1\/6<n then (3,[],[]) else if Bp (λi=>decide (gi Z i<0) || decide ((s.sz.length:Int)<=gi Z i)) n then (3,[],[]) else if 60<(Kq s).length*n then (5,[],[]) else Hc s Z (Kq s) n by
  unfold Bc;rw[if_neg (by rw[h];simp),nh])
 have y1:=M.sz;have cb:=Zo M h;clear h nh;obtain⟨A1,c1,A2,c2,A3,c3,A4,c4,A5,c5,A6,c6,rfl,⟨v1,v2,v3⟩,⟨v4,v5,v6⟩,⟨v7,v8,v9⟩,⟨zy,A0,ss⟩,⟨A7,A9,sv⟩,Aa,Ab⟩:=id hv;go_enter func47,ntmps47;go_upto_region 1 with fail;refine Bq λX fc hP=>?_
 let⟨p0,p1,p2,p3,p4,p5,p6⟩:=st7 hP;have h7:=hv.keep fc;have qv:=hP
 go_upto_region 4 with (go_at_call 64;refine rR (N8 _ s _ M h7) λw1 bt=>?_;rw[HC.out])
 have bs:=hP.keep bt;have gy:=h7.keep bt;have ak:=An fc bt;have ew:=hZ.keep ak;clear p0 p1 p2 p3 p4 p5 p6 hP qv h7 fc bt;by_cases h1:n<1
 .have R:=Ar (show Bc s Z=(3,[],[]) by rw[HS.out,if_pos (.inl h1)]);obtain rfl:n=0:=aK
  go_wp2
  go_ret3
  rw[R.out];exact ig.none_ ak
 by_cases h6:6<n
 .have R:=Ar (show Bc s Z=(3,[],[]) by rw[HS.out,if_pos (.inr h6)]);have B1:((n:Int)<1)=False:=aO
  have B2:((6:Int)<(n:Int))=True:=aO
  go_wp2
  go_ret3
  rw[R.out];exact ig.none_ ak
 have b2:=Ar (show Bc s Z=if Bp (λi=>decide (gi Z i<0) || decide ((s.sz.length:Int)<=gi Z i)) n then (3,[],[]) else if 60<(Kq s).length*n then (5,[],[]) else Hc s Z (Kq s) n by rw[HS.out,if_neg aK]);have B1:((n:Int)<1)=False:=aO
 have B2:((6:Int)<(n:Int))=False:=aO
 have r7:n<=6:=aK
 let⟨ns,n3⟩:=gN s.sz.length
 rw[n3]at bs b2 y1 gy;have k9:=Ar gy;clear HS n3 gy h1 h6 v1 v3 v6 sv;go_upto_region 7 with fail;clear B1 B2;go_loopw [8] (λi wx=>∃k:Nat,k<=n/\i=k/\Hid (Bp (λi=>decide (gi Z i<0) || decide ((ns:Int)<=gi Z i)) k=false)/\Be w1 wx) λi _=>n-(intOf i).toNat
 case atStart=>exact⟨0,aB,rfl,Ar rfl,bl0⟩
 obtain⟨k,hk,rfl,hA,d⟩:=hrel;by_cases n2:k<n
 .obtain⟨b0,o0,rfl,e0⟩:=(ew.keep d).at_ n2;obtain⟨-,p1,-,-,-,-,-⟩:=st7 (bs.keep d);have HY:=Ar λ(h:(decide (gi Z k<0) || decide ((ns:Int)<=gi Z k))=false)=>Bp.succ (f:=λi=>decide (gi Z i<0) || decide ((ns:Int)<=gi Z i)) hA.out h;have HN:=Ar λ(h:(decide (gi Z k<0) || decide ((ns:Int)<=gi Z k))=true)=>Bp.yes (f:=λi=>decide (gi Z i<0) || decide ((ns:Int)<=gi Z i)) n2 h;let⟨z,hz⟩:=gN (gi Z k)
  rw[hz]at e0 HY HN;clear hz;have B3:(k:Int)<(n:Int):=aK
  have B0:(0:Int)<=(k:Int):=aK
  go_upto_region 9 with fail;by_cases G:z<0
  .have R:=Ar (show Bc s Z=(3,[],[]) by rw[b2.out,if_pos (HN.out (by simp[G]))]);have hd:decide (z<0)=true:=by simpa using G
   clear G;go_quiet (fail);replace d:=Bd d nq;go_wp2
   go_ret3
   rw[R.out];exact ig.none_ (An ak d)
  have hd:decide (z<0)=false:=by simpa using G
  clear G;by_cases cf:(ns:Int)<=z
  .have R:=Ar (show Bc s Z=(3,[],[]) by rw[b2.out,if_pos (HN.out aO)]);have mx:decide ((ns:Int)<=z)=true:=by simpa using cf
   clear cf;go_quiet (fail);replace d:=Bd d nq;go_wp2
   go_ret3
   rw[R.out];exact ig.none_ (An ak d)
  have mx:decide ((ns:Int)<=z)=false:=by simpa using cf
  have e6:=Ar (HY.out (by rw[hd,mx];rfl));clear cf;go_quiet (fail);replace d:=Bd d nq;go_wp2_with fail;exact aE ⟨e6,d⟩
 obtain rfl:n=k:=aK
 have ad:=Ar (show Bc s Z=if 60<(Kq s).length*n then (5,[],[]) else Hc s Z (Kq s) n by rw[b2.out,if_neg (by rw[hA.out];simp)]);have ek:=bs.keep d;have h0:=k9.out.keep d;have mm:=ew.keep d;have mr:=An ak d;let⟨C,hC⟩:=gN (Kq s)
 rw[hC]at ad cb;have pn:=Ar hC;clear hC b2 hA bs k9 ew d;let⟨p0,p1,p2,p3,p4,p5,p6⟩:=st7 ek
 go_upto_region 12 with (go_at_call 76;refine aF (Aev s M h0) λw3 vc gw b6=>?_;rw[pn.out]at gw)
 obtain⟨Ac,cc,rfl,fv,z6,ly⟩:=Tb.pls gw;have qw:=ek.keep b6;have rn:=h0.keep b6;have r0:=mm.keep b6;have ai:=An mr b6;have j7:=Ar (λj k (h1:j<=n) (H:k<=C.length) h3 h4=>X7 (s:=s) (Z:=Z) (z:=gi Z j) (C:=C) (j:=j) (k:=k) (n:=j) aK cb H h3 h4);let⟨m,hm⟩:=gN C.length
 rw[hm]at fv ly ad cb j7 ⊢;have HM:=Ar hm;let⟨q,hq⟩:=gN (m*n)
 have vt:q<=16*6:=by rw[<-hq];exact cJ cb r7
 have W1:IntKind.i64.wrap ((m:Int)*(n:Int))=(q:Int):=by
  rw[show (m:Int)*(n:Int)=(q:Int) by rw[<-hq];exact(Int.natCast_mul m n).symm,bH];omega
 rw[hq]at ad;clear ek h0 mm b6 p0 p1 p2 p3 p4 p5 p6 gw hm hq mr;by_cases e9:60<q
 .have R:=Ar (show Bc s Z=(5,[],[]) by rw[ad.out,if_pos e9]);have B3:((60:Int)<(q:Int))=True:=aO
  go_wp2
  go_ret3
  rw[R.out];exact ig.none_ ai
 have jr:=Ar (show Bc s Z=Hc s Z C n by rw[ad.out,if_neg e9]);have B3:((60:Int)<(q:Int))=False:=aO
 clear ad e9;go_upto_region 17 with fail;clear B3 W1;go_loopw [10,11,12,13,14,15,16,17,18,19] (λv1 v2 i _ _ _ _ _ _ _ wx=>∃j:Nat,j<=n/\i=j/\Hid ((Hc s Z C j).1=0)/\Vj wx w3 v1 (Hc s Z C j).2.1/\Tb wx w3 v2 (Hc s Z C j).2.2/\Be w3 wx) λ_ _ i _ _ _ _ _ _ _ _=>n-(intOf i).toNat
 case atStart=>exact⟨0,aB,rfl,Ar rfl,Vj.nil,OwG.nil,bl0⟩
 obtain⟨j,hj,rfl,G,L,K,d⟩:=hrel;by_cases r5:j<n
 .obtain⟨b0,o0,rfl,e8⟩:=r0.at_ r5;have e0:=Aq d e8;have HU:=Ar (show Hc s Z C (j+1)=Hi s (gi Z j) j C (Hc s Z C j) m by rw[Hc,if_neg (by rw[G.out];simp),HM.out]);have e2:=Ar (λk (H:k<=m) h4=>j7.out j k hj H G.out h4)
  have pe:=Ar (λ(x:Int) (h:Hc s Z C (j+1)=(x,[],[])) (hx:x≠0)=>show Bc s Z=(x,[],[]) by
   rw[jr.out];have:=X6 h hx (n-(j+1));rwa [show j+1+(n-(j+1))=n by omega] at this)
  let⟨a,ha⟩:=gN (Hc s Z C j)
  let⟨z,hz⟩:=gN (gi Z j)
  rw[ha]at L K G HU e2;rw[hz]at e0 e8 HU e2;clear ha hz;have B4:(j:Int)<(n:Int):=aK
  obtain⟨wa,rfl⟩:∃wa:World,wa=wr:=⟨_,rfl⟩
  go_upto_region 20 with fail;go_loopw [10,11,13,14,15,16,17,18,19] (λv1 v2 i _ _ _ _ _ _ wx=>∃k:Nat,k<=m/\i=k/\Hid ((Hi s z j C a k).1=0)/\Vj wx w3 v1 (Hi s z j C a k).2.1/\Tb wx w3 v2 (Hi s z j C a k).2.2/\Be w3 wx) λ_ _ i _ _ _ _ _ _ _=>m-(intOf i).toNat
  case atStart=>exact⟨0,aB,rfl,Ar G.out,L,K,d⟩
  clear L K d e0;obtain⟨k,hk,rfl,hf,L,K,d⟩:=hrel;by_cases n0:k<m
  .obtain⟨b1,o1,rfl,mv⟩:=(ly.keep d).at_ n0;let⟨l0,l1,l2,l3,l4,l5,l6⟩:=mv k n0;have HI:=Ar (show Hi s z j C a (k+1)=if (Fq s z (plc C k)).2≠0 then ((Fq s z (plc C k)).2,[],[]) else (0,(Hi s z j C a k).2.1++[(Fq s z (plc C k)).1],(Hi s z j C a k).2.2++[Ts (plc C k) j]) by rw[Hi,if_neg (by rw[hf.out];simp)]);have da:=e2.out k hk hf.out;have p8:=Ar (λ(x:Int) (h:Hi s z j C a (k+1)=(x,[],[])) (hx:x≠0)=>pe.out x (by rw[HU.out];have:=X8 h hx (m-(k+1));rwa [show k+1+(m-(k+1))=m by omega] at this) hx);let⟨S,hS⟩:=gN ((Hi s z j C a k).2.1)
   let⟨Q,hQ⟩:=gN ((Hi s z j C a k).2.2)
   rw[hS]at L HI da;rw[hQ]at K HI da;let⟨⟨ga,P,cp,fl,qu,cx,cy⟩,na⟩:∃c,plc C k=c:=⟨_,rfl⟩
   rw[na]at l0 l1 l2 l3 l4 l5 l6 HI;dsimp only at l0 l1 l2 l3 l4 l5 l6;clear mv hS hQ na;have B5:(k:Int)<(m:Int):=aK
   go_upto_region 23 with fail;refine Bq λY a8 hK=>?_
   let⟨BP,la⟩:=gN wr.heap.size
   rw[la]at hK ⊢;have fK:=hK.frozen 0;have s0:=(st7 hK).1;clear l0 l1 l2 l3 l4 l5 l6;go_upto_region 24 with fail;refine Cj (λU=>Be wr U/\Bf U BP 67 #[(j:Int),P,cp,.bool fl,qu,cx,cy]) ⟨Ba a8 (p:=⟨BP,0,none⟩) (Nat.le_of_eq la),hK.set_ 0 _⟩ ?_;rintro U ⟨a7,b5⟩;clear fK s0 hK a8;let⟨k0,k1,k2,k3,k4,k5,k6⟩:=st7 b5;have er:=(qw.keep d).keep a7;let⟨p0,p1,p2,p3,p4,p5,p6⟩:=st7 er;have h5:=(rn.keep d).keep a7;have eU:=Aq (An d a7) e8
   have KF:∀W,Be U W->(λb=>Cq b w 0 (.string s.nm)/\Cq b w 1 (.slice A1 ns c1)/\Cq b w 2 (.slice A2 s.mu.length c2)/\Cq b w 3 (.slice A3 s.pc.length c3)/\Cq b w 4 (.slice A4 s.us.length c4)/\Cq b w 5 (.slice A5 s.se.length c5)/\Cq b w 6 (.slice A6 s.no c6)/\Cq b b0 (o0+j) z/\Cq b BP 1 P) W:=λW h=>by
    let⟨p0,p1,p2,p3,p4,p5,p6⟩:=st7 (er.keep h);exact⟨p0,p1,p2,p3,p4,p5,p6,Aq h eU,(st7 (b5.keep h)).2.1⟩
   have F:=Aw (aV U U);let⟨r,hr⟩:=gN (J5 s z P)
   obtain⟨l,x⟩:=r;have HE:=Ar hr;clear k0 k1 k2 k3 k4 k5 k6 p0 p1 p2 p3 p4 p5 p6
   go_region_held3 (λb=>Cq b w 0 (.string s.nm)/\Cq b w 1 (.slice A1 ns c1)/\Cq b w 2 (.slice A2 s.mu.length c2)/\Cq b w 3 (.slice A3 s.pc.length c3)/\Cq b w 4 (.slice A4 s.us.length c4)/\Cq b w 5 (.slice A5 s.se.length c5)/\Cq b w 6 (.slice A6 s.no c6)/\Cq b b0 (o0+j) z/\Cq b BP 1 P)
    (with_reducible exact KF _ F)
    ((go_at_call 18;(with_reducible refine(Aof s z P M (h5.keep F)).mono ?_);rintro e w5 ⟨v5,rfl,b8,r1⟩;rw[HE.out]at b8 ⊢;replace b8:=OwG.lower b8 F.size;replace F:=An F r1))
   by_cases hx:x=0
   .subst hx;have h8:(J5 s z P).2=0:=by rw[hr]
    let⟨H,h3⟩:=Aef h8;have cd:=tu h8;rw[hr]at cd;have HO:=Ar (Ry (s:=s) (z:=z) (u:=P) (E:=(Ii s z P).1) (Prod.ext rfl h3));let⟨⟨⟨bx,bY⟩,y⟩,ca⟩:∃e,Rn s z P=e:=⟨_,rfl⟩
    rw[ca]at H;dsimp only at H cd;subst H
    have e3:=Ar (show Fq s z ⟨ga,P,cp,fl,qu,cx,cy⟩=(⟨if fl then F6 true 0 l else l,(Cg s P).gr,(Cg s P).mt,if fl then Cd true 0 (bx,bY) else (bx,bY)⟩,0) by
     unfold Fq;dsimp only;rw[hr,ca];simp)
    have HB:=Ar ca;have nf:=Ar λW (h:Be w5 W)=>h5.keep (An F h);have KG:=Ar λW (h:Be w5 W)=>KF W (An F h);have J:=Aw (aV w5 w5);clear h8 h3 ca hr KF;obtain⟨Ap,kq,rfl,r3,fv,ev,ec⟩:=Zk b8;let⟨np,gf⟩:=gN l.length
    rw[gf]at fv ev ec cd ⊢;have ps:=Ar gf;clear b8 gf;go_upto_region 27 with fail;go_cut [17,18] (λu v W=>∃g:Nat,u=.pointer (some ⟨g,0,none⟩)/\v=.int .i64 0/\Bf W g 65 #[bx,bY]/\w5.heap.size<=g/\Be w5 W)
    case first =>
     go_region_held3 (λb=>Cq b w 0 (.string s.nm)/\Cq b w 1 (.slice A1 ns c1)/\Cq b w 2 (.slice A2 s.mu.length c2)/\Cq b w 3 (.slice A3 s.pc.length c3)/\Cq b w 4 (.slice A4 s.us.length c4)/\Cq b w 5 (.slice A5 s.se.length c5)/\Cq b w 6 (.slice A6 s.no c6)/\Cq b b0 (o0+j) z/\Cq b BP 1 P)
      ((refine KG.out _ ?_;((repeat (first|with_reducible exact J|exact bl0|refine Aw ?_|refine Ao ?_|refine Ba ?_ (by simp only[];omega))))))
      ((go_at_call 77;(with_reducible refine(Aew s z P M (nf.out _ (by ((repeat (first|with_reducible exact J|exact bl0|refine Aw ?_|refine Ao ?_|refine Ba ?_ (by simp only[];omega))))))).mono ?_);rintro e w6 ⟨rfl,b7⟩;rw[HB.out];replace J:Be w5 w6:=An (by ((repeat (first|with_reducible exact J|exact bl0|refine Aw ?_|refine Ao ?_|refine Ba ?_ (by simp only[];omega))))) b7;(first|(have kB:=Bf.keep (Bf.new _ _ _) b7;obtain⟨j0,j1,f0,f1,-⟩:=kB.pair)|(have kB:=Bf.keep (Bf.drew (Bf.new w5 _ _)) b7;obtain⟨j0,j1,f0,f1,-⟩:=kB.pair)|skip)))
     all_goals go_wp2
     all_goals go_meet
     all_goals (first
      | with_reducible exact⟨w6,rfl,rfl,Bf.new _ _ _,J.size,Ao J⟩
      | with_reducible exact⟨_,rfl,rfl,(kB.set_ 0 _).set_ 1 _,aA,Ba (Ba J aA) aA⟩)
    obtain⟨g,rfl,rfl,hA,hg,a6⟩:=hcut;let⟨PL,eo⟩:=gN (if fl=true then F6 true 0 l else l)
    let⟨⟨ax,ay⟩,ey⟩:∃p,(if fl=true then Cd true 0 (bx,bY) else (bx,bY))=p:=⟨_,rfl⟩
    rw[eo,ey]at e3;have j8:=Ar eo;have j5:=Ar ey;have mf:=ev.keep a6;have lf:=ec.keep a6;have lo:=(b5.keep F).keep a6;have rr:U.heap.size<=w5.heap.size:=F.size;have k3:=(st7 lo).2.2.2.1;clear eo ey J KG ev ec
    go_upto_if 107 with fail
    go_cut [15] λv W=>∃A' n' c',v=.slice A' n' c'/\n'=PL.length/\c'<=9223372036854775807/\ElS W U (.slice A' n' c') PL/\Bf W g 65 #[ax,ay]/\Be w5 W
    case first =>
     cases fl with
     | false =>
       have h1:=j8.out;have H:=j5.out;simp only[Bool.false_eq_true,if_false]at h1 H;subst h1;injection H with H h3
       subst H h3;go_wp2;go_meet;exact⟨Ap,np,kq,rfl,ps.out.symm,r3,lf,hA,a6⟩
     | true =>
       have h1:=j8.out;have H:=j5.out;simp only[if_true]at h1 H;subst h1;have pv:=Ar (show (Cd true 0 (bx,bY)).1=ax by rw[H]);have e6:=Ar (show (Cd true 0 (bx,bY)).2=ay by rw[H]);clear H
       go_upto_region 30 with (first
        | (go_at_call 78;refine rR (kf _) λw7 I=>?_)
        | (go_at_call 20;have vo:=I;refine aF (bg true 0 Ap kq np l cd (mf.keep I)) λw8 v8 gx bu=>?_))
       obtain⟨A5,q0,rfl,q1,q2,q3,q4⟩:=Zk gx;have yy:g<w7.heap.size:=aZ hA.lt I.size;have qx:U.heap.size<=w7.heap.size:=bB rr (bB a6.size I.size);have a1:=hA.keep (An I bu);have D:=Aw (aV w8 w8);obtain⟨y0,y1,-,-,-⟩:=a1.pair
       go_region_law ((first
        | (go_simp;go_at_call 44;(with_reducible refine(L6 (f:=true) (q:=0) (x:=bx) (y:=bY)).mono ?_);rintro e w9 ⟨rfl,fa⟩;rw[pv.out,e6.out];replace D:=An D fa;obtain⟨y0,y1,f0,f1,-⟩:=(a1.keep D).pair)
        | (go_simp;go_at_call 78;(with_reducible refine(kf _).mono ?_);rintro e w6 ⟨rfl,b7⟩;replace D:=An D b7;obtain⟨y0,y1,f0,f1,-⟩:=(a1.keep D).pair)))
       all_goals go_wp2
       all_goals go_meet
       all_goals refine⟨A5,_,q0,rfl,rfl,q1,((q4.keep D).keepAbove λk cs fr hk _=>?_).lower qx,((a1.keep D).set_ 0 _).set_ 1 _,Ba (Ba (An a6 (An (An I bu) D)) (p:=⟨g,0,none⟩) hg) (p:=⟨g,1,none⟩) hg⟩
       all_goals have mz:k≠g:=by have H:w7.heap.size<=k:=hk;omega
       all_goals exact(Dv mz).trans (Dv mz)
    obtain⟨A8,n8,c8,rfl,-,r2,lb,a1,bu⟩:=hcut;have c0:=An F bu;have lx:=er.keep c0;have ee:=b5.keep c0;have mo:=An ai (An d (An a7 c0));have nr:=v9.keep mo;have dx:=ss.keep mo;obtain⟨ni,-,-,sq,sr,-⟩:=HO.out;obtain⟨u,rfl⟩:∃u:Nat,P=u:=⟨P.toNat,aK⟩
    have hu:u<s.us.length:=aK
    have e5:=Ar ((Rr ni).2 u hu);have y3:=M.pc;have y4:=M.us;clear ni sq sr hA lf mf lo k3 a6 h5 nf;obtain⟨b4,o4,rfl,e4,-,-⟩:=dx.at_ hu;let⟨i,hi⟩:∃i:Nat,(use s.us u).pc=i:=⟨(use s.us u).pc.toNat,by have:=e5.out;omega⟩
    have r4:i<s.pc.length:=by have:=e5.out.2.1;rw[hi]at this;omega
    have j9:=Ar (show Cg s u=pce s.pc i by unfold Cg;rw[show ((u:Int)).toNat=u by omega,hi];rfl);rw[hi]at e4;obtain⟨N,O,rfl,Ai,dk,hc⟩:=nr.at_ r4;let⟨t,nc⟩:=gN (pce s.pc i)
    rw[nc]at dk j9;rw[j9.out]at e3;obtain⟨E1,d1,E2,d2,E3,d3,E4,d4,rfl,-⟩:=dk;have x0:=hc 0 _ rfl;rw[bU]at x0;have x1:=hc 1 _ rfl;have x2:=hc 2 _ rfl;have x3:=hc 3 _ rfl;have x4:=hc 4 _ rfl;have x5:=hc 5 _ rfl;have x6:=hc 6 _ rfl;have B6:(u:Int)<(s.us.length:Int):=aK
    have B7:(i:Int)<(s.pc.length:Int):=aK
    obtain⟨T,rfl⟩:∃W:World,W=wc:=⟨_,rfl⟩
    have KF:∀b,Be T b->(λb=>Cq b w 3 (.slice (some ⟨N,O,none⟩) s.pc.length c3)/\Cq b w 4 (.slice (some ⟨b4,o4,none⟩) s.us.length c4)/\Cq b BP 1 (u:Int)/\Cq b b4 (o4+u*3) (i:Int)/\Cq b N (O+i*7) (.string t.nm)/\Cq b N (O+i*7+1) (.slice E1 t.ed.length d1)/\Cq b N (O+i*7+2) t.gr/\Cq b N (O+i*7+3) (.slice E2 t.nt.length d2)/\Cq b N (O+i*7+4) (.slice E3 t.cr.length d3)/\Cq b N (O+i*7+5) (.slice E4 t.wd.length d4)/\Cq b N (O+i*7+6) (.bool t.mt)) b:=λb d=>by
     obtain⟨-,-,-,j3,j4,-,-⟩:=st7 (lx.keep d);exact⟨j3,j4,(st7 (ee.keep d)).2.1,Aq d e4,Aq d x0,Aq d x1,Aq d x2,Aq d x3,Aq d x4,Aq d x5,Aq d x6⟩
    have D:=Aw (aV T T);clear hc nc hi e4 x0 x1 x2 x3 x4 x5 x6 nr dx e5;go_upto_region 31 with fail;go_cut [19] λv W=>v=.pointer (some ⟨T,0,none⟩)/\Be T W/\Bf W T 50 #[.string t.nm,.slice E1 t.ed.length d1,t.gr,.slice E2 t.nt.length d2,.slice E3 t.cr.length d3,.slice E4 t.wd.length d4,.bool t.mt]
    case first =>
     go_region_held3 (λb=>Cq b w 3 (.slice (some ⟨N,O,none⟩) s.pc.length c3)/\Cq b w 4 (.slice (some ⟨b4,o4,none⟩) s.us.length c4)/\Cq b BP 1 (u:Int)/\Cq b b4 (o4+u*3) (i:Int)/\Cq b N (O+i*7) (.string t.nm)/\Cq b N (O+i*7+1) (.slice E1 t.ed.length d1)/\Cq b N (O+i*7+2) t.gr/\Cq b N (O+i*7+3) (.slice E2 t.nt.length d2)/\Cq b N (O+i*7+4) (.slice E3 t.cr.length d3)/\Cq b N (O+i*7+5) (.slice E4 t.wd.length d4)/\Cq b N (O+i*7+6) (.bool t.mt))
      (first
       | with_reducible exact KF _ D
       | with_reducible exact KF _ (Aw blA))
      (fail)
     all_goals go_wp2
     all_goals go_meet
     all_goals exact⟨rfl,Aw blA,Bf.drew (Bf.new _ _ _)⟩
    obtain⟨rfl,a8,hQ⟩:=hcut;obtain⟨V,rfl⟩:∃W:World,W=wc:=⟨_,rfl⟩
    have e1:=Ar (show Hi s z j C a (k+1)=(0,S++[⟨PL,t.gr,t.mt,(ax,ay)⟩],Q++[Ts ⟨ga,(u:Int),cp,fl,qu,cx,cy⟩ j]) by rw[HI.out,e3.out];simp);have fb:=An (An a7 c0) a8;have qy:w3.heap.size<=U.heap.size:=bB d.size a7.size;have rm:ShV V w3 ⟨A8,n8,c8,t.gr,t.mt,ax,ay⟩ ⟨PL,t.gr,t.mt,(ax,ay)⟩:=⟨rfl,rfl,rfl,rfl,(lb.keep a8).lower qy,r2⟩;have lr:=ee.keep a8;obtain⟨y0,y1,-,-,-⟩:=(a1.keep a8).pair;obtain⟨-,-,q2,-,-,-,q6⟩:=pc7 hQ;have au:=Ao (aV V V) (o:=.cells #[.slice A8 n8 c8,t.gr,.bool t.mt,ax,ay] 85);have bb:=(Vj.keep L fb).keep au;have nd:=rm.keep au;have eg:=lr.keep au;have ba:=OwG.keep (OwG.keep K fb) au;have c9:=An (An d fb) au;let⟨Al,h9⟩:=bb.own;clear lx ee lb a1 KF D
    go_upto_region 33 with (at_builtin;refine Mq rfl rfl w3 S rfl bb V 1 A8 n8 c8 t.gr t.mt ax ay ⟨PL,t.gr,t.mt,(ax,ay)⟩ 85 rfl (Bf.new _ _ _) nd c9.size ?_;intro v7 w7 r8 fs n1)
    clear y0 y1 q2 q6;have lk:=eg.grown fs (OwG.neB h9 eg aM);have n5:=OwG.kept ba fs (OwG.apart ba h9 aM);have I:=dS c9 fs c9.size n1;let⟨k0,k1,k2,k3,k4,k5,k6⟩:=st7 lk;have bc:=Ao (aV w7 w7) (o:=.cells #[(j:Int),(u:Int),cp,.bool fl,qu,cx,cy] 67);have b9:=OwG.keep n5 bc;have gx:=Vj.keep r8 bc;have cw:=An I bc;clear eg ba c9 bb h9 au lk b5 lr
    go_wp2_with (at_builtin;refine Eu rfl w3 Q b9 w7 1 ⟨(j:Int),(u:Int),cp,fl,qu,cx,cy⟩ 67 (Bf.new _ _ _) aK cw.size ?_;intro v9 w9 rf my vm)
    have n9:=Vj.grown gx b9 aM aM my;have fa:=Bk cw b9 my;go_roundw
    case rel=>exact⟨k+1,aK,aP,Ar (by rw[e1.out]),by rw[e1.out];exact n9,by rw[e1.out];exact rf,fa⟩
    case measure=>simp[intOf];omega
   have R:=Ar (p8.out x (by rw[HI.out,if_pos (by unfold Fq;dsimp only;rw[hr,if_pos hx];exact hx)];unfold Fq;dsimp only;rw[hr,if_pos hx]) hx);have z7:(x != 0)=true:=by simpa using hx
   clear hx hr;go_wp2
   go_ret3
   rw[R.out];exact ig.none_ (An ai (An d (An a7 F)))
  obtain rfl:m=k:=aK
  go_wp2_with fail;exact aE ⟨Ar (by rw[HU.out];exact hf.out),by rw[HU.out];exact L,by rw[HU.out];exact K,d⟩
 obtain rfl:n=j:=aK
 go_wp2
 go_ret3
 have R:=Ar (show Bc s Z=Hc s Z C n from jr.out);exact⟨_,_,by rw[R.out,G.out];rfl,by rw[R.out];exact L.lower ai.size,by rw[R.out];exact OwG.lower K ai.size,An ai d⟩
theorem Ae9(s:StyleP)(A:Option Addr)(c:Nat)(Z:List Int)(i:e<=c)(d:c<=9223372036854775807)(g:InS w A e Z)(a:SmS s)(f:StV w b s):Calls prog 47 #[.agg b,.slice A e c] w (ig w (Bc s Z)):=by
 by_cases h:Bv s=0
 .exact Al6 b s A e c Z w i d g a f h
 rw[show Bc s Z=(Bv s,[],[]) by unfold Bc;rw[if_pos h]];exact Al7 b s A e c Z w a f h
theorem Gr(s:StyleP)(A:Option Addr)(n c:Nat)(Z:List Int)(g:n<=c)(d:c<=9223372036854775807)(f:InS w A n Z)(a:SmS s)(e:StV w b s):Calls prog 14 #[.agg b,.slice A n c] w (ig w (Bc s Z)):=by
 by_cases h:Bv s=0
 .exact Aoi b s A n c Z w g d f a e h
 rw[show Bc s Z=(Bv s,[],[]) by unfold Bc;rw[if_pos h]];exact Aoj b s A n c Z w a e h
def Aem:Array Value:=#[.int .i64 0,.int .i64 0,.int .i64 0,.int .i64 0,.slice none 0 0,.slice none 0 0]
theorem Acr(w:World):MkV w Aem Qa:=⟨none,0,none,0,rfl,⟨aA,aK,rfl,.inl rfl⟩,aA,aK,λ_=>rfl,rfl,.inl rfl⟩
def Ahe(w:World)(r:Int×MkP)(e:Ending)(a:World):Prop:=∃c,e=.returned (.tuple #[.agg c,r.1])/\(∀b:World,(∀k,w.heap.size<=k->k<a.heap.size->b.heap[k]? = a.heap[k]?)->MkV b c r.2)/\Be w a
theorem mk6{t:TypeId}{b c d a f:Value}(H:Bf w e t #[i,b,c,d,a,f]):Cq w e 0 i/\Cq w e 1 b/\Cq w e 2 c/\Cq w e 3 d/\Cq w e 4 a/\Cq w e 5 f:=⟨(H.cell 0).trans rfl,(H.cell 1).trans rfl,(H.cell 2).trans rfl,(H.cell 3).trans rfl,(H.cell 4).trans rfl,(H.cell 5).trans rfl⟩
theorem Ali(h:Below e a w){u1 u2 u3 u4 u5:Value}(hg:e<=m:=by omega):Below e a ((((((w.setCell ⟨m,0,none⟩ i).setCell ⟨m,1,none⟩ u1).setCell ⟨m,2,none⟩ u2).setCell ⟨m,3,none⟩ u3).setCell ⟨m,4,none⟩ u4).setCell ⟨m,5,none⟩ u5):=cO (cO (cO (cO (cO (cO h hg _) hg _) hg _) hg _) hg _) hg _
theorem H8{b:Option Nat}{p:Addr}(d:w.grownBy a b)(h:w.cell? p=some i)(c:some p.block≠b):a.cell? p=some i:=by
 have e:=d.block p.block (Bi h) c;have:a.cell? p=w.cell? p:=by unfold World.cell?;rw[e]
 rw[this];exact h
theorem si(h:e<c.length)(q x y:Int):(((c.flatMap xi).set (e*7+4) q).set (e*7+5) x).set (e*7+6) y=(c.set e ⟨(plc c e).ga,(plc c e).us,(plc c e).cp,(plc c e).fl,q,x,y⟩).flatMap xi:=by
 induction c generalizing e with
 | nil=>simp at h
 | cons a c ih =>
   cases e with
   | zero=>simp[xi,cM,plc]
   | succ e =>
     rw[eE,cM,cM];have b:plc (a::c) (e+1)=plc c e:=by unfold plc;simp[List.getD]
     rw[b,<-ih (by simpa using h)];simp only[xi,cV,dQ];rw[show (e+1)*7+4=(e*7+4)+1+1+1+1+1+1+1 by omega,show (e+1)*7+5=(e*7+5)+1+1+1+1+1+1+1 by omega,show (e+1)*7+6=(e*7+6)+1+1+1+1+1+1+1 by omega];simp only[eE]
theorem Tb.store3{n:Nat}(h:Tb w e (.slice (some ⟨m,0,none⟩) n o) c)(g:c.length=n){k:Nat}(f:k<n)(q x y:Int):
 Tb (((w.setCell ⟨m,k*7+4,none⟩ q).setCell ⟨m,k*7+5,none⟩ x).setCell ⟨m,k*7+6,none⟩ y) e (.slice (some ⟨m,0,none⟩) n o) (c.set k ⟨(plc c k).ga,(plc c k).us,(plc c k).cp,(plc c k).fl,q,x,y⟩):=by
 subst g;have b:=(dI h (k*7+4) q).1;have d:=(dI b (k*7+5) x).1;have a:=(dI d (k*7+6) y).1;rw[si f]at a;unfold Tb OwG;rw[cD];exact a
theorem OwI.insA(b:OwI w e (.slice k m o) h)(d:h.length=m):InS w k m h:=by
 subst d;obtain⟨f,g,a,-,c,-⟩:=OwI.ins b;injection a with e1
 rw[e1];exact c
theorem Tb.plsA(h:Tb w e (.slice k m o) c)(d:c.length=m):PlS w k m c:=by
 subst d;obtain⟨f,g,a,-,-,b⟩:=Tb.pls h;injection a with e1
 rw[e1];exact b
theorem Aqj(q:Array Value)(s:StyleP)(b:Bed4)(A:Option Addr)(n c:Nat)(Z:List Int)(w:World)(D:n<=c)(j:c<=9223372036854775807)(B:InS w A n Z)(l:SmS s)(p:StV w q s)(h:(Bc s Z).1≠0):Calls prog 15 #[.agg q,Jw b,.slice A n c] w (Ahe w ((Bc s Z).1,Qa)):=by
 let⟨r,k⟩:=gN (Bc s Z)
 rw[k]at h ⊢;have t:=Ar k;obtain⟨x,S,C⟩:=r;dsimp only at h ⊢;have E:(x != 0)=true:=by simpa using h
 clear k h;obtain⟨V,c1,W,c2,A3,c3,A4,c4,A5,c5,A6,c6,rfl,⟨v1,v2,v3⟩,⟨v4,v5,v6⟩,⟨v7,v8,v9⟩,⟨L,M,N⟩,⟨O,P,Q⟩,R,T⟩:=id p;obtain⟨bl,bw,rx,ry⟩:=b;unfold Jw;dsimp only at *
 go_enter func15,ntmps15;go_upto_region 1 with fail;refine Jy λX d y hK z=>?_
 let⟨p0,p1,p2,p3,p4,p5,p6⟩:=st7 y;have m:=p.keep d
 go_upto_region 3 with (go_at_call 14;refine(Gr s A n c Z D j (B.keep d) l m).mono ?_;rintro e U ⟨u1,u2,rfl,i,F,f⟩;rw[t.out]at i ⊢;let⟨xs,o⟩:=i.own;obtain⟨AS,cS,rfl,-⟩:=OwG.form2 o)
 refine Cj (λY=>Be U Y) blA ?_;intro Y g;have a:=(z.keep f).keep g;let⟨q0,q1,q2,q3,q4,q5⟩:=mk6 a;have g0:=a.frozen 0;have g1:=a.frozen 1;have g2:=a.frozen 2;have g3:=a.frozen 3;have g4:=a.frozen 4;have g5:=a.frozen 5;go_wp2_with fail;let⟨G,H,s2,I,J,K⟩:=mk6 ((((((a.set_ 0 (.int .i64 0)).set_ 1 (.int .i64 0)).set_ 2 (.int .i64 0)).set_ 3 (.int .i64 0)).set_ 4 (.slice none 0 0)).set_ 5 (.slice none 0 0));exact bR ⟨Aem,rfl,λu _=>Acr u,Ali (An (An d f) g)⟩ rfl (by simp[results,results15,go_sem,G,H,s2,I,J,K,Aem])
theorem X5(b:Bc f h=(0,j,c)):j.length=c.length/\j.length<=60:=by
 have d:(Bc f h).1=0:=by rw[b]
 obtain⟨e,-,-,-,-,a,-⟩:=Kz d;rw[b]at e;injection e with _ e
 injection e with e1 e2
 rw[e1,e2,Lp,Pf,bN];exact⟨rfl,a⟩
theorem Aqi(vs:Array Value)(s:StyleP)(b:Bed4)(A:Option Addr)(n c:Nat)(Z:List Int)(w:World)(hn:n<=c)(n1:c<=9223372036854775807)(kq:A=none->c=0)(hZ:InS w A n Z)(kz:SmS s)(hv:StV w vs s)(h:(Bc s Z).1=0)(ak:(Bc s Z).2.1.length<20):Calls prog 15 #[.agg vs,Jw b,.slice A n c] w (Ahe w (Hg s b Z)):=by
 let⟨r,hr⟩:=gN (Bc s Z)
 obtain⟨x,S,C⟩:=r;rw[hr]at h ak;dsimp only at h ak;subst h;obtain⟨j6,-⟩:=X5 hr;have r8:n<=6:=by have:=(Kz (s:=s) (Z:=Z) (by rw[hr])).2.2.2.1;rw[hZ.1]at this;exact this
 have HE:=Ar hr
 have R:=Ar (show Hg s b Z=if (Jz b S (No S)).1≠0 then ((Jz b S (No S)).1,Qa) else if (Vn S (Jz b S (No S)).2).1≠0 then ((Vn S (Jz b S (No S)).2).1,Qa) else (0,⟨(Vn S (Jz b S (No S)).2).2,b.wid,b.rx,b.ry,Z,Hv C (Jz b S (No S)).2 (Jz b S (No S)).2.length⟩) by
  unfold Hg;rw[hr];dsimp only;rw[if_neg (show ¬((0:Int)≠0) by simp)])
 have bx:=Ar (show Jb (Ov S) (upI S.length S.length) S.length=No S by rw[Xo];rfl)
 have bt:=Ar (show ∀z∈No S,0<=z/\z<S.length from λz hz=>by
  have:=(Ud S).mem_iff.1 hz;simp at this;omega)
 have y:=Ar (show (No S).length=S.length by rw[(Ud S).length_eq];simp);let⟨rr,bd⟩:=gN (Jz b S (No S))
 have ai:=Ar (λ(h:rr.1=0)=>lh (b:=b) (S:=S) (os:=No S) (by rw[bd];exact h));have bs:=Ar (λ(h:rr.1=0)=>az (b:=b) (S:=S) (os:=No S) (by rw[bd];exact h));rw[bd]at R bs ai;have ec:=Ar bd;obtain⟨er,t⟩:=rr;dsimp only at R bs ai;let⟨O,hO⟩:=gN (No S)
 rw[hO]at bx bt y ai ec;have hc:=Ar j6;have ho:=Ar (show S.length<=1000000 by omega);clear hr bd hO j6;obtain⟨A1,c1,A2,c2,A3,c3,A4,c4,A5,c5,A6,c6,rfl,⟨v1,v2,v3⟩,⟨v4,v5,v6⟩,⟨v7,v8,v9⟩,⟨nx,ny,nz⟩,⟨o0,o1,o2⟩,o3,h5⟩:=id hv;obtain⟨bl,bw,rx,ry⟩:=b;unfold Jw;dsimp only at *
 go_enter func15,ntmps15;go_upto_region 1 with fail;refine Jy λX U hP hK hR=>?_
 let⟨p0,p1,p2,p3,p4,p5,p6⟩:=st7 hP;have la:=hv.keep U
 go_upto_region 4 with (go_at_call 14;refine(Gr s A n c Z hn n1 (hZ.keep U) kz la).mono ?_;rintro e w1 ⟨u1,u2,rfl,cm,a,cd⟩;rw[HE.out]at cm a ⊢;dsimp only at cm a ⊢;obtain⟨AS,cS,rfl,lS,mS,fc⟩:=cm.shs ho.out;obtain⟨AP,cP,rfl,lP,mP,-⟩:=Tb.pls a)
 let⟨nq,cj⟩:=gN S.length
 have gw:C.length=nq:=by rw[<-hc.out,cj]
 rw[cj]at fc ak bx bt y lS ⊢;rw[gw]at a lP ⊢;have hd:=Ar gw;have lx:=Ar cj;refine Bq λY a1 hV=>?_
 let⟨ZZ,na,k0⟩:=qd nq aK;have j0:=(hK.keep cd).keep a1;have j4:=(hR.keep cd).keep a1;have fr:=fc.keep a1;have e7:=OwG.keep a a1;have b5:=An cd a1;have jr:=(hZ.keep U).keep b5;have mx:w.heap.size+1+1<X.heap.size:=hR.lt;have N:=k0 Y;have dy:=Ao (aV Y Y) (o:=.cells ZZ 3);let⟨B8,ix⟩:=gN w1.heap.size
 let⟨BO,ev⟩:=gN Y.heap.size
 rw[ix]at hV ⊢;have v0:Cq Y B8 0 (.slice AS nq cS):=(hV.cell 0).trans rfl;have eg:=Ar (show SoW Y B8 nq S from ⟨AS,cS,hV,fr⟩);have e9:=Ar ev;clear hP hK hR cm a fc cd a1 p0 p1 p2 p3 p4 p5 p6 la k0 gw cj v3 v6 v9 nz o2 ix;go_upto_region 6 with fail;clear na;rw[<-xq]at N;rw[ev]at N;clear ev;go_loopw [12,34] (λ_ i wx=>∃k:Nat,k<=nq/\i=k/\OwI wx Y (.slice (some ⟨BO,0,none⟩) nq nq) (upI nq k)/\Be Y wx) λ_ i _=>nq-(intOf i).toNat
 case atStart=>exact⟨0,aB,rfl,by rw[e9.out];exact N,dy⟩
 clear N dy;obtain⟨k,Q,rfl,ck,hb⟩:=hrel;by_cases gy:k<nq
 .obtain⟨e0,f0⟩:=OwI.cellsI ck (Vq nq k) gy;have B1:(k:Int)<(nq:Int):=aK
  have HU:=Ar (xt gy);go_wp2_with fail;exact aE ⟨by rw[<-HU.out];exact OwI.storeI ck (Vq nq k) k (k:Int),Ba hb (p:=⟨BO,k,none⟩) (by show Y.heap.size<=BO;rw[e9.out];exact aA)⟩
 obtain rfl:nq=k:=aK
 have hf:Hid (Ahs nq (upI nq nq)):=Ar (λz hz=>by
  rw[Xo]at hz;obtain⟨i,hi,rfl⟩:=List.mem_map.1 hz;have:=List.mem_range.1 hi;omega)
 have db:=Ar (show Calls prog 30 #[.slice (some ⟨BO,0,none⟩) nq nq,.func (.func 31) #[] #[.pointer (some ⟨B8,0,none⟩)]] wr λe w'=>e=.returned (.tuple #[])/\OwI w' Y (.slice (some ⟨BO,0,none⟩) nq nq) (Jb (Ov S) (upI nq nq) nq)/\Be Y w' from jt B8 nq S BO nq nq (upI nq nq) Y wr ak (Vq _ _) eg.out hb hf.out ck)
 go_upto_region 11 with (go_at_call 30;refine db.out.mono ?_;rintro e w2 ⟨rfl,h0,E⟩;rw[bx.out]at h0)
 have ca:=j0.keep E
 have j7:=(show Bf w2 B8 56 #[.slice AS nq cS] from by
  obtain⟨A',c',h1,-⟩:=eg.out;have:=h1.keep E;have e:=(h1.cell 0).symm.trans v0;simp at e;rw[e.1,e.2]at this;exact this)
 have au:=fr.keep E;have c9:=OwI.insA h0 y.out;have cc:=j4.keep E;have ba:=OwG.keep e7 E;have P:=An b5 E;have fs:=jr.keep E
 have ee:=Ar (λ(W:World) (h1:ShS W AS nq S) (h2:InS W (some ⟨BO,0,none⟩) nq O)=>show Calls prog 32 #[.agg #[bl,bw,rx,ry],.slice AS nq cS,.slice (some ⟨BO,0,none⟩) nq nq] W (Aeh W (er,t)) from by
  rw[<-ec.out];exact Ae8 AS (some ⟨BO,0,none⟩) cS nq nq nq ⟨bl,bw,rx,ry⟩ S O W aK h1 h2)
 obtain⟨b0,b1,b2,b3,-⟩:=ca.cells4;have h6:Cq w2 B8 0 (.slice AS nq cS):=(j7.cell 0).trans rfl;clear ck hb hV fr j0 j4 e7 b5 jr v0 Q;by_cases cf:er=0
 .subst cf;obtain⟨-,-,G,e4⟩:=ai.out rfl;have gx:=bs.out rfl;let⟨xx,h4⟩:=gN ((Vn S t).2)
  have HX:=Ar (show Vn S t=(0,xx) from Prod.ext gx h4)
  have ha:=Ar (show Hg s ⟨bl,bw,rx,ry⟩ Z=(0,⟨xx,bw,rx,ry,Z,Hv C t nq⟩) by
   rw[R.out,if_neg (show ¬((0:Int)≠0) by simp),if_neg (by rw[gx];simp),h4]
   try dsimp only
   rw[show t.length=nq by rw[G];exact y.out])
  have bc:t.length=nq:=by rw[G];exact y.out
  have hh:=Ar bc
  have hj:=Ar (λk (Q:k<nq)=>show ∃q:Nat,(pt t k).sh=q/\q<nq from by
   have h1:=(e4 k (by rw[y.out];exact Q)).2;have h2:=bt.out _ (rp (show k<O.length by rw[y.out];exact Q));exact⟨(gi O k).toNat,aK,aK⟩)
  clear G e4 gx h4 ai bs R
  go_upto_region 14 with (go_at_call 32;refine aF (ee.out _ au c9) λw3 v3 b9 f=>?_;dsimp only at b9 ⊢;have o5:=Aq f h6)
  have bb:=OwG.keep ba f;have fv:=OwG.apart b9 bb aM;obtain⟨Au,cu,rfl,cb⟩:=OwP.pus b9;rw[bc]at cb fv ⊢;have j5:=au.keep f;have iy:=ca.keep f;have d:=cc.keep f;have dx:=An P f;have j9:=fs.keep f;clear bc b9 ba au ca cc P fs f b0 b1 b2 b3 h6 c9 h0 j7 E
  go_upto_region 18 with (go_at_call 33;refine rR (gj AS Au cS cu nq nq S t aK j5 cb) λw4 I=>?_;rw[HX.out])
  have F:=OwG.keep bb I;have ew:=iy.keep I;have fa:=d.keep I;have b4:=An dx I;have n0:=j9.keep I;have ds:=cb.keep I;have e5:=OwG.neB F ew aM;have e6:=OwG.neB F fa aM;have kp:=λk Q=>(OwG.lt F k Q).1
  clear bb j5 iy d dx j9 cb I o5;go_loopw [16,68] (λ_ i wx=>∃k:Nat,k<=nq/\i=k/\Tb wx X (.slice AP nq cP) (Hv C t k)/\w4.grownBy wx (Value.slice AP nq cP).ownBlock) λ_ i _=>nq-(intOf i).toNat
  case atStart=>exact⟨0,aB,rfl,F,dA _ _⟩
  clear F;obtain⟨k,Q,rfl,a,hg⟩:=hrel;have T:=Ar (show (Hv C t k).length=nq by rw[(Q9 k).1];exact hd.out);by_cases kl:k<nq
  .rcases OwG.form a with⟨e,-⟩|⟨gP,mf,e,g1,g2,g3,g4⟩
   .injection e with _ e2 _;omega
   injection e with e1 e2 e3
   subst e1 e3;let⟨q,hy,kh⟩:=hj.out k kl;obtain⟨bu,ou,rfl,-,x1,x2,x3,x4,x5⟩:=ds.at_ kl
   have a8:some bu≠(Value.slice (some ⟨gP,0,none⟩) nq cP).ownBlock:=by
    rcases fv with h|h
    .simp[Value.ownBlock]at h
    simpa[Value.ownBlock] using h
   have y1:=H8 hg x1 a8;have y2:=H8 hg x2 a8;have y3:=H8 hg x3 a8;have y4:=H8 hg x4 a8;have y5:=H8 hg x5 a8;have ad:=Ar (show Hv C t (k+1)=(Hv C t k).set (pt t k).sh.toNat (Alm (plc (Hv C t k) (pt t k).sh.toNat) (pt t k)) from rfl);rw[hy]at y1 ad;rw[cT]at ad;let⟨L,hL⟩:=gN (Hv C t k)
   rw[hL]at a ad T;let⟨⟨vc,vb,nh,px,py⟩,hp⟩:∃p,pt t k=p:=⟨_,rfl⟩
   rw[hp]at y2 y3 y4 y5 ad;dsimp only at y2 y3 y4 y5;have B1:(k:Int)<(nq:Int):=aK
   have B2:(q:Int)<(nq:Int):=aK
   clear x1 x2 x3 x4 x5 hL hp hy e2 g3 g4;go_upto_region 20 with fail;refine Bq λV k6 hT=>?_
   have h3:=OwG.keep a k6;let⟨l0,l1,l2,l3,l4,l5,l6⟩:=Tb.cells h3 T.out kh
   have cg:∀j,V.frozen? ⟨gP,j,none⟩=false:=by
    have h2:=h3;rw[<-T.out]at h2;exact λj=>OwG.frozen h2 j
   have f4:=cg (q*7+4);have f5:=cg (q*7+5);have f6:=cg (q*7+6);let⟨t0,t1,t2,t3,t4⟩:=sh5 hT;have n2:=Gb.below hg k6;have ow:wr.heap.size≠gP:=aK
   have nc:gP≠wr.heap.size:=aK
   clear y1 y2 y3 y4 y5 a cg;go_wp2_with fail;exact aE ⟨by rw[ad.out];exact Tb.store3 h3 T.out kh nh px py,Gb.set (Gb.set (Gb.set n2 _ _) _ _) _ _⟩
  obtain rfl:nq=k:=aK
  have ey:=ew.grown hg e5;have fb:=fa.grown hg e6;have b6:=dS b4 hg b4.size kp;have aw:=An U b6;have k1:=hZ.keep aw;obtain⟨-,b1,b2,b3,-⟩:=ey.cells4;have k5:=Aw (aV wr wr);clear ew fa b4 n0 ds hg e5 e6;go_upto_region 23 with fail;go_cut [17] λh5 wx=>∃bm H u,h5=.pointer (some ⟨bm,0,none⟩)/\Bf wx bm 34 #[xx,bw,rx,ry,.slice H n u,.slice AP nq cP]/\OwI wx wr (.slice H n u) Z/\n<=u/\Be wr wx
  case first =>
   have lr:=Ar (λ(W:World) (hW:Be wr W)=>show Calls prog 34 #[.slice A n c] W (λe M=>∃H u,e=.returned (.slice H n u)/\n<=u/\OwI M wr (.slice H n u) Z/\Be wr M/\(∀g cs,Bf W g 34 cs->Bf M g 34 cs)/\True) from
    (gq A c n Z W aK (k1.keep hW) kq).mono λe M h=>by
     obtain⟨v5,rfl,K,k4⟩:=h;obtain⟨H,u,rfl,J,nf,-⟩:=OwI.ins K;have hl:=nf.1;have n9:Z.length=n:=k1.1;rw[n9]at J K ⊢;exact⟨H,u,rfl,J,K.lower hW.size,An hW k4,λg cs h=>h.keep k4,trivial⟩)
   have KF:∀M,Be wr M->(Cq M (w+1) 1 bw/\Cq M (w+1) 2 rx/\Cq M (w+1) 3 ry):=λM hb=>by
    obtain⟨-,j1,j2,j3,-⟩:=(ey.keep hb).cells4;exact⟨j1,j2,j3⟩
   clear fb b6 aw kp fv HE ha bx bt y ec hc ho hd lx eg e9 hf db ee HX hh hj hv kz T a lS mS lP mP v1 v2 v4 v5 v7 v8 nx ny o0 o1 o3 h5 ak mx gy Q;have s6:=λo=>(KF _ (Ao (aV wr wr) (o:=o))).1
   have s7:=λo=>(KF _ (Ao (aV wr wr) (o:=o))).2.1
   have sa:=λo=>(KF _ (Ao (aV wr wr) (o:=o))).2.2
   go_region_law ((go_simp;go_at_call 34;refine(lr.out _ (by first|(with_reducible exact k5)|(with_reducible exact Aw blA))).mono ?_;rintro e w5 ⟨H,u,rfl,J,K,l,n5,-⟩;let⟨b1,b2,b3⟩:=KF _ l;have sb:=λo=>(KF _ (Ao l (o:=o))).1;have sd:=λo=>(KF _ (Ao l (o:=o))).2.1;have sn:=λo=>(KF _ (Ao l (o:=o))).2.2;try (have kB:Bf w5 wr 34 #[.int .i64 0,.int .i64 0,.int .i64 0,.int .i64 0,.slice none 0 0,.slice none 0 0]:=n5 _ _ (by exact Bf.new wr _ _);let⟨m0,m1,m2,m3,m4,m5⟩:=mk6 kB;have f0:=kB.frozen 0;have f1:=kB.frozen 1;have f2:=kB.frozen 2;have f3:=kB.frozen 3;have f4:=kB.frozen 4;have f5:=kB.frozen 5)))
   all_goals go_wp2
   all_goals go_meet
   all_goals first
    | (with_reducible refine⟨w5,H,u,?_,?_,?_,J,Ao l⟩
       .rfl
       .exact Bf.new _ _ _
       exact OwG.alloc K _)
    | (with_reducible refine⟨wr,H,u,?_,?_,?_,J,Ali l (hg:=aA)⟩
       .rfl
       .exact(((((kB.set_ 0 _).set_ 1 _).set_ 2 _).set_ 3 _).set_ 4 _).set_ 5 _
       have a7:=Ne.symm (OwG.neB K kB aM);exact(((((OwG.far K (p:=⟨wr,0,none⟩) a7 _).far (p:=⟨wr,1,none⟩) a7 _).far (p:=⟨wr,2,none⟩) a7 _).far (p:=⟨wr,3,none⟩) a7 _).far (p:=⟨wr,4,none⟩) a7 _).far (p:=⟨wr,5,none⟩) a7 _)
  obtain⟨bm,H,u,rfl,hM,kr,J,l⟩:=hcut;have D:=fb.keep l;let⟨m0,m1,m2,m3,m4,m5⟩:=mk6 hM;let⟨q0,q1,q2,q3,q4,q5⟩:=mk6 D;have g0:=D.frozen 0;have g1:=D.frozen 1;have g2:=D.frozen 2;have g3:=D.frozen 3;have g4:=D.frozen 4;have g5:=D.frozen 5;have gf:=An aw l;have e8:=OwG.keep a l;have r4:X.heap.size<=wr.heap.size:=b6.size
  have k2:AP=none->cP=0:=λh=>by
   rcases OwG.form e8 with⟨e,-⟩|⟨g,mf,e,-⟩
   .injection e
   injection e with e1;rw[h]at e1;cases e1
  have k9:u<=9223372036854775807:=by
   obtain⟨A',c',e,-,h2,-⟩:=OwG.form2 kr;injection e with _ _ e3
   rw[e3];unfold maxLen at h2;exact h2
  clear ey fb b1 b2 b3 k5;go_wp2_with fail;let⟨s0,s1,s2,s3,s4,s5⟩:=mk6 ((((((D.set_ 0 xx).set_ 1 bw).set_ 2 rx).set_ 3 ry).set_ 4 (.slice H n u)).set_ 5 (.slice AP nq cP));refine cB (v:=.tuple #[.agg #[xx,bw,rx,ry,.slice H n u,.slice AP nq cP],.int .i64 0]) (by simp[results,results15,go_sem,s0,s1,s2,s3,s4,s5]) rfl ?_;rw[ha.out];have cn:Z.length=n:=hZ.1;have G:(Hv C t nq).length=nq:=T.out
  have n3:∀k,X.heap.size<=k->((((((wc.setCell ⟨w+1+1,0,none⟩ xx).setCell ⟨w+1+1,1,none⟩ bw).setCell ⟨w+1+1,2,none⟩ rx).setCell ⟨w+1+1,3,none⟩ ry).setCell ⟨w+1+1,4,none⟩ (.slice H n u)).setCell ⟨w+1+1,5,none⟩ (.slice AP nq cP)).heap[k]? = wc.heap[k]? := λk Q=>by
   have a6:k≠w.heap.size+1+1:=aK
   exact(Dv a6).trans ((Dv a6).trans ((Dv a6).trans ((Dv a6).trans ((Dv a6).trans (Dv a6)))))
  have r5:=U.size;refine⟨_,rfl,λM mz=>?_,Ali gf⟩;have kk:∀k,X.heap.size<=k->k<wc.heap.size->M.heap[k]? = wc.heap[k]? := λk Q b8=>(mz k aK (by simpa[World.setCell] using b8)).trans (n3 k Q)
  refine⟨H,u,AP,cP,?_,⟨?_,k9,?_⟩,?_,mP,k2,?_⟩
  .dsimp only;rw[cn,G]
  .dsimp only;rw[cn];exact J
  .dsimp only;rw[cn];exact OwI.insA (kr.keepAbove λk Q b8=>kk k aK b8) cn
  .dsimp only;rw[G];exact lP
  dsimp only;rw[G];exact Tb.plsA (e8.keepAbove λk Q b8=>kk k Q b8) G
 have a8:(er != 0)=true:=by simpa using cf
 have lo:=Ar (show Hg s ⟨bl,bw,rx,ry⟩ Z=(er,Qa) by rw[R.out,if_pos cf]);clear cf R
 go_upto_region 13 with (go_at_call 32;refine aF (ee.out _ au c9) λw3 v3 b9 f=>?_)
 have d:=cc.keep f;let⟨q0,q1,q2,q3,q4,q5⟩:=mk6 d;have g0:=d.frozen 0;have g1:=d.frozen 1;have g2:=d.frozen 2;have g3:=d.frozen 3;have g4:=d.frozen 4;have g5:=d.frozen 5;have gf:=An U (An P f);clear ca au c9 cc ba P fs b0 b1 b2 b3 h6;go_wp2_with fail;let⟨s0,s1,s2,s3,s4,s5⟩:=mk6 ((((((d.set_ 0 (.int .i64 0)).set_ 1 (.int .i64 0)).set_ 2 (.int .i64 0)).set_ 3 (.int .i64 0)).set_ 4 (.slice none 0 0)).set_ 5 (.slice none 0 0));refine cB (v:=.tuple #[.agg Aem,er]) (by simp[results,results15,go_sem,s0,s1,s2,s3,s4,s5,Aem]) rfl ?_;rw[lo.out];exact⟨Aem,rfl,λM _=>Acr M,Ali gf⟩
theorem Pu(s:StyleP)(a:Bed4)(A:Option Addr)(n c:Nat)(Z:List Int)(e:A=none->c=0)(i:InS w A n Z)(f:SmS s)(k:StV w b s)(g:(Bc s Z).1=0->(Bc s Z).2.1.length<20)(j:n<=c:=by exact aA)(d:c<=9223372036854775807:=by omega):Calls prog 15 #[.agg b,Jw a,.slice A n c] w (Ahe w (Hg s a Z)):=by
 by_cases h:(Bc s Z).1=0
 .exact Aqi b s a A n c Z w j d e i f k h (g h)
 rw[show Hg s a Z=((Bc s Z).1,Qa) by unfold Hg;rw[if_pos h]];exact Aqj b s a A n c Z w j d i f k h
def Acp(w:World)(r:Int×List Shp×List Pt5)(e:Ending)(a:World):Prop:=∃b c,e=.returned (.tuple #[b,c,r.1])/\Vj a w b r.2.1/\OwG 72 5 enP a w c r.2.2/\Be w a
theorem Acp.none_(b:Be w a):Acp w (x,[],[]) (.returned (.tuple #[.slice none 0 0,.slice none 0 0,x])) a:=⟨_,_,rfl,Vj.nil,OwG.nil,b⟩
theorem Aeb(U:List UseP):∀i,∀c∈Fi U i,0<=c.cp/\∃k,k<i/\c.cp<max (use U k).ct 0+1
 | 0=>by simp[Fi]
 | i+1=>by
   rw[Fi];intro c a;rcases bD.1 a with a|a
   .obtain⟨b,k,f,d⟩:=Aeb U i c a;exact⟨b,k,by omega,d⟩
   obtain⟨k,e,rfl⟩:=List.mem_map.1 a;have:=List.mem_range.1 e;unfold Qh;dsimp only;exact⟨by omega,i,by omega,by omega⟩
theorem Ad7{C:List PlcP}(h:∀c∈C,inR c.us/\inR c.cp):∀j,j<=1000->∀c∈Sn C j,okC (kt c)
 | 0,_=>by simp[Sn]
 | j+1,hj=>by
   rw[Sn];intro c a;rcases bD.1 a with a|a
   .exact Ad7 h j (by omega) c a
   obtain⟨d,b,rfl⟩:=List.mem_map.1 a;have:=h d b;exact⟨by unfold kt Ts inR;dsimp only;omega,this.1,this.2⟩
theorem ud(d:Bc f h=(0,j,c)):∀a∈c,okC (kt a):=by
 have i:(Bc f h).1=0:=by rw[d]
 obtain⟨e,g,-,q,-⟩:=Kz i;rw[d]at e;injection e with _ e
 injection e with _ e2
 rw[e2];obtain⟨-,r,-,m⟩:=Kw g;refine Ad7 (λa b=>?_) _ aK;unfold Kq at b;rw[if_neg (by rw[g];simp)] at b;have n:=(Rg f.us f.us.length).2 a b;let⟨o,k,l,p⟩:=Aeb f.us f.us.length a b;have:=(m k l).2.2.2;unfold inR;omega
theorem Acd{P:List PlcP}(h:Hh c P e=(x,[],[]))(a:x≠0):∀m,Hh c P (e+m)=(x,[],[]):=by
 intro m;induction m with
 | zero=>exact h
 | succ m ih=>rw[<-cQ,Hh,if_pos (by rw[ih];exact a)];exact ih
theorem Adi(b:Be a w)(c:w.grownBy l (some e))(h:a.heap.size<=e):Be a l:=dS b c b.size λk d=>by cases d;exact h
theorem Aql(k:Array Value)(s:StyleP)(j:Array Value)(m:MkP)(w:World)(f:SmS s)(i:StV w k s)(y:MkV w j m)(h:(Bc s m.sz).1≠0):Calls prog 16 #[.agg k,.agg j] w (Acp w ((Bc s m.sz).1,[],[])):=by
 let⟨r,d⟩:=gN (Bc s m.sz)
 rw[d]at h ⊢;have l:=Ar d;obtain⟨x,S,C⟩:=r;dsimp only at h ⊢;have z:(x != 0)=true:=by simpa using h
 clear d h;obtain⟨B,J,D,K,E,L,F,M,G,N,H,O,rfl,-⟩:=id i;obtain⟨n,o,I,P,rfl,⟨p,q,v⟩,Q,R,T,U⟩:=y;go_enter func16,ntmps16;go_upto_region 1 with fail;refine Eo λX a u t=>?_
 let⟨p0,p1,p2,p3,p4,p5,p6⟩:=st7 u;let⟨V,W,Y,Z,k4,k5⟩:=mk6 t;have g:=i.keep a
 go_wp2_with (go_at_call 14;refine(Gr s n _ o m.sz p q (v.keep a) f g).mono ?_;rintro e w1 ⟨u1,u2,rfl,c,A,b⟩;rw[l.out]at c ⊢;dsimp only)
 go_ret3
 exact Acp.none_ (An a b)
theorem Aqk(vs:Array Value)(s:StyleP)(ms:Array Value)(m:MkP)(w:World)(o5:SmS s)(hv:StV w vs s)(hm:MkV w ms m)(h:(Bc s m.sz).1=0)(nv:∀p∈m.pl,okC (kt p))(o4:m.pl.length<=1000):Calls prog 16 #[.agg vs,.agg ms] w (Acp w (J6 s m)):=by
 let⟨r,hr⟩:=gN (Bc s m.sz)
 obtain⟨x,S,C⟩:=r;rw[hr]at h;dsimp only at h;subst h;let⟨im,nf⟩:=X5 hr;have mz:=Ar (ud hr);have HE:=Ar hr;have dx:=Ar (show J6 s m=Akz C S m (Hh C m.pl m.pl.length) by unfold J6;rw[hr,if_neg aL]);have n0:=Ar (show S.length<=1000000 by omega);have my:=Ar im;clear hr im;obtain⟨A1,c1,A2,c2,A3,c3,A4,c4,A5,c5,A6,c6,rfl,-⟩:=id hv;obtain⟨M1,d1,M2,d2,rfl,⟨h1,h2,hZ⟩,h3,h4,h5,hQ⟩:=hm;go_enter func16,ntmps16;go_upto_region 1 with fail;refine Eo λX b5 hP hK=>?_
 let⟨p0,p1,p2,p3,p4,p5,p6⟩:=st7 hP;let⟨k0,k1,k2,k3,k4,k5⟩:=mk6 hK;have k6:=hv.keep b5;have ny:=@run_makeMap prog
 go_upto_region 4 with (go_at_call 14;refine(Gr s M1 _ d1 m.sz h1 h2 (hZ.keep b5) o5 k6).mono ?_;rintro e w1 ⟨u1,u2,rfl,R,bb,j1⟩;rw[HE.out]at R bb ⊢;dsimp only at R bb ⊢;obtain⟨AS,cS,rfl,lS,mS,e9⟩:=R.shs n0.out;obtain⟨AP,cP,rfl,lP,mP,bu⟩:=Tb.pls bb)
 let⟨nq,fr⟩:=gN S.length
 have ek:C.length=nq:=by rw[<-my.out,fr]
 rw[fr]at e9 nf lS R ⊢;rw[ek]at bb lP bu ⊢;have N:=Ar ek;let⟨d,j9⟩:=gN m.pl.length
 rw[j9]at dx hK h3 hQ o4 ⊢;have hg:=hK.keep j1;have b4:=An b5 j1;have ho:=hQ.keep b4;have ni:=b5.size;clear hP hK k6 p0 p1 p2 p3 p4 p5 p6 k0 k1 k2 k3 k4 k5 ek fr j9 b5;have e5:=Nh.made w1 C;let⟨BM,bs⟩:=gN w1.heap.size
 have j3:=Ao (aV w1 w1) (o:=.map #[] 0);rw[bs]at e5;have hc:w1.heap.size<=BM:=Nat.le_of_eq bs;go_upto_region 6 with fail;clear ny;have ps:=Ar bs;clear bs;go_loopw [11,12,37] (λ_ _ i wx=>∃k:Nat,k<=nq/\i=k/\Nh wx BM k C k/\Be w1 wx) λ_ _ i _=>nq-(intOf i).toNat
 case atStart=>exact⟨0,aB,rfl,e5,j3⟩
 clear e5 j3;obtain⟨k,hk,rfl,hI,l⟩:=hrel;by_cases j:k<nq
 .obtain⟨b1,o1,rfl,H⟩:=(bu.keep l).at_ j;let⟨l0,l1,l2,l3,l4,l5,l6⟩:=H k j;have c9:=mz.out _ (mw (show k<C.length by rw[N.out];exact j));have bq:=Ar (Yx (plc C k));have B1:(k:Int)<(nq:Int):=aK
  clear H;go_upto_region 8 with fail;refine Bq λY b hT=>?_
  let⟨t0,t1,t2,t3,t4,t5,t6⟩:=st7 hT;have a6:=hI.keep b;have y:=An l b;have ns:k<maxLen:=aS
  clear l0 l1 l2 l3 l4 l5 l6 hI l b
  go_wp2_with (first
   | (at_mapUpdate;refine Rq rfl rfl rfl (a6.keep a) ns c9 aK rfl rfl ?_;intro w6 o0 nj)
   | (go_at_call 35;refine rR (bq.out _) λw5 a=>?_))
  exact aE ⟨o0,Adi (An y a) nj hc⟩
 obtain rfl:nq=k:=aK
 have bt:=hg.keep l;have F:=ho.keep l;have ec:=e9.keep l;have e8:=bu.keep l;have bc:=R.keep l;have b6:=An b4 l;let⟨ZZ,nx,iy⟩:=et nq aK;let⟨k0,k1,k2,k3,k4,k5⟩:=mk6 bt;let⟨K,k9⟩:∃K:World,K=wr:=⟨_,rfl⟩
 rw[<-k9]at bt F ec e8 bc b6 k0 k1 k2 k3 k4 k5 hI ⊢;clear k9 l hg ho e9 bu R b4 bb;have ee:=iy K;have au:=Ao (aV K K) (o:=.cells ZZ 4);have fs:=Aq au k5;let⟨BB,e4⟩:=gN K.heap.size
 rw[e4]at ee;go_upto_region 13 with fail;have mx:=Ar e4;clear nx e4 k0 k1 k2 k3 k4 k5 fs iy
 have cd:∀k,k<=d->(Hh C m.pl k).1=0->(Hh C m.pl k).2.1.length=nq/\(Hh C m.pl k).2.2.length=k:=λk hk h0=>by
  have nr:k<=m.pl.length:=by rw[F.1];exact hk
  obtain⟨-,-,h3,h4,-⟩:=S5 k nr h0;refine⟨by rw[h4];exact N.out,?_⟩;rw[h3,List.length_map,bC];omega
 have cb:=Ar cd
 have ds:=Ar (λ(k:Nat) (x:Int) (hk:k<d) (h:Hh C m.pl (k+1)=(x,[],[])) (hx:x≠0)=>show J6 s m=(x,[],[]) by
  have:=Acd h hx (d-(k+1));rw[show k+1+(d-(k+1))=d by omega]at this;rw[dx.out,this];unfold Akz;rw[if_pos hx])
 clear cd;go_loopw [14,16,17,18,53] (λv _ _ _ i wx=>∃k:Nat,k<=d/\i=.int .i64 k/\Hid ((Hh C m.pl k).1=0)/\wj wx K (.slice (some ⟨BB,0,none⟩) nq nq) (Hh C m.pl k).2.1/\OwG 72 5 enP wx K v (Hh C m.pl k).2.2/\Be K wx) λ_ _ _ _ i _=>d-(intOf i).toNat
 case atStart=>exact⟨0,aB,rfl,Ar rfl,by show wj _ _ _ (List.replicate C.length false);rw[N.out,mx.out];exact ee,OwG.nil,au⟩
 clear ee au;obtain⟨k,hk,rfl,bl,Q,G,l⟩:=hrel;by_cases j:k<d
 .obtain⟨b1,o1,rfl,H⟩:=(F.keep l).at_ j;let⟨l0,l1,l2,l3,l4,l5,l6⟩:=H k j;have c9:=nv _ (mw (show k<m.pl.length by rw[F.1];exact j));have bq:=Ar (Yx (plc m.pl k));let⟨I,P⟩:=cb.out k hk bl.out
  have O:=Ar (show Hh C m.pl (k+1)=if kI3 C (kt (plc m.pl k)) nq<0 then (3,[],[]) else if gbo (Hh C m.pl k).2.1 (kI3 C (kt (plc m.pl k)) nq).toNat then (7,[],[]) else (0,(Hh C m.pl k).2.1.set (kI3 C (kt (plc m.pl k)) nq).toNat true,(Hh C m.pl k).2.2++[⟨kI3 C (kt (plc m.pl k)) nq,false,(plc m.pl k).qu,(plc m.pl k).x,(plc m.pl k).y⟩]) by
   rw[Hh,if_neg (by rw[bl.out];simp),N.out,Adz])
  have nk:=Ady C (kt (plc m.pl k)) nq;let⟨TB,ai⟩:=gN ((Hh C m.pl k).2.1)
  let⟨t,ak⟩:=gN ((Hh C m.pl k).2.2)
  rw[ai]at Q I O;rw[ak]at G P O;let⟨ix,ew⟩:=gN (kI3 C (kt (plc m.pl k)) nq)
  rw[ew]at O nk;have h6:=Ar ew;have dy:=Ar I;have h7:=Ar P;have B1:(k:Int)<(d:Int):=aK
  clear H ai ak ew;go_upto_region 15 with fail;refine Bq λY b hT=>?_
  let⟨t0,t1,t2,t3,t4,t5,t6⟩:=st7 hT;have cm:=OwG.keep Q b;have cw:=OwG.keep G b;have y:=An l b;have a6:=hI.keep y;let⟨BT,hd⟩:=gN wr.heap.size
  rw[hd]at hT t0 t1 t2 t3 t4 t5 t6 ⊢;clear l0 l1 l2 l3 l4 l5 l6 Q G l b hd I P;by_cases j8:ix<0
  .have HR:=Ar (ds.out k 3 j (by rw[O.out,if_pos j8]) aM);have b9:decide (0<=ix)=false:=aO
   go_wp2_with (first
    | (at_lookup;refine Ks rfl rfl rfl (a6.keep a) (kt (plc m.pl k)) c9 rfl ?_;intro z hz;rw[h6.out,b9];clear hz)
    | (go_at_call 35;refine rR (bq.out _) λw5 a=>?_))
   go_ret3
   rw[HR.out];exact Acp.none_ (An b6 (An y a))
  obtain⟨q,rfl⟩:∃q:Nat,ix=q:=⟨ix.toNat,aK⟩
  have b9:decide (0<=(q:Int))=true:=aL
  have hq:q<nq:=aK
  have B2:(q:Int)<(nq:Int):=aK
  have L:=Ar (show Hh C m.pl (k+1)=if gbo TB q then (7,[],[]) else (0,TB.set q true,t++[⟨(q:Int),false,(plc m.pl k).qu,(plc m.pl k).x,(plc m.pl k).y⟩]) by
   rw[O.out,if_neg j8,cT])
  go_upto_region 16 with (first
   | (at_lookup;refine Ks rfl rfl rfl (a6.keep a) (kt (plc m.pl k)) c9 rfl ?_;intro z hz;rw[h6.out]at hz ⊢;rw[b9];obtain rfl:=hz aK;clear hz)
   | (go_at_call 35;refine rR (bq.out _) λw5 a=>?_))
  have bx:=hT.keep a;let⟨z0,z1,z2,z3,z4,z5,z6⟩:=st7 bx;have D:=OwG.keep cm a;have E:=OwG.keep cw a;let⟨x0,f0⟩:=wj.cellsB D dy.out hq;have j0:=OwG.apart D E aM;have ck:=OwG.neB D bx aM;have cj:BB≠BT:=λh=>ck (by rw[h];rfl)
  have ba:BT≠BB:=λh=>cj h.symm
  have aw:=An y a;have j2:K.heap.size<=BB:=(OwG.lt D BB rfl).1
  have cg:(u14:Value).ownBlock≠some BB:=by
   rcases j0 with h|h
   .simp[Value.ownBlock]at h
   exact λh2=>h (by rw[h2];rfl)
  clear t0 t1 t2 t3 t4 t5 t6 cm cw hT a6 y ck O j0;let⟨gx,j6⟩:=gN (gbo TB q)
  rw[j6]at x0 L;clear j6;cases gx with
  | true =>
    have HR:=Ar (ds.out k 7 j (by rw[L.out,if_pos rfl]) aM)
    go_wp2
    go_ret3
    rw[HR.out];exact Acp.none_ (An b6 aw)
  | false =>
    have e2:=Ar (show Hh C m.pl (k+1)=(0,TB.set q true,t++[⟨(q:Int),false,(plc m.pl k).qu,(plc m.pl k).x,(plc m.pl k).y⟩]) by rw[L.out,if_neg aL]);have J:=wj.storeB D dy.out q true;have n:=OwG.far E (p:=⟨BB,q,none⟩) cg (.bool true);have ad:=Bf.far bx (p:=⟨BB,q,none⟩) ba (.bool true);have u:Be K (w5.setCell ⟨BB,q,none⟩ (.bool true)):=Adi aw (Gb.set (dA _ _) _ _) j2;clear D E bx cg L ds z0 z1 z2 z3 z4 z5 z6;go_upto_region 21 with fail;refine Cj (λY=>wj Y K (.slice (some ⟨BB,0,none⟩) nq nq) (TB.set q true)/\OwG 72 5 enP Y K u14 t/\Bf Y BT 67 #[(plc m.pl k).ga,(plc m.pl k).us,(plc m.pl k).cp,.bool (plc m.pl k).fl,(plc m.pl k).qu,(plc m.pl k).x,(plc m.pl k).y]/\Be K Y) ⟨J,n,ad,u⟩ ?_;clear J n ad u aw a cj ba f0 x0;rintro Z ⟨J,n,ad,u⟩;let⟨z0,z1,z2,z3,z4,z5,z6⟩:=st7 ad;clear ad
    go_wp2_with (at_builtin;refine Co 68 rfl enP K 72 (.agg #[.int .i64 0,.bool false,.int .i64 0,.int .i64 0,.int .i64 0]) 5 40 underlying68 Aj4 Kl tg t (OwG.alloc n _) Z 1 ⟨(q:Int),false,(plc m.pl k).qu,(plc m.pl k).x,(plc m.pl k).y⟩ 72 (Bf.new _ _ _) (hlen:=by rw[h7.out];unfold maxLen;omega) (hbytes:=by rw[h7.out];omega) (Ao u).size ?_;intro v' w7 nz j5 ob)
    exact aE ⟨Ar (by rw[e2.out]),by rw[e2.out];exact OwG.kept (OwG.alloc J _) j5 (OwG.apart J n aM),by rw[e2.out];exact nz,Bk (Ao u) (OwG.alloc n _) j5⟩
 obtain rfl:d=k:=aK
 let⟨I,P⟩:=cb.out d aA bl.out
 have bd:∀i,i<d->∃q:Nat,q<nq/\(pt (Hh C m.pl d).2.2 i).sh=(q:Int):=λi hi=>by
  have qo:i<m.pl.length:=by rw[F.1];exact hi
  obtain⟨g1,-,g3,-⟩:=S5 d (by rw[F.1];exact aA) bl.out;have j7:i<(m.pl.take d).length:=by rw[bC];omega
  have g4:pt (Hh C m.pl d).2.2 i=Al9 C (m.pl.take d)[i]:=by
   unfold pt;rw[g3,List.getD,dC,aW j7];rfl
  have g5:=g1 _ (cY j7);have g6:=Wk C (m.pl.take d)[i] C.length;rw[g4];unfold Al9 kI at *
  rw[N.out]at *
  dsimp only;exact⟨(Sf C (m.pl.take d)[i] nq).toNat,aK,aK⟩
 have M:=Ar (show J6 s m=if Bp (λi=>!gbo (Hh C m.pl d).2.1 i) nq then (20,[],[]) else if Bp (λi=>(plc m.pl i).fl != (plc C (pt (Hh C m.pl d).2.2 i).sh.toNat).fl) d then (12,[],[]) else if Zt (uz m) S (Hh C m.pl d).2.2≠0 then (Zt (uz m) S (Hh C m.pl d).2.2,[],[]) else (0,S,(Hh C m.pl d).2.2) by
  rw[dx.out];unfold Akz;rw[if_neg (by rw[bl.out];simp),N.out,F.1])
 let⟨TB,ai⟩:=gN ((Hh C m.pl d).2.1)
 let⟨t,ak⟩:=gN ((Hh C m.pl d).2.2)
 rw[ai]at Q I M;rw[ak]at G P M bd;have h9:=Ar bd;have dy:=Ar I;have bp:=Ar (Sv BB nq nq TB wr K aK I Q);have e6:=bt.keep l;have hs:=F.keep l;have hy:=ec.keep l;have hj:=e8.keep l;have cn:=bc.keep l;have b7:=An b6 l
 obtain⟨AU,cU,rfl,lU,mU,e7⟩:∃AU cU,u14=.slice AU t.length cU/\t.length<=cU/\cU<=9223372036854775807/\PuS wr AU t.length t:=by
  obtain⟨A,c,e,h1,h2,-⟩:=OwG.form2 G;let⟨A',c',e',h'⟩:=OwP.pus G;have e0:=e.symm.trans e';injection e0 with e1 _ e3
  subst e1 e3;exact⟨A,c,e,h1,by unfold maxLen at h2;exact h2,h'⟩
 rw[P]at lU e7 G ⊢;clear bd I ai ak hI bt F ec e8 bc l j hk;let⟨n3,cc⟩:=gN (Bp (λi=>!gbo TB i) nq)
 rw[cc]at bp M;clear cc;cases n3 with
 | true =>
   have HR:=Ar (show J6 s m=(20,[],[]) by rw[M.out,if_pos rfl])
   go_wp2_with (go_at_call 36;refine bp.out.mono ?_;rintro e w5 ⟨rfl,a⟩)
   go_ret3
   rw[HR.out];exact Acp.none_ (An b7 a)
 | false =>
   have U:=Ar (show J6 s m=if Bp (λi=>(plc m.pl i).fl != (plc C (pt t i).sh.toNat).fl) d then (12,[],[]) else if Zt (uz m) S t≠0 then (Zt (uz m) S t,[],[]) else (0,S,t) by rw[M.out,if_neg aL]);clear M;let⟨k0,k1,k2,k3,k4,k5⟩:=mk6 e6
   go_upto_region 26 with (go_at_call 36;refine bp.out.mono ?_;rintro e w5 ⟨rfl,a⟩;have fs:=Aq a k5)
   clear k0 k1 k2 k3 k4 k5 fs;have hh:=e6.keep a;have ht:=hs.keep a;have ih:=hy.keep a;have hl:=hj.keep a;have cu:=cn.keep a;have E:=OwG.keep G a;have a7:=e7.keep a;have b8:=An b7 a;clear e6 hs hy hj cn G e7 b7 a bp Q;go_loopw [19,20,90] (λ_ _ i wx=>∃k:Nat,k<=d/\i=.int .i64 k/\Hid (Bp (λi=>(plc m.pl i).fl != (plc C (pt t i).sh.toNat).fl) k=false)/\Be w5 wx) λ_ _ i _=>d-(intOf i).toNat
   case atStart=>exact⟨0,aB,rfl,Bp.zero _,bl0⟩
   obtain⟨k,hk,rfl,hp,l⟩:=hrel;by_cases j:k<d
   .obtain⟨b1,o1,rfl,H⟩:=(ht.keep l).at_ j;let⟨l0,l1,l2,l3,l4,l5,l6⟩:=H k j;let⟨q,hq,ca⟩:=h9.out k j;have B1:(k:Int)<(d:Int):=aK
    have B2:(q:Int)<(nq:Int):=aK
    have HY:=Ar (λ(h:((plc m.pl k).fl != (plc C q).fl)=false)=>Bp.succ (f:=λi=>(plc m.pl i).fl != (plc C (pt t i).sh.toNat).fl) hp.out (show ((plc m.pl k).fl != (plc C (pt t k).sh.toNat).fl)=false by rw[ca,cT];exact h));have HN:=Ar (λ(h:((plc m.pl k).fl != (plc C q).fl)=true)=>Bp.yes (f:=λi=>(plc m.pl i).fl != (plc C (pt t i).sh.toNat).fl) j (show ((plc m.pl k).fl != (plc C (pt t k).sh.toNat).fl)=true by rw[ca,cT];exact h));clear H;go_upto_region 28 with fail;refine Bq λY b hT=>?_
    let⟨t0,t1,t2,t3,t4,t5,t6⟩:=st7 hT;have y:=An l b;obtain⟨b2,o2,rfl,-,y0,-⟩:=(a7.keep y).at_ j;obtain⟨b3,o3,rfl,j4⟩:=(hl.keep y).at_ hq;obtain⟨-,-,-,y3,-⟩:=j4 q hq;rw[ca]at y0;let⟨fa,er⟩:=gN ((plc m.pl k).fl)
    let⟨fb,ev⟩:=gN ((plc C q).fl)
    rw[er,ev]at HY HN;rw[er]at t3;rw[ev]at y3;clear l0 l1 l2 l3 l4 l5 l6 er ev l b j4 ca hT t0 t1 t2 t4 t5 t6;let⟨fc,c0⟩:=gN (fa != fb)
    cases fc with
    | true =>
      have h8:=Ar (HN.out c0);have HR:=Ar (show J6 s m=(12,[],[]) by rw[U.out,if_pos h8.out]);clear HN HY h8;cases fa<;>cases fb<;>first|(exact absurd c0 aM)|skip
      all_goals go_wp2_with fail
      all_goals go_quiet (fail)
      all_goals go_wp2
      all_goals go_ret3
      all_goals rw[HR.out]
      all_goals exact Acp.none_ (An b8 (Bd y _))
    | false =>
      have n1:=Ar (HY.out c0);clear HN HY;cases fa<;>cases fb<;>first|(exact absurd c0 aM)|skip
      all_goals go_wp2_with fail
      all_goals go_quiet (fail)
      all_goals go_wp2_with fail
      all_goals exact aE ⟨n1,Bd y _⟩
   obtain rfl:d=k:=aK
   have V:=Ar (show J6 s m=if Zt (uz m) S t≠0 then (Zt (uz m) S t,[],[]) else (0,S,t) by rw[U.out,if_neg (by rw[hp.out];simp)]);have ng:=hh.keep l;have nh:=ih.keep l;have hn:=a7.keep l;have jr:=cu.keep l;have n:=OwG.keep E l;have cf:=An b8 l;let⟨k0,k1,k2,k3,k4,k5⟩:=mk6 ng;clear hh ht ih a7 hl cu E b8 l U h9;go_upto_region 32 with fail;refine Bq λY b hT=>?_
   obtain⟨b0,b1,b2,b3,-⟩:=hT.cells4;let⟨cv,eo⟩:=gN (Zt (uz m) S t)
   rw[eo]at V;have W:=Ar (uq AS AU cS cU nq d (uz m) S t Y aK lU mU (nh.keep b) (hn.keep b));rw[eo]at W;unfold uz Jw at W;dsimp only at W;clear eo k0 k1 k2 k3 k4 k5;by_cases eg:cv=0
   .subst eg;have HR:=Ar (show J6 s m=(0,S,t) by rw[V.out,if_neg aL])
    go_wp2_with (go_at_call 37;refine W.out.mono ?_;rintro e w6 ⟨rfl,u⟩)
    go_ret3
    rw[HR.out];exact⟨_,_,rfl,(jr.keep (An b u)).lower ni,OwG.lower (OwG.keep n (An b u)) b6.size,An cf (An b u)⟩
   have HR:=Ar (show J6 s m=(cv,[],[]) by rw[V.out,if_pos eg]);have qv:(cv != 0)=true:=by simpa using eg
   go_wp2_with (go_at_call 37;refine W.out.mono ?_;rintro e w6 ⟨rfl,u⟩)
   go_ret3
   rw[HR.out];exact Acp.none_ (An cf (An b u))
theorem Ji(s:StyleP)(m:MkP)(a:SmS s)(f:StV w b s)(e:MkV w n m)(c:∀p∈m.pl,okC (kt p))(d:m.pl.length<=1000):Calls prog 16 #[.agg b,.agg n] w (Acp w (J6 s m)):=by
 by_cases h:(Bc s m.sz).1=0
 .exact Aqk b s n m w a f e h c d
 rw[show J6 s m=((Bc s m.sz).1,[],[]) by unfold J6;rw[if_pos h]];exact Aql b s n m w a f e h
theorem MkV.keep{m:MkP}(h:MkV w b m)(c:Be w a):MkV a b m:=by
 obtain⟨d,f,e,g,rfl,⟨i,j,p⟩,k,l,n,o⟩:=h;exact⟨d,f,e,g,rfl,⟨i,j,p.keep c⟩,k,l,n,o.keep c⟩
theorem vg(s:StyleP)(m:MkP):(J6 s m).2.2.length<=m.pl.length/\(J6 s m).2.1.length<=60:=by
 unfold J6;split
 .simp
 rename_i h;let⟨⟨x,S,C⟩,b⟩:∃r,Bc s m.sz=r:=⟨_,rfl⟩
 rw[b]at h ⊢;have d:x=0:=by simpa using h
 subst d;have a:=(X5 b).2;dsimp only;unfold Akz;split
 .simp
 rename_i c;obtain⟨-,-,e,-,-⟩:=S5 (C:=C) (P:=m.pl) m.pl.length aA (by simpa using c)
 repeat' split
 all_goals first
  | (simp;done)
  | (refine⟨?_,a⟩;dsimp only;rw[e,List.length_map,bC];omega)
theorem Rw(S:List Shp)(a:List Pt5):∀k,Ig S a k=Dk S a k
 | 0=>rfl
 | k+1=>by rw[Ig,Dk,Rw S a k]
theorem mh{a:List Pt5}(h:Ig j a e=(x,[]))(b:x≠0):∀m,Ig j a (e+m)=(x,[]):=by
 intro m;induction m with
 | zero=>exact h
 | succ m ih=>rw[<-cQ,Ig,if_pos (by rw[ih];exact b)];exact ih
theorem Oq(S:List Shp)(b:List Pt5):∀k,∀t∈(Ig S b k).2,Bg t t.length=0
 | 0=>by simp[Ig]
 | k+1=>by
   rw[Ig];intro t a;split at a
   .exact Oq S b k t a
   split at a
   .simp at a
   rename_i h;rcases bD.1 a with a|a
   .exact Oq S b k t a
   rw[fQ]at a;subst a;exact Oo (by simpa using h)
theorem Tg{l:List LP}(h:∀t∈l,Bg t t.length=0):∀k,k<=l.length->0<=I4 l k/\I4 l k<=100000000000000*k
 | 0,_=>by simp[I4]
 | k+1,hk=>by
   have ih:=Tg h k (by omega);have a:=Ag4 (h _ (I9 (ls:=l) (k:=k) (by omega)));rw[I4];omega
theorem Aff(s:StyleP)(m:MkP):(J1 s m).2.length<=m.pl.length/\∀t∈(J1 s m).2,Bg t t.length=0:=by
 unfold J1;split
 .simp
 refine⟨?_,Oq _ _ _⟩;rw[Rw];have:=(Hd (J6 s m).2.1 (J6 s m).2.2 (J6 s m).2.2.length).1;have:=(vg s m).1;omega
theorem ep(s:StyleP)(m:MkP)(h:SmS s)(k:StV w b s)(j:MkV w n m)(d:∀p∈m.pl,okC (kt p))(g:m.pl.length<=1000):Calls prog 10 #[.agg b,.agg n] w (Bz w (J6 s m).1):=by
 obtain⟨q,A,r,B,t,C,u,D,v,E,x,F,rfl,-⟩:=id k;obtain⟨y,G,z,H,rfl,-⟩:=id j;go_enter func10,ntmps10;go_upto_region 1 with fail;refine Eo λX a o l=>?_
 let⟨O,P,Q,R,S,T,U⟩:=st7 o;let⟨I,J,K,L,M,N⟩:=mk6 l;have i:=k.keep a;have f:=j.keep a
 go_wp2_with (go_at_call 16;refine(Ji s m h i f d g).mono ?_;rintro e V ⟨u1,u2,rfl,-,-,c⟩)
 go_ret;exact⟨rfl,An a c⟩
theorem O3(s:StyleP)(m:MkP)(T:SmS s)(hv:StV w b s)(hm:MkV w n m)(N:∀p∈m.pl,okC (kt p))(P:m.pl.length<=1000):Calls prog 6 #[.agg b,.agg n] w (wg w (J1 s m)):=by
 have y:=Ar (show J1 s m=if (J6 s m).1≠0 then ((J6 s m).1,[]) else Ig (J6 s m).2.1 (J6 s m).2.2 (J6 s m).2.2.length from rfl);let⟨l1,l2⟩:=vg s m;let⟨r,hr⟩:=gN (J6 s m)
 rw[hr]at y l1 l2;have HE:=Ar hr;obtain⟨x,S,f⟩:=r;dsimp only at y l1 l2;clear hr;obtain⟨A1,c1,A2,c2,A3,c3,A4,c4,A5,c5,A6,c6,rfl,-⟩:=id hv;obtain⟨M1,d1,M2,d2,rfl,-⟩:=id hm;go_enter func6,ntmps6;go_upto_region 1 with fail;refine Eo λX g hP hK=>?_
 let⟨p0,p1,p2,p3,p4,p5,p6⟩:=st7 hP;let⟨k0,k1,k2,k3,k4,k5⟩:=mk6 hK;have E:=hv.keep g;have C:=hm.keep g;by_cases Y:x=0
 .subst Y;rw[if_neg aL]at y
  go_upto_region 4 with (go_at_call 16;refine(Ji s m T E C N P).mono ?_;rintro e Z ⟨v1,v2,rfl,l,j,t⟩;rw[HE.out]at l j ⊢;dsimp only at l j ⊢;obtain⟨AS,cS,rfl,lS,mS,M⟩:=l.shs aK;obtain⟨AU,cU,rfl,L⟩:=OwP.pus j)
  have B:=An g t;let⟨z,O⟩:=gN f.length
  rw[O]at L y l1 ⊢;clear p0 p1 p2 p3 p4 p5 p6 k0 k1 k2 k3 k4 k5 hP hK E C l j g t O;go_upto_region 6 with fail;go_loopw [9,11,12,13,26] (λv _ _ _ i wx=>∃k:Nat,k<=z/\i=k/\Hid ((Ig S f k).1=0)/\Iw wx Z v (Ig S f k).2/\Be Z wx) λ_ _ _ _ i _=>z-(intOf i).toNat
  case atStart=>exact⟨0,aB,rfl,Ar rfl,Iw.nil,bl0⟩
  obtain⟨k,hk,rfl,hz,ho,c⟩:=hrel;by_cases a6:k<z
  .obtain⟨bb,ob,rfl,bp,F,G,H,I,J⟩:=(L.keep c).at_ a6;have R:=F9 S (pt f k);have U:=(Hd S f k).1;rw[<-Rw]at U;have a:=Ar (show Ig S f (k+1)=if (Br S (pt f k)).1≠0 then ((Br S (pt f k)).1,[]) else (0,(Ig S f k).2++[(Br S (pt f k)).2]) by rw[Ig,if_neg (by rw[hz.out];simp)]);let⟨qq,D⟩:=gN (Br S (pt f k))
   rw[D]at R a;have A:=Ar D;clear D;obtain⟨q1,q⟩:=qq;dsimp only at R a;let⟨pq,Q⟩:=gN (pt f k)
   rw[Q]at F G H I J A;clear Q;obtain⟨W,K,V,x2,y2⟩:=pq;dsimp only at F G H I J;have B1:(k:Int)<(z:Int):=aK
   by_cases o:q1=0
   .subst o;rw[if_neg aL]at a
    go_wp2_with (first|(go_at_call 17;refine aF (Cf S ⟨W,K,V,x2,y2⟩ (M.keep (Ao c))) λw5 v5 u d=>?_;rw[A.out]at u ⊢;obtain⟨A5,c5,rfl,-,-,-,-⟩:=OwS.els u)|(at_builtin;refine Fo rfl Z (Ig S f k).2 (((ho.alloc _).keep d).alloc _) w5 1 _ q 48 (Bf.new _ _ _) ((ElS.lower (OwS.els u) (Ao c).size).keep blA) (Ao (An (Ao c) d)).size ?_;intro v7 w7 a8 a1 b2))
    exact aE ⟨Ar (by rw[a.out]),by rw[a.out];exact a8,G6 (Ao (An (Ao c) d)) (((ho.alloc _).keep d).alloc _) a1⟩
   have qo:(q1 != 0)=true:=by simpa using o
   rw[if_pos o]at a;have h:=mh a.out o (z-(k+1));rw[show k+1+(z-(k+1))=z by omega]at h;have HR:=Ar (y.out.trans h);clear h o
   go_wp2_with (go_at_call 17;refine aF (Cf S ⟨W,K,V,x2,y2⟩ (M.keep (Ao c))) λw5 v5 u d=>?_;rw[A.out])
   go_ret2
   rw[HR.out];exact⟨_,rfl,Iw.nil,An B (An (Ao c) d)⟩
  obtain rfl:z=k:=aK
  go_wp2
  go_ret2
  rw[y.out];exact⟨u9,by rw[hz.out];rfl,ho.lower B.size,An B c⟩
 rw[if_pos Y]at y;have bq:(x != 0)=true:=by simpa using Y
 clear Y
 go_wp2_with (go_at_call 16;refine(Ji s m T E C N P).mono ?_;rintro e Z ⟨v1,v2,rfl,l,j,t⟩;rw[HE.out];dsimp only)
 go_ret2
 rw[y.out];exact⟨_,rfl,Iw.nil,An g t⟩
theorem ph(s:StyleP)(m:MkP)(F:SmS s)(W:StV w b s)(V:MkV w n m)(C:∀p∈m.pl,okC (kt p))(E:m.pl.length<=1000):Calls prog 8 #[.agg b,.agg n] w (Bz w (.tuple #[(xo s m).1,(xo s m).2])):=by
 have j:=Ar (show xo s m=if (J1 s m).1≠0 then (0,(J1 s m).1) else (I4 (J1 s m).2 (J1 s m).2.length,0) from rfl);let⟨P,H⟩:=Aff s m;let⟨r,O⟩:=gN (J1 s m)
 rw[O]at j P H;have Q:=Ar O;obtain⟨x,L⟩:=r;dsimp only at j P H;have h:=Ar (Tg H);have y:=Ar λk (N:k<L.length)=>(El (H _ (I9 N))).2;clear O H;obtain⟨A1,c1,A2,c2,A3,c3,A4,c4,A5,c5,A6,c6,rfl,-⟩:=id W;obtain⟨M1,d1,M2,d2,rfl,-⟩:=id V;go_enter func8,ntmps8;go_upto_region 1 with fail;refine Eo λX c T S=>?_
 let⟨p0,p1,p2,p3,p4,p5,p6⟩:=st7 T;let⟨k0,k1,k2,k3,k4,k5⟩:=mk6 S;have u:=W.keep c;have t:=V.keep c;by_cases J:x=0
 .subst J;rw[if_neg aL]at j
  go_upto_region 4 with (go_at_call 6;refine aF (O3 s m F u t C E) λZ v1 d f=>?_;rw[Q.out]at d ⊢;dsimp only at d ⊢;obtain⟨AL,cL,rfl,lL,A,-⟩:=d.spss)
  have M:=An c f;let⟨I,D⟩:=gN L.length
  rw[D]at A j P lL h y ⊢;clear p0 p1 p2 p3 p4 p5 p6 k0 k1 k2 k3 k4 k5 T S u t d c f D;go_upto_region 6 with fail;go_loopw [8,10,22] (λv _ i wx=>∃k:Nat,k<=I/\i=k/\v=(I4 L k)/\Be Z wx) λ_ _ i _=>I-(intOf i).toNat
  case atStart=>exact⟨0,aB,rfl,rfl,bl0⟩
  obtain⟨k,N,rfl,rfl,l⟩:=hrel;by_cases o:k<I
  .obtain⟨bb,ob,Ak,ck,rfl,-,e1,e2,R,-⟩:=(A.keep l).at_ o;have B1:(k:Int)<(I:Int):=aK
   let⟨u1,u2⟩:=h.out k N;let⟨u3,u4⟩:=h.out (k+1) o;have g:=Ar (show I4 L (k+1)=I4 L k+Vh (lt_ L k) from rfl);rw[g.out]at u3 u4;have U:=y.out k o;have z:=Ar (O5 Ak ck (lt_ L k).length (lt_ L k) wr e2 R);let⟨ar,B⟩:=gN (Vh (lt_ L k))
   let⟨Y,G⟩:=gN (I4 L k)
   rw[B]at u3 u4 g z;rw[G]at u1 u2 u3 u4 g ⊢;clear B G R;have W1:IntKind.i64.wrap (Y+ar)=Y+ar:=aD
   go_wp2_with (go_at_call 21;refine z.out.mono ?_;rintro e w5 ⟨rfl,K⟩)
   exact aE ⟨by rw[g.out],An l K⟩
  obtain rfl:I=k:=aK
  go_wp2
  go_ret2
  rw[j.out];exact⟨rfl,An M l⟩
 rw[if_pos J]at j;have a8:(x != 0)=true:=by simpa using J
 clear J
 go_wp2_with (go_at_call 6;refine aF (O3 s m F u t C E) λZ v1 d f=>?_;rw[Q.out];dsimp only)
 go_ret2
 rw[j.out];exact⟨rfl,An c f⟩
def Xb(U:List UseP):Nat->Int
 | 0=>0
 | k+1=>Xb U k+min (max (use U k).ct 0) 9
theorem uf(U:List UseP):∀k,0<=Xb U k/\Xb U k<=9*k
 | 0=>by simp[Xb]
 | k+1=>by
   have:=uf U k;rw[Xb];omega
def Ak4(s:StyleP)(g:Int):Prop:=SmS s/\0<=g/\g<=7/\Xb s.us s.us.length*g<=6
def Ak3(s:StyleP)(g:Int)(w:World)(e:Ending)(a:World):Prop:=∃b,e=.returned (.bool b)/\(b=true->Ak4 s g)/\Be w a
theorem Ak3.no(b:Be w a):Ak3 f g w (.returned (.bool false)) a:=⟨false,rfl,λh=>(by cases h),b⟩
theorem kg(s:StyleP)(g:Int)(hv:StV w b s):Calls prog 4 #[.agg b,g] w (Ak3 s g w):=by
 obtain⟨A1,c1,A2,c2,A3,c3,A4,c4,A5,c5,A6,c6,rfl,⟨v1,v2,v3⟩,⟨v4,v5,v6⟩,⟨v7,v8,v9⟩,⟨T,e6,K⟩,⟨L,U,V⟩,M,W⟩:=hv;go_in;go_upto_region 1 with fail;refine Bq λX a o=>?_
 have l:=v9.keep a;have m:=K.keep a;have d:=Ar λ(a1:s.pc.length<=4) (a2:s.us.length<=4) (a3:s.sz.length<=4) (a4:s.mu.length<=4) (a5:s.se.length<=6) (a6:s.no<=8) (a7:0<=g) (a8:g<=7) (a9:Xb s.us s.us.length*g<=6)=>show Ak4 s g from ⟨⟨a3,a4,a1,a2,a5,a6⟩,a7,a8,a9⟩;let⟨p0,p1,p2,p3,p4,p5,p6⟩:=st7 o;let⟨n1,C⟩:=gN s.sz.length
 let⟨n2,D⟩:=gN s.mu.length
 let⟨r,E⟩:=gN s.pc.length
 let⟨n4,F⟩:=gN s.us.length
 let⟨n5,G⟩:=gN s.se.length
 let⟨n6,H⟩:=gN s.no
 rw[C]at p1 d o v1;rw[D]at p2 d o v4;rw[E]at p3 d o v7 l;rw[F]at p4 d o T m;rw[G]at p5 d o L;rw[H]at p6 d o M;clear C D E F G H v3 v6 v9 K V;by_cases h1:(4:Int)<(r:Int)
 .go_wp2;go_ret;exact Ak3.no a
 by_cases h2:(4:Int)<(n4:Int)
 .go_wp2;go_ret;exact Ak3.no a
 by_cases h3:(4:Int)<(n1:Int)
 .go_wp2;go_ret;exact Ak3.no a
 by_cases h4:(4:Int)<(n2:Int)
 .go_wp2;go_ret;exact Ak3.no a
 by_cases h5:(6:Int)<(n5:Int)
 .go_wp2;go_ret;exact Ak3.no a
 by_cases h6:(8:Int)<(n6:Int)
 .go_wp2;go_ret;exact Ak3.no a
 by_cases h7:g<0
 .go_wp2;go_ret;exact Ak3.no a
 by_cases h8:7<g
 .go_wp2;go_ret;exact Ak3.no a
 have e:=Ar (d.out aK aK aK aK aK aK aK aK);have q3:r<=4:=aK
 have q4:n4<=4:=aK
 have g0:0<=g:=aK
 have g7:g<=7:=aK
 go_upto_region 4 with fail;clear d h1 h2 h3 h4 h5 h6 h7 h8 p0 p1 p2 p5 p6 v1 v2 v4 v5 L U M W;go_loopw [5] (λi N=>∃k:Nat,k<=r/\i=k/\N=X) λi _=>r-(intOf i).toNat
 case atStart=>exact⟨0,aB,rfl,rfl⟩
 obtain⟨k,hk,rfl,rfl⟩:=hrel;by_cases p:k<r
 .obtain⟨Z,op,rfl,eg,⟨B1,d1,B2,d2,B3,d3,B4,d4,rfl,⟨e1,e2,Q⟩,⟨e4,e5,-⟩,-⟩,R⟩:=l.at_ p;have Y:Cq wr Z (op+k*7+1) (.slice B1 (pce s.pc k).ed.length d1):=R 1 _ rfl;have y3:Cq wr Z (op+k*7+3) (.slice B2 (pce s.pc k).nt.length d2):=R 3 _ rfl;let⟨ne,I⟩:=gN ((pce s.pc k).ed.length)
  let⟨nn,J⟩:=gN ((pce s.pc k).nt.length)
  let⟨ED,u⟩:=gN ((pce s.pc k).ed)
  rw[I]at Y e1 Q;rw[J]at y3 e4;rw[u]at Q;have O:(k:Int)<(r:Int):=aK
  clear R I J u;go_upto_region 8 with fail;go_loopw [6,7] (λv i N=>∃(j:Nat) (z:Int),j<=ne/\j<=17/\i=j/\v=z/\0<=z/\z<=20*j/\N=wr) λ_ i _=>ne-(intOf i).toNat
  case atStart=>exact⟨0,0,aB,aK,rfl,rfl,aK,aK,rfl⟩
  obtain⟨j,z,hj,ak,rfl,rfl,z0,z1,rfl⟩:=hrel;by_cases A:j<ne
  .by_cases cn:j<17
   .obtain⟨be,oe,rfl,hE⟩:=Q.at_ A;obtain⟨-,Bl,dl,x1,x2,x3,-⟩:=hE j A;generalize S:(edg ED j).ln.length=ln at x1 x2;have t:(j:Int)<(ne:Int):=aK
    have P:(j:Int)<17:=aK
    have au:0<=min (ln:Int) 20/\min (ln:Int) 20<=20:=aK
    clear S hE;go_wp2;exact⟨⟨j+1,z+min (ln:Int) 20,aK,aK,aP,rfl,aK,aK,trivial⟩,aI⟩
   have t:(j:Int)<(ne:Int):=aK
   have P:¬(j:Int)<17:=aK
   by_cases r1:(24:Int)<z
   .go_wp2;go_ret;exact Ak3.no a
   have r2:(16:Int)<(ne:Int):=aK
   go_wp2;go_ret;exact Ak3.no a
  have t:¬(j:Int)<(ne:Int):=aK
  by_cases r1:(24:Int)<z
  .go_wp2;go_ret;exact Ak3.no a
  by_cases r2:(16:Int)<(ne:Int)
  .go_wp2;go_ret;exact Ak3.no a
  by_cases r3:(16:Int)<(nn:Int)
  .go_wp2;go_ret;exact Ak3.no a
  go_wp2;exact aE trivial
 obtain rfl:r=k:=aK
 go_upto_region 15 with fail;go_loopw [8,9] (λv i N=>∃k:Nat,k<=n4/\i=k/\v=(Xb s.us k)/\N=wr) λ_ i _=>n4-(intOf i).toNat
 case atStart=>exact⟨0,aB,rfl,rfl,rfl⟩
 obtain⟨k,hk,rfl,rfl,rfl⟩:=hrel;have x:=uf s.us k;by_cases p:k<n4
 .obtain⟨bu,ou,rfl,-,Y,-⟩:=m.at_ p;have q:=Ar (show Xb s.us (k+1)=Xb s.us k+min (max (use s.us k).ct 0) 9 from rfl);let⟨cv,f⟩:=gN (Xb s.us k)
  let⟨ct,y⟩:=gN ((use s.us k).ct)
  rw[f]at q x ⊢;rw[y]at q Y;have O:(k:Int)<(n4:Int):=aK
  clear f y;go_wp2;exact aE ⟨by rw[q.out],trivial⟩
 obtain rfl:n4=k:=aK
 have B:=Ar (e.out);generalize f:Xb s.us n4=cv at e x ⊢;have cw:0<=cv*g/\cv*g<=36*7:=⟨dT aK g0,Int.mul_le_mul aK g7 g0 aK⟩;have W1:IntKind.i64.wrap (cv*g)=cv*g:=aD
 clear f B;go_wp2;go_ret;exact⟨_,rfl,λh=>e.out (by simpa using h),a⟩
end Go.Proofs.YtboghahlhmnblaaGreat
