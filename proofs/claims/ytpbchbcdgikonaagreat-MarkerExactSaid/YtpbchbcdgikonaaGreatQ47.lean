/- Lean texts of the claim. -/
import Derived.Test.YtpbchbcdgikonaaGreatQ46
namespace Go.Proofs.YtpbchbcdgikonaaGreat
set_option linter.unusedVariables false
set_option linter.unusedSimpArgs false
set_option maxRecDepth 100000
set_option maxHeartbeats 4000000
open Go.RowKit
theorem Amn (f:Nat->Bool):∀k,0<=Afj f k/\Afj f k<=k
 | 0=>by simp[Afj]
 | k+1=>by
   have:=Amn f k;rw[Afj];split<;>omega
theorem Aml (vs:Array Value) (s:StyleP) (ms:Array Value) (m:MkP) (w:World) (hsm:SmS s) (hv:StV w vs s) (hm:MkV w ms m) (h0:m.pl.length=(Em s).length*m.sz.length) (h60:m.pl.length<=60)
 (hc:∀j,j<m.sz.length->∀i,i<(Em s).length->Afj (fun k=>eqC j (plc (Em s) i) (plc m.pl k)) m.pl.length=1) :
 Calls Tryz.prog 11 #[.agg vs,.agg ms] w fun e w'=>e=.returned (.bool true)/\Below w.heap.size w w':=by
 obtain⟨A1,c1,A2,c2,A3,c3,A4,c4,A5,c5,A6,c6,rfl,-⟩:=id hv;obtain⟨M1,d1,M2,d2,rfl,⟨z1,z2,z3⟩,-,-,-,hpl⟩:=id hm;obtain⟨n1,hn1⟩:∃n,m.sz.length=n:=⟨_,rfl⟩
 obtain⟨n2,hn2⟩:∃n,m.pl.length=n:=⟨_,rfl⟩
 obtain⟨C,hC⟩:∃C,Em s=C:=⟨_,rfl⟩
 have HCP:=Lib.hid (fun (W:World) (h:StV W #[.string s.nm,.slice A1 s.sz.length c1,.slice A2 s.mu.length c2,.slice A3 s.pc.length c3,.slice A4 s.us.length c4,.slice A5 s.se.length c5,.slice A6 s.no c6] s)=>show Calls Tryz.prog 27 #[.agg #[.string s.nm,.slice A1 s.sz.length c1,.slice A2 s.mu.length c2,.slice A3 s.pc.length c3,.slice A4 s.us.length c4,.slice A5 s.se.length c5,.slice A6 s.no c6]] W (Ae3 W C) by rw[<-hC];exact dp _ s W hsm h)
 obtain⟨nc,hnc⟩:∃n,C.length=n:=⟨_,rfl⟩
 rw[hC] at h0 hc;rw[hn1] at h0 hc ⊢;rw[hn2] at h0 h60 hc hpl ⊢;rw[hnc] at h0 hc;have HCN:=Lib.hid hc;have HNC:=Lib.hid hnc;have HMU:=Lib.hid (show (nc:Int)*(n1:Int)=(n2:Int) by rw[h0];simp)
 have hn60:n2<=60:=h60;have hn1b:n1<=9223372036854775807:=by omega
 clear hc hC hn1 hn2 hnc hsm z1 z2 z3 h0 h60;go_enter Tryz.func11,Tryz.ntmps11;go_upto_region 1 with fail;refine Ar (fun X=>Below w.heap.size w X/\Bb X w.heap.size 29 #[.string s.nm,.slice A1 s.sz.length c1,.slice A2 s.mu.length c2,.slice A3 s.pc.length c3,.slice A4 s.us.length c4,.slice A5 s.se.length c5,.slice A6 s.no c6]/\Bb X (w.heap.size+1) 38 #[.int .i64 m.len,.int .i64 m.wid,.int .i64 m.rx,.int .i64 m.ry,.slice M1 n1 d1,.slice M2 n2 d2]) ⟨An (An (Below.refl _ _) _) _,(Bb.new _ _ _).alloc _,Bb.new2 _ _ _ _⟩ ?_
 rintro X ⟨hbX,hP,hK⟩;obtain⟨p0,p1,p2,p3,p4,p5,p6⟩:=st7 hP;have hvX:=hv.keep hbX
 go_upto_region 2 with (go_at_call 27;refine(HCP.out _ hvX).mono ?_;rintro e w1 ⟨v1,rfl,ho1,hb1⟩;obtain⟨AC,cC,rfl,hq1,hq2,hCS⟩:=R4.pls ho1;rw[HNC.out] at hq1 hCS ⊢)
 have hncb:nc<=9223372036854775807:=by omega
 clear hq1 hq2;have hK1:=hK.keep hb1;have hbW:=Ao hbX hb1;have hpl1:=hpl.keep hbW;obtain⟨k0,k1,k2,k3,k4,k5⟩:=mk6 hK1;have hmul:=HMU.out;go_upto_region 5 with fail;clear hmul k0 k1 k2 k3 k4 k5 p0 p1 p2 p3 p4 p5 p6;obtain⟨GM,hGM⟩:∃g,w.heap.size+1=g:=⟨_,rfl⟩
 rw[hGM] at hK1 ⊢;clear hP hK hvX hbX hGM hm hv hb1;go_loopw [6] (fun j wr=>∃k:Nat,k<=n1/\j=.int .i64 k/\Below w1.heap.size w1 wr) (fun j _=>n1-(intOf j).toNat)
 case atStart=>exact⟨0,Nat.zero_le _,rfl,Below.refl _ _⟩
 case round =>
  obtain⟨j,hj,rfl,hb⟩:=hrel;obtain⟨wa,hwa⟩:∃wa:World,wa=wr:=⟨_,rfl⟩
  rw[<-hwa] at hb ⊢;clear hwa;obtain⟨k0,k1,k2,k3,k4,k5⟩:=mk6 (hK1.keep hb);by_cases hjn:j<n1
  ·have B1:(j:Int)<(n1:Int):=by omega
   go_upto_region 8 with fail;clear k0 k1 k2 k3 k4 k5;go_loopw [7] (fun i wr=>∃k:Nat,k<=nc/\i=.int .i64 k/\Below w1.heap.size w1 wr) (fun i _=>nc-(intOf i).toNat)
   case atStart=>exact⟨0,Nat.zero_le _,rfl,hb⟩
   case round =>
    obtain⟨i,hi,rfl,hbi⟩:=hrel;obtain⟨wb,hwb⟩:∃wb:World,wb=wr:=⟨_,rfl⟩
    rw[<-hwb] at hbi ⊢;clear hwb;by_cases hin:i<nc
    ·have HC1:=Lib.hid (HCN.out j hjn i hin)
     obtain⟨cI,hcI⟩:∃c,plc C i=c:=⟨_,rfl⟩
     rw[hcI] at HC1;obtain⟨bC,oC,rfl,hcc⟩:=hCS.at_ hin;have hci:=hcc i hin;rw[hcI] at hci;clear hcc hcI;obtain⟨cga,cus,ccp,cfl,cqu,cx,cy⟩:=cI;have B2:(i:Int)<(nc:Int):=by omega
     go_upto_region 12 with fail;go_loopw [8,9] (fun n k wr=>∃q:Nat,q<=n2/\n=.int .i64 (Afj (fun k=>eqC j ⟨cga,cus,ccp,cfl,cqu,cx,cy⟩ (plc m.pl k)) q)/\k=.int .i64 q/\Below w1.heap.size w1 wr) (fun _ k _=>n2-(intOf k).toNat)
     case atStart=>exact⟨0,Nat.zero_le _,rfl,rfl,hbi⟩
     case round =>
      obtain⟨q,hq,rfl,rfl,hbq⟩:=hrel;obtain⟨cn,hcn⟩:∃z,Afj (fun k=>eqC j ⟨cga,cus,ccp,cfl,cqu,cx,cy⟩ (plc m.pl k)) q=z:=⟨_,rfl⟩
      have HCQ:=Lib.hid hcn;have hcb:=Amn (fun k=>eqC j ⟨cga,cus,ccp,cfl,cqu,cx,cy⟩ (plc m.pl k)) q
      rw[hcn] at hcb ⊢;clear hcn;obtain⟨k0,k1,k2,k3,k4,k5⟩:=mk6 (hK1.keep hbq);by_cases hqn:q<n2
      ·have B3:(q:Int)<(n2:Int):=by omega
       have B4:(0:Int)<=(q:Int):=by omega
       obtain⟨bP,oP,rfl,hpp⟩:=(hpl1.keep hbq).at_ hqn;obtain⟨e0,e1,e2,e3,e4,e5,e6⟩:=hpp q hqn;obtain⟨pq,hpq⟩:∃p,plc m.pl q=p:=⟨_,rfl⟩
       have HPQ:=Lib.hid hpq;rw[hpq] at e0 e1 e2 e3 e4 e5 e6;obtain⟨ga,us,cp,fl,qu,x,y⟩:=pq;dsimp only at e0 e1 e2 e3 e4 e5 e6;clear hpp hpq;go_upto_region 15 with fail;refine Ar (fun X=>Below wr.heap.size wr X/\Bb X wr.heap.size 51 #[.int .i64 ga,.int .i64 us,.int .i64 cp,.bool fl,.int .i64 qu,.int .i64 x,.int .i64 y]) ⟨An (Below.refl _ _) _,Bb.new _ _ _⟩ ?_
       rintro X2 ⟨hbX2,hV⟩;obtain⟨v0,v1,v2,v3,v4,v5,v6⟩:=st7 hV;have hbqX:=Ao hbq hbX2;obtain⟨c0,c1',c2',c3',c4',c5',c6'⟩:=hci.keep hbqX;dsimp only at c0 c1' c2' c3' c4' c5' c6';clear k0 k1 k2 k3 k4 k5 e0 e1 e2 e3 e4 e5 e6 hV;obtain⟨b1,hb1⟩:∃b,(ga == (j:Int))=b:=⟨_,rfl⟩
       obtain⟨b2,hb2⟩:∃b,(us == cus)=b:=⟨_,rfl⟩
       obtain⟨b3,hb3⟩:∃b,(cp == ccp)=b:=⟨_,rfl⟩
       obtain⟨b4,hb4⟩:∃b,(fl == cfl)=b:=⟨_,rfl⟩
       have HST:=Lib.hid (show Afj (fun k=>eqC j ⟨cga,cus,ccp,cfl,cqu,cx,cy⟩ (plc m.pl k)) (q+1)=if (b1&&b2&&b3&&b4)=true then cn+1 else cn by
        rw[Afj,HCQ.out,HPQ.out,<-hb1,<-hb2,<-hb3,<-hb4];rfl)
       cases b1 with
       | false =>
         go_quiet (fail)
         have hbN:=Bg hbqX nq;go_wp2_with fail;exact⟨⟨q+1,by omega,by rw[HST.out];rfl,by go_num,hbN⟩,by simp[intOf];omega⟩
       | true =>
         cases b2 with
         | false =>
           go_quiet (fail)
           have hbN:=Bg hbqX nq;go_wp2_with fail;exact⟨⟨q+1,by omega,by rw[HST.out];rfl,by go_num,hbN⟩,by simp[intOf];omega⟩
         | true =>
           cases b3 with
           | false =>
             go_quiet (fail)
             have hbN:=Bg hbqX nq;go_wp2_with fail;exact⟨⟨q+1,by omega,by rw[HST.out];rfl,by go_num,hbN⟩,by simp[intOf];omega⟩
           | true =>
             cases b4 with
             | false =>
               go_quiet (fail)
               have hbN:=Bg hbqX nq;go_wp2_with fail;exact⟨⟨q+1,by omega,by rw[HST.out];rfl,by go_num,hbN⟩,by simp[intOf];omega⟩
             | true =>
               go_quiet (fail)
               have hbN:=Bg hbqX nq;go_wp2_with fail;exact⟨⟨q+1,by omega,by rw[HST.out];rfl,by go_num,hbN⟩,by simp[intOf];omega⟩
      ·obtain rfl:n2=q:=by omega
       rw[show cn=1 from HCQ.out.symm.trans HC1.out]
       go_wp2_with fail;exact⟨⟨i+1,by omega,by go_num,hbq⟩,by simp[intOf];omega⟩
    ·obtain rfl:nc=i:=by omega
     go_wp2_with fail;exact⟨⟨j+1,by omega,by go_num,hbi⟩,by simp[intOf];omega⟩
  ·obtain rfl:n1=j:=by omega
   go_wp2_with fail;go_ret;exact⟨rfl,Ao hbW hb⟩
theorem Amm (A B:Option Addr) (ca cb n:Nat) (l:List (Int×Int)) (w:World) (hn:n<=1000000) (hA:SpS w A n l) (hB:SpS w B n l) :
 Calls Tryz.prog 13 #[.slice A n ca,.slice B n cb] w fun e w'=>e=.returned (.bool true)/\Below w.heap.size w w':=by
 have heq:=Gw;have q:((n:Int) != (n:Int))=false:=by simp
 go_enter Tryz.func13,Tryz.ntmps13;go_wp2_with fail;go_loopw [5] (fun i wr=>∃k:Nat,k<=n/\i=.int .i64 k/\Below w.heap.size w wr) (fun i _=>n-(intOf i).toNat)
 case atStart=>exact⟨0,Nat.zero_le _,rfl,Below.refl _ _⟩
 case round =>
  obtain⟨k,hk,rfl,hb⟩:=hrel;by_cases hlt:k<n
  ·obtain⟨b1,o1,rfl,-,c1⟩:=(hA.keep hb).at_ hlt
   obtain⟨b2,o2,rfl,-,d1⟩:=(hB.keep hb).at_ hlt;obtain⟨e1,e2⟩:=c1 k hlt;obtain⟨e3,e4⟩:=d1 k hlt;obtain⟨pa,hpa⟩:∃pa,gt l k=pa:=⟨_,rfl⟩
   rw[hpa] at e1 e2 e3 e4;obtain⟨x,y⟩:=pa;dsimp only at e1 e2 e3 e4;clear hpa c1 d1 hA hB;have hs:eqS (x,y) (x,y)=true:=(Vy _ _).2 rfl;go_wp2_with fail
   go_quiet (fail)
   have hb2:=Bg hb nq;clear hb;go_wp2_with fail;exact⟨⟨k+1,by omega,by go_num,hb2⟩,by simp[intOf];omega⟩
  ·obtain rfl:n=k:=by omega
   go_wp2_with fail;go_ret;exact⟨rfl,hb⟩
theorem Amq {l:List (Int×Int)} {W:Int} (hl:∀q∈l,0<=q.1/\q.1<=1048576/\0<=q.2/\q.2<=W) (h0:0<l.length):∀n,n<=l.length->0<=loX l n/\loX l n<=hiX l n/\hiX l n<=1048576/\0<=loY l n/\loY l n<=hiY l n/\hiY l n<=W
 | 0,_=>by
   have:=hl _ (Oa h0);simp only[loX,loY,hiX,hiY];omega
 | n+1,hn=>by
   have ih:=Amq hl h0 n (by omega)
   have:=hl _ (Oa (l:=l) (i:=n) (by omega))
   simp only[loX,loY,hiX,hiY];refine⟨?_,?_,?_,?_,?_,?_⟩<;>(repeat' split)<;>omega
theorem Amr {r:List (Int×Int)} {wid:Int} (hc:Bf r r.length=0) (h0:0<r.length) (hp:∀q∈r,0<=q.1/\0<=q.2/\q.2<=wid) :
 ∃bx bY bw bh,loX r r.length=bx/\loY r r.length=bY/\wrap64 (hiX r r.length-loX r r.length)=bw/\wrap64 (hiY r r.length-loY r r.length)=bh/\0<=bx/\0<=bY/\bY+bh<=wid/\bx+bw=O3 r/\bx+bw<=1048576/\0<=bw/\0<=bh/\bY+bh<=1048576:=by
 have hn:=Jg hc;have h1:=Amq (l:=r) (W:=min wid 1048576) (fun q hq=>by have h1:=hp q hq;have h2:=hn q hq;unfold Ep at h2;omega) h0 r.length (Nat.le_refl _)
 refine⟨_,_,_,_,rfl,rfl,rfl,rfl,?_⟩;rw[Dn (by omega) (by omega),Dn (by omega) (by omega)]
 unfold O3;omega
theorem Amp {s:StyleP} {Z:List Int} {wid:Int} {p:PlcP} {r:List (Int×Int)} (h:Ako s Z wid p r) :
 ∃ga us pc:Nat,p.ga=ga/\p.us=us/\(use s.us us).pc=pc/\ga<Z.length/\us<s.us.length/\pc<s.pc.length/\(Lb s (gi Z ga) us).2=0/\r=Th (Fv p.fl p.qu (Lb s (gi Z ga) us).1) (p.x,p.y)/\Zf (pce s.pc pc).gr p.fl p.fl p.qu=true/\(Lb s (gi Z ga) us).1.length=r.length/\r.length<=1000:=by
 obtain⟨⟨a1,a2⟩,⟨b1,b2⟩,⟨c1,c2⟩,d,e,f,g,-⟩:=h;have e3:r.length=(Lb s (gi Z p.ga.toNat) p.us).1.length:=by rw[e];unfold Th;rw[List.length_map,Fg]
 have e4:=(L7 g).2.1;refine⟨p.ga.toNat,p.us.toNat,(use s.us p.us.toNat).pc.toNat,by omega,by omega,by omega,by omega,by omega,by omega,?_⟩
 rw[show ((p.us.toNat:Nat):Int)=p.us by omega]
 exact⟨d,e,f,e3.symm,by omega⟩
theorem StV.pu {w:World} {s:StyleP} {A1 A2 A3 A4 A5 A6:Option Addr} {c1 c2 c3 c4 c5 c6 n1 n2 n3 n4 n5 n6:Nat} (h:StV w #[.string s.nm,.slice A1 n1 c1,.slice A2 n2 c2,.slice A3 n3 c3,.slice A4 n4 c4,.slice A5 n5 c5,.slice A6 n6 c6] s):PcS w A3 n3 s.pc/\UsS w A4 n4 s.us:=by
 obtain⟨_,_,_,_,_,_,_,_,_,_,_,_,e,-,-,⟨-,-,h3⟩,⟨-,-,h4⟩,-⟩:=h;have e:=congrArg Array.toList e;simp at e;obtain⟨-,-,⟨rfl,rfl,-⟩,⟨rfl,rfl,-⟩,-⟩:=e;exact⟨h3,h4⟩
theorem MkV.zp {w:World} {m:MkP} {x y z u:Int} {A1 A2:Option Addr} {c1 c2 n1 n2:Nat} (h:MkV w #[.int .i64 x,.int .i64 y,.int .i64 z,.int .i64 u,.slice A1 n1 c1,.slice A2 n2 c2] m):InS w A1 n1 m.sz/\PlS w A2 n2 m.pl:=by
 obtain⟨_,_,_,_,e,⟨-,-,h1⟩,-,-,-,h2⟩:=h;have e:=congrArg Array.toList e;simp at e;obtain⟨-,-,-,-,⟨rfl,rfl,-⟩,⟨rfl,rfl,-⟩⟩:=e;exact⟨h1,h2⟩
theorem Amo (aw:Aih) (v0 v1 v2 v3 v4 v5 v6:Value) (s:StyleP) (b:Bed4) (A:Option Addr) (n c:Nat) (Z:List Int) (w:World) (hv:StV w #[v0,v1,v2,v3,v4,v5,v6] s) (hn:n<=c) (hcc:c<=9223372036854775807) (hnil:A=none->c=0) (hZ:InS w A n Z) :
 Calls Tryz.prog 3 #[.agg #[v0,v1,v2,v3,v4,v5,v6,.int .i64 b.len,.int .i64 b.wid,.int .i64 b.rx,.int .i64 b.ry,.slice A n c]] w fun e w'=>e=.returned (.bool true)/\Below w.heap.size w w':=by
 have HA:=Lib.hid aw;obtain⟨A1,c1,A2,c2,A3,c3,A4,c4,A5,c5,A6,c6,e,-⟩:=id hv;have e:=congrArg Array.toList e;simp at e;obtain⟨rfl,rfl,rfl,rfl,rfl,rfl,rfl⟩:=e;clear e;have HBU:=Lib.hid (fun (W:World) (A:Option Addr) (n c:Nat) (Z:List Int) (hn:n<=c) (hcc:c<=9223372036854775807) (hnil:A=none->c=0) (h1:InS W A n Z) (h2:StV W #[.string s.nm,.slice A1 s.sz.length c1,.slice A2 s.mu.length c2,.slice A3 s.pc.length c3,.slice A4 s.us.length c4,.slice A5 s.se.length c5,.slice A6 s.no c6] s)=>rh #[.string s.nm,.slice A1 s.sz.length c1,.slice A2 s.mu.length c2,.slice A3 s.pc.length c3,.slice A4 s.us.length c4,.slice A5 s.se.length c5,.slice A6 s.no c6] s b A n c Z W hn hcc hnil h1 h2)
 obtain⟨len,wid,rx,ry⟩:=b;unfold Hz at HBU;dsimp only at HBU ⊢;go_enter Tryz.func3,Tryz.ntmps3;go_upto_region 1 with fail;refine Ar (fun X=>Below w.heap.size w X/\Bb X w.heap.size 35 #[.string s.nm,.slice A1 s.sz.length c1,.slice A2 s.mu.length c2,.slice A3 s.pc.length c3,.slice A4 s.us.length c4,.slice A5 s.se.length c5,.slice A6 s.no c6,.int .i64 len,.int .i64 wid,.int .i64 rx,.int .i64 ry,.slice A n c]) ⟨An (Below.refl _ _) _,Bb.new _ _ _⟩ ?_
 rintro X ⟨hbX,hC⟩
 have KF:∀W',Below X.heap.size X W'->W'.cell? ⟨w.heap.size,0,none⟩=some (.string s.nm)/\W'.cell? ⟨w.heap.size,1,none⟩=some (.slice A1 s.sz.length c1)/\W'.cell? ⟨w.heap.size,2,none⟩=some (.slice A2 s.mu.length c2)/\W'.cell? ⟨w.heap.size,3,none⟩=some (.slice A3 s.pc.length c3)/\W'.cell? ⟨w.heap.size,4,none⟩=some (.slice A4 s.us.length c4)/\W'.cell? ⟨w.heap.size,5,none⟩=some (.slice A5 s.se.length c5)/\W'.cell? ⟨w.heap.size,6,none⟩=some (.slice A6 s.no c6)/\W'.cell? ⟨w.heap.size,7,none⟩=some (.int .i64 len)/\W'.cell? ⟨w.heap.size,8,none⟩=some (.int .i64 wid)/\W'.cell? ⟨w.heap.size,9,none⟩=some (.int .i64 rx)/\W'.cell? ⟨w.heap.size,10,none⟩=some (.int .i64 ry)/\W'.cell? ⟨w.heap.size,11,none⟩=some (.slice A n c):=fun W' hb'=>by
  obtain⟨k0,k1,k2,k3,k4,k5,k6,k7,k8,k9,k10,k11⟩:=Akm (hC.keep hb');exact⟨k0,k1,k2,k3,k4,k5,k6,k7,k8,k9,k10,k11⟩
 have hltX:w.heap.size<X.heap.size:=hC.lt;have hC0:=hC;clear hC;go_cut [3,4] (fun v5 v6 wx=>∃gs gb,v5=.pointer (some ⟨gs,0,none⟩)/\v6=.pointer (some ⟨gb,0,none⟩)/\Bb wx gs 29 #[.string s.nm,.slice A1 s.sz.length c1,.slice A2 s.mu.length c2,.slice A3 s.pc.length c3,.slice A4 s.us.length c4,.slice A5 s.se.length c5,.slice A6 s.no c6]/\Bb wx gb 33 #[.int .i64 len,.int .i64 wid,.int .i64 rx,.int .i64 ry]/\Below X.heap.size X wx)
 case first =>
  as_aux_lemma =>
   go_region_held3 (fun W'=>W'.cell? ⟨w.heap.size,0,none⟩=some (.string s.nm)/\W'.cell? ⟨w.heap.size,1,none⟩=some (.slice A1 s.sz.length c1)/\W'.cell? ⟨w.heap.size,2,none⟩=some (.slice A2 s.mu.length c2)/\W'.cell? ⟨w.heap.size,3,none⟩=some (.slice A3 s.pc.length c3)/\W'.cell? ⟨w.heap.size,4,none⟩=some (.slice A4 s.us.length c4)/\W'.cell? ⟨w.heap.size,5,none⟩=some (.slice A5 s.se.length c5)/\W'.cell? ⟨w.heap.size,6,none⟩=some (.slice A6 s.no c6)/\W'.cell? ⟨w.heap.size,7,none⟩=some (.int .i64 len)/\W'.cell? ⟨w.heap.size,8,none⟩=some (.int .i64 wid)/\W'.cell? ⟨w.heap.size,9,none⟩=some (.int .i64 rx)/\W'.cell? ⟨w.heap.size,10,none⟩=some (.int .i64 ry)/\W'.cell? ⟨w.heap.size,11,none⟩=some (.slice A n c))
    (first
     | with_reducible exact KF _ (Aw (Below.refl _ _))
     | with_reducible exact KF _ (Below.refl _ _)
     | with_reducible exact KF _ (Aw (An (Below.refl _ _) _))
     | with_reducible exact KF _ (An (Below.refl _ _) _)
     | with_reducible exact KF _ (Aw (An (An (Below.refl _ _) _) _))
     | with_reducible exact KF _ (An (An (Below.refl _ _) _) _))
    ((first|fail))
   all_goals go_wp2_with fail
   all_goals go_meet
   all_goals first
    | exact⟨_,_,rfl,rfl,dk0 _ _ _ _,dk1 _ _ _ _,Aw (An (An (Below.refl _ _) _) _)⟩
    | exact⟨_,_,rfl,rfl,dk1 _ _ _ _,dk0 _ _ _ _,Aw (An (An (Below.refl _ _) _) _)⟩
 case rest =>
  obtain⟨gs,gb,rfl,rfl,hs1,hb1,hbc⟩:=hcut;have hCc:=hC0.keep hbc;clear KF hC0;obtain⟨k0,k1,k2,k3,k4,k5,k6,k7,k8,k9,k10,k11⟩:=Akm hCc;have hbW:=Ao hbX hbc;have hvc:=hv.keep hbW;have hZc:=hZ.keep hbW;clear hbX hbc;obtain⟨p0,p1,p2,p3,p4,p5,p6⟩:=st7 hs1;obtain⟨b0',b1',b2',b3',-⟩:=hb1.cells4
  go_upto_region 3 with (go_at_call 8;refine(HBU.out _ A n c Z hn hcc hnil hZc hvc).mono ?_;rintro e w1 ⟨ms,ok,m,rfl,hmk,hbw,hok⟩;replace hmk:=hmk w1 (fun _ _ _=>rfl);obtain⟨M1,d1,M2,d2,rfl,-⟩:=id hmk)
  refine Ar (fun T=>Below w1.heap.size w1 T/\Bb T w1.heap.size 38 #[.int .i64 m.len,.int .i64 m.wid,.int .i64 m.rx,.int .i64 m.ry,.slice M1 m.sz.length d1,.slice M2 m.pl.length d2]) ⟨An (Below.refl _ _) _,Bb.new _ _ _⟩ ?_
  rintro T ⟨hbT,hM⟩;obtain⟨GM,hGM⟩:∃g,w1.heap.size=g:=⟨_,rfl⟩
  have hbcT:=Ao hbw hbT;have hmT:=hmk.keep hbT;rw[hGM] at hM ⊢;have hsT:=hs1.keep hbcT;have hbT2:=hb1.keep hbcT;have hvT:=hvc.keep hbcT;have hZT:=hZc.keep hbcT;have hbWT:=Ao hbW hbcT;clear hGM hbT hbw hmk hs1 hb1 hvc hbW hbcT p0 p1 p2 p3 p4 p5 p6 b0' b1' b2' b3' k0 k1 k2 k3 k4 k5 k6 k7 k8 k9 k10 k11 hCc;cases ok with
  | false =>
    go_wp2_with (go_at_call 9;refine(HA.out _).mono ?_;rintro e w9 ⟨rfl,hb9⟩)
    go_ret;exact⟨rfl,Ao hbWT hb9⟩
  | true =>
    obtain⟨hsm,hbw,hmm⟩:=hok rfl;obtain⟨L,hX⟩:=Vx hbw;rw[<-hmm] at hX;obtain⟨ko,k60⟩:=ri hbw;rw[<-hmm] at ko k60;have HX:=Lib.hid hX;have HPO:=Lib.hid hX.pols;have HLL:=Lib.hid hX.len;obtain⟨n2,hn2⟩:∃n,m.pl.length=n:=⟨_,rfl⟩
    have HN2:=Lib.hid hn2;have HKO:=Lib.hid ko;have h1000:m.pl.length<=1000:=by omega
    obtain⟨p0,p1,p2,p3,p4,p5,p6⟩:=st7 hsT;obtain⟨m0,m1,m2,m3,m4,m5⟩:=mk6 hM;clear hn2;have hcnt0:=hX.cnt0;have hsz:=hX.sz;have hwid:=hX.wid;have hle:=hX.le;have HCNT:=Lib.hid hX.cnt;have HOK:=Lib.hid hX.ok;have HAP:=Lib.hid hX.apart;have HFAR:=Lib.hid hX.far;have HCHK:=Lib.hid hX.chk;dsimp only at hwid hle;have HCT:=Lib.hid (fun (W:World) (h1:StV W #[.string s.nm,.slice A1 s.sz.length c1,.slice A2 s.mu.length c2,.slice A3 s.pc.length c3,.slice A4 s.us.length c4,.slice A5 s.se.length c5,.slice A6 s.no c6] s) (h2:MkV W #[.int .i64 m.len,.int .i64 m.wid,.int .i64 m.rx,.int .i64 m.ry,.slice M1 m.sz.length d1,.slice M2 m.pl.length d2] m)=>Aml _ s _ m W hsm.1 h1 h2 (by rw[hsz];exact hcnt0) k60 (by rw[hsz];exact HCNT.out))
    clear hX hmm hbw hok ko k60 hcnt0;have HSZ:=Lib.hid hsz;have HWID:=Lib.hid hwid;have hcb:(decide (m.len > max len 0))=false:=by simp;omega
    clear hsz;rw[hwid,HN2.out] at hM HCT hmT;rw[HN2.out] at m5;rw[hwid] at m1;clear hwid hle
    go_upto_region 6 with (go_at_call 10;refine(Nw _ s _ m _ hsm.1 hvT hmT HKO.out h1000).mono ?_;rintro e w3 ⟨v3,rfl,ho3,hb3⟩;rw[HPO.out] at ho3 ⊢;obtain⟨AL,cL,rfl,hq1,hSS,-⟩:=ho3.spss;rw[HLL.out,HN2.out] at hSS ⊢)
    have hs3:=hsT.keep hb3;have hM3:=hM.keep hb3;have hB3:=hbT2.keep hb3;have hv3:=hvT.keep hb3;have hm3:=hmT.keep hb3;have hbW3:=Ao hbWT hb3;clear p0 p1 p2 p3 p4 p5 p6 m0 m1 m2 m3 m4 m5 hsT hM hbT2 hvT hmT hbWT hb3 ho3 hZT hZc hq1;obtain⟨p0,p1,p2,p3,p4,p5,p6⟩:=st7 hs3;obtain⟨m0,m1,m2,m3,m4,m5⟩:=mk6 hM3;obtain⟨b0',b1',b2',b3',-⟩:=hB3.cells4
    go_upto_region 10 with (go_at_call 11;refine(HCT.out _ hv3 hm3).mono ?_;rintro e w4 ⟨rfl,hb4⟩)
    have hs4:=hs3.keep hb4;have hM4:=hM3.keep hb4;have hv4:=hv3.keep hb4;have hm4:=hm3.keep hb4;have hS4:=hSS.keep hb4;have hbW4:=Ao hbW3 hb4;clear p0 p1 p2 p3 p4 p5 p6 m0 m1 m2 m3 m4 m5 b0' b1' b2' b3' hs3 hM3 hB3 hv3 hm3 hbW3 hSS hb4 HCT hcb;obtain⟨hPc,hUs⟩:=hv4.pu;obtain⟨hSz,hpl⟩:=hm4.zp;have HOKp:=Lib.hid (show ∀k,k<n2->Ako s m.sz wid (plc m.pl k) (lt_ L k) by rw[<-HN2.out,<-HWID.out,HSZ.out];exact HOK.out)
    have HAPp:=Lib.hid (show ∀i k,i<k->k<n2->Ej (lt_ L i) (lt_ L k)=(false,0) by rw[<-HN2.out];exact HAP.out)
    have hn2b:n2<=1000:=by rw[<-HN2.out];exact h1000
    clear h1000;go_loopw [9,10] (fun f k wr=>∃q:Nat,q<=n2/\f=.int .i64 (Ad9 L q)/\k=.int .i64 q/\Below w4.heap.size w4 wr) (fun _ k _=>n2-(intOf k).toNat)
    case atStart=>exact⟨0,Nat.zero_le _,rfl,rfl,Below.refl _ _⟩
    case round =>
     obtain⟨q,hq,rfl,rfl,hbq⟩:=hrel;obtain⟨wa,hwa⟩:∃wa:World,wa=wr:=⟨_,rfl⟩
     rw[<-hwa] at hbq ⊢;clear hwa;by_cases hqn:q<n2
     ·have hOKq:=HOKp.out q hqn
      obtain⟨pq,hpq⟩:∃p,plc m.pl q=p:=⟨_,rfl⟩
      obtain⟨r,hr⟩:∃r,lt_ L q=r:=⟨_,rfl⟩
      obtain⟨far,hfar⟩:∃f,Ad9 L q=f:=⟨_,rfl⟩
      have HRR:=Lib.hid hr;have HST:=Lib.hid (show Ad9 L (q+1)=max far (O3 r) by rw[Ad9,hfar,hr])
      obtain⟨bP,oP,rfl,hpp⟩:=(hpl.keep hbq).at_ hqn;obtain⟨e0,e1,e2,e3,e4,e5,e6⟩:=hpp q hqn;rw[hpq] at hOKq e0 e1 e2 e3 e4 e5 e6;rw[hr] at hOKq;rw[hfar];clear hpq hr hfar hpp;obtain⟨zga,zus,zcp,zfl,zqu,zx,zy⟩:=pq;dsimp only at e0 e1 e2 e3 e4 e5 e6;obtain⟨ga,us,pc,h1,h2,h3,g1,g2,g3,g4,g5,g6,g7,g8⟩:=Amp hOKq;dsimp only at h1 h2 h3 g5 g6;subst h1 h2;obtain⟨-,-,-,-,-,-,k1,k2,k3⟩:=hOKq;obtain⟨bx,bY,bw,bh,f1,f2,f3,f4,f5,f6,f7,f8,f9,f10,f11,f12⟩:=Amr k1 k2 k3;have B1:(q:Int)<(n2:Int):=by omega
      obtain⟨k0',k1',k2',k3',k4',k5'⟩:=mk6 (hM4.keep hbq);go_upto_region 13 with fail;refine Ar (fun X=>Below wa.heap.size wa X/\Bb X wa.heap.size 51 #[.int .i64 ga,.int .i64 us,.int .i64 zcp,.bool zfl,.int .i64 zqu,.int .i64 zx,.int .i64 zy]) ⟨An (Below.refl _ _) _,Bb.new _ _ _⟩ ?_
      rintro X2 ⟨hbX2,hV⟩;obtain⟨GP,hGP⟩:∃g,wa.heap.size=g:=⟨_,rfl⟩
      rw[hGP] at hV ⊢;have hbqX:=Ao hbq hbX2;obtain⟨v0,v1,v2,v3,v4,v5,v6⟩:=st7 hV;clear k0' k1' k2' k3' k4' k5' e0 e1 e2 e3 e4 e5 e6 hGP;obtain⟨k0',k1',k2',k3',k4',k5'⟩:=mk6 (hM4.keep hbqX);obtain⟨p0,p1,p2,p3,p4,p5,p6⟩:=st7 (hs4.keep hbqX);obtain⟨bU,oU,rfl,u0,-,-⟩:=(hUs.keep hbqX).at_ g2;rw[h3] at u0;have N0:¬((ga:Int)<0):=by omega
      have N1:¬((us:Int)<0):=by omega
      have N2:¬((pc:Int)<0):=by omega
      have N3:¬((m.sz.length:Int)<=(ga:Int)):=by omega
      have N4:¬((s.us.length:Int)<=(us:Int)):=by omega
      have N5:¬((s.pc.length:Int)<=(pc:Int)):=by omega
      have N6:(us:Int)<(s.us.length:Int):=by omega
      go_quiet (fail)
      have hbN:=Bg hbqX nq;have hVN:=hV.keep (Bg (Below.refl _ _) nq);go_upto_region 15 with fail;clear k0' k1' k2' k3' k4' k5' p0 p1 p2 p3 p4 p5 p6 v0 v1 v2 v3 v4 v5 v6 u0 hV hbqX hbX2;obtain⟨Y,hY⟩:∃Y:World,X2.drewN nq=Y:=⟨_,rfl⟩
      rw[hY] at hbN hVN ⊢;clear hY;have hvY:=hv4.keep hbN;have hsY:=hs4.keep hbN;have hMY:=hM4.keep hbN;have hPY:=(hPc.keep hbN);have hUY:=(hUs.keep hbN);have hSY:=hS4.keep hbN;obtain⟨k0',k1',k2',k3',k4',k5'⟩:=mk6 hMY;obtain⟨p0,p1,p2,p3,p4,p5,p6⟩:=st7 hsY;obtain⟨v0,v1,v2,v3,v4,v5,v6⟩:=st7 hVN;obtain⟨bZ,oZ,rfl,z0⟩:=(hSz.keep hbN).at_ g1;have B2:(ga:Int)<(m.sz.length:Int):=by omega
      have HG4:=Lib.hid g4
      have KF:∀W',Below Y.heap.size Y W'->W'.cell? ⟨gs,0,none⟩=some (.string s.nm)/\W'.cell? ⟨gs,1,none⟩=some (.slice A1 s.sz.length c1)/\W'.cell? ⟨gs,2,none⟩=some (.slice A2 s.mu.length c2)/\W'.cell? ⟨gs,3,none⟩=some (.slice A3 s.pc.length c3)/\W'.cell? ⟨gs,4,none⟩=some (.slice (some ⟨bU,oU,none⟩) s.us.length c4)/\W'.cell? ⟨gs,5,none⟩=some (.slice A5 s.se.length c5)/\W'.cell? ⟨gs,6,none⟩=some (.slice A6 s.no c6)/\W'.cell? ⟨GM,4,none⟩=some (.slice (some ⟨bZ,oZ,none⟩) m.sz.length d1)/\W'.cell? ⟨GP,0,none⟩=some (.int .i64 ga)/\W'.cell? ⟨GP,1,none⟩=some (.int .i64 us)/\W'.cell? ⟨bZ,oZ+ga,none⟩=some (.int .i64 (gi m.sz ga)):=fun W' hb'=>by
       obtain⟨j0,j1,j2,j3,j4,j5,j6⟩:=st7 (hsY.keep hb');obtain⟨i0,i1,i2,i3,i4,i5,i6⟩:=st7 (hVN.keep hb');obtain⟨l0,l1,l2,l3,l4,l5⟩:=mk6 (hMY.keep hb');exact⟨j0,j1,j2,j3,j4,j5,j6,l4,i0,i1,Aq hb' z0⟩
      obtain⟨cut,hcut0⟩:∃c,(Lb s (gi m.sz ga) us).1=c:=⟨_,rfl⟩
      have HCU:=Lib.hid hcut0;clear k0' k1' k2' k3' k4' k5' p0 p1 p2 p3 p4 p5 p6 v0 v1 v2 v3 v4 v5 v6 z0;go_cut [12,13] (fun v12 v13 wx=>v13=.int .i64 0/\OwS wx Y.heap.size v12 cut/\Below Y.heap.size Y wx)
      case first =>
       as_aux_lemma =>
        clear hcut0
        go_region_held3 (fun W'=>W'.cell? ⟨gs,0,none⟩=some (.string s.nm)/\W'.cell? ⟨gs,1,none⟩=some (.slice A1 s.sz.length c1)/\W'.cell? ⟨gs,2,none⟩=some (.slice A2 s.mu.length c2)/\W'.cell? ⟨gs,3,none⟩=some (.slice A3 s.pc.length c3)/\W'.cell? ⟨gs,4,none⟩=some (.slice (some ⟨bU,oU,none⟩) s.us.length c4)/\W'.cell? ⟨gs,5,none⟩=some (.slice A5 s.se.length c5)/\W'.cell? ⟨gs,6,none⟩=some (.slice A6 s.no c6)/\W'.cell? ⟨GM,4,none⟩=some (.slice (some ⟨bZ,oZ,none⟩) m.sz.length d1)/\W'.cell? ⟨GP,0,none⟩=some (.int .i64 ga)/\W'.cell? ⟨GP,1,none⟩=some (.int .i64 us)/\W'.cell? ⟨bZ,oZ+ga,none⟩=some (.int .i64 (gi m.sz ga)))
         (first
          | with_reducible exact KF _ (Ao (Aw (Below.refl _ _)) hb5)
          | with_reducible exact KF _ (Aw (Below.refl _ _))
          | with_reducible exact KF _ (Below.refl _ _))
         ((first
           | (go_at_call 12;refine(pw _ s _ _ _ hsm.1 (hvY.keep (Aw (Below.refl _ _)))).mono ?_;rintro e w5 ⟨v5',rfl,ho5,hb5⟩;rw[HG4.out,HCU.out] at *)))
        all_goals go_wp2_with fail
        all_goals go_meet
        all_goals exact⟨rfl,ho5,Ao (Aw (Below.refl _ _)) hb5⟩
      case rest =>
       obtain⟨rfl,ho,hbV⟩:=hcut;obtain⟨V,hV0⟩:∃V:World,V=wc:=⟨_,rfl⟩
       rw[<-hV0] at ho hbV ⊢;clear hV0;have hbNV:=Ao hbN hbV;rw[hcut0] at g5 g7;obtain⟨A7,c7,rfl,hc7,hS7,-,-⟩:=OwS.els ho;have HRE:=Lib.hid g5;have hcl:cut.length<=1000:=by omega
       obtain⟨gr,hgr⟩:∃g,(pce s.pc pc).gr=g:=⟨_,rfl⟩
       rw[hgr] at g6;have HAL:=Lib.hid g6;have hsV:=hs4.keep hbNV;have hVV:=hVN.keep hbV;have hMV:=hM4.keep hbNV;obtain⟨bL,oL,Ak,ck,rfl,-,row,hck,hSr,hAk⟩:=(hS4.keep hbNV).at_ hqn;rw[HRR.out] at row hck hSr;obtain⟨bC,oC,rfl,vp,hvp,pcc⟩:=(hPc.keep hbNV).at_ g3;obtain⟨bU',oU',eU,u0,-,-⟩:=(hUs.keep hbNV).at_ g2;injection eU with eU
       injection eU with eU1 eU2
       subst eU1 eU2;rw[h3] at u0
       have pgr:V.cell? ⟨bC,oC+pc*7+2,none⟩=some (.int .i64 gr):=by
        obtain⟨_,_,_,_,_,_,_,_,rfl,-⟩:=hvp;rw[<-hgr];exact pcc 2 _ rfl
       have KG:∀W',Below V.heap.size V W'->W'.cell? ⟨gs,3,none⟩=some (.slice (some ⟨bC,oC,none⟩) s.pc.length c3)/\W'.cell? ⟨gs,4,none⟩=some (.slice (some ⟨bU,oU,none⟩) s.us.length c4)/\W'.cell? ⟨GP,1,none⟩=some (.int .i64 us)/\W'.cell? ⟨GP,3,none⟩=some (.bool zfl)/\W'.cell? ⟨GP,4,none⟩=some (.int .i64 zqu)/\W'.cell? ⟨GP,5,none⟩=some (.int .i64 zx)/\W'.cell? ⟨GP,6,none⟩=some (.int .i64 zy)/\W'.cell? ⟨bL,oL+q,none⟩=some (.slice Ak r.length ck)/\W'.cell? ⟨bU,oU+us*3,none⟩=some (.int .i64 pc)/\W'.cell? ⟨bC,oC+pc*7+2,none⟩=some (.int .i64 gr):=fun W' hb'=>by
        obtain⟨j0,j1,j2,j3,j4,j5,j6⟩:=st7 (hsV.keep hb');obtain⟨i0,i1,i2,i3,i4,i5,i6⟩:=st7 (hVV.keep hb');exact⟨j3,j4,i1,i3,i4,i5,i6,Aq hb' row,Aq hb' u0,Aq hb' pgr⟩
       clear g7 hcut0 KF g5 g6 hgr pcc hvp hvY hsY hMY hPY hUY hSY hVN hbV ho row u0 pgr;go_upto_region 16 with fail;go_cut [179] (fun v wx=>v=.bool false/\Below V.heap.size V wx)
       case first =>
        as_aux_lemma =>
         go_region_held3 (fun W'=>W'.cell? ⟨gs,3,none⟩=some (.slice (some ⟨bC,oC,none⟩) s.pc.length c3)/\W'.cell? ⟨gs,4,none⟩=some (.slice (some ⟨bU,oU,none⟩) s.us.length c4)/\W'.cell? ⟨GP,1,none⟩=some (.int .i64 us)/\W'.cell? ⟨GP,3,none⟩=some (.bool zfl)/\W'.cell? ⟨GP,4,none⟩=some (.int .i64 zqu)/\W'.cell? ⟨GP,5,none⟩=some (.int .i64 zx)/\W'.cell? ⟨GP,6,none⟩=some (.int .i64 zy)/\W'.cell? ⟨bL,oL+q,none⟩=some (.slice Ak r.length ck)/\W'.cell? ⟨bU,oU+us*3,none⟩=some (.int .i64 pc)/\W'.cell? ⟨bC,oC+pc*7+2,none⟩=some (.int .i64 gr))
          (first
           | with_reducible exact KG _ (Ao (Ao (Ao (Ao (Aw (Below.refl _ _)) hb6) hb7) hb8) hb9)
           | with_reducible exact KG _ (Ao (Ao (Ao (Aw (Below.refl _ _)) hb6) hb7) hb8)
           | with_reducible exact KG _ (Ao (Ao (Aw (Below.refl _ _)) hb6) hb7)
           | with_reducible exact KG _ (Ao (Aw (Below.refl _ _)) hb6)
           | with_reducible exact KG _ (Aw (Below.refl _ _)))
          ((first
            | (go_at_call 15;refine(Se zfl zqu _ _ _ cut _ (by omega) (hS7.keep (Aw (Below.refl _ _)))).mono ?_;rintro e w6 ⟨v6',rfl,ho6,hb6⟩;obtain⟨A8,c8,rfl,hc8,hS8,-,-⟩:=OwS.els ho6;rw[Fg] at hS8 ⊢)
            | (go_at_call 14;refine(x7 _ _ _ (Fv zfl zqu cut) zx zy _ (by omega) hS8).mono ?_;rintro e w7 ⟨v7',rfl,ho7,hb7⟩;rw[<-HRE.out] at ho7;obtain⟨A9,c9,rfl,hc9,hS9,-,-⟩:=OwS.els ho7)
            | (go_at_call 13;refine(Amm _ _ _ _ _ r _ (by omega) (hSr.keep (Ao (Ao (Aw (Below.refl _ _)) hb6) hb7)) hS9).mono ?_;rintro e w8 ⟨rfl,hb8⟩)
            | (go_at_call 16;refine(Hu _ zfl zfl zqu _).mono ?_;rintro e w9 ⟨rfl,hb9⟩;rw[HAL.out])))
         all_goals go_wp2_with fail
         all_goals go_meet
         all_goals exact⟨rfl,Ao (Ao (Ao (Ao (Aw (Below.refl _ _)) hb6) hb7) hb8) hb9⟩
       case rest =>
        obtain⟨rfl,hbU⟩:=hcut;obtain⟨U,hU⟩:∃U:World,U=wc:=⟨_,rfl⟩
        rw[<-hU] at hbU ⊢;clear hU;have hbNU:=Ao hbNV hbU;obtain⟨-,-,-,-,-,-,-,row,-,-⟩:=KG U hbU;have hSU:=hSr.keep hbU;obtain⟨bR,oR,rfl,-⟩:=hSU.at_ k2;have hMU:=hMV.keep hbU;clear KG hS7 hSr hsV hVV hMV hbU hbNV hbN hc7
        go_upto_region 19 with (go_at_call 17;refine(Ab0 bR oR ck r.length r _ (by omega) hck hSU k1 k2).mono ?_;rintro e w10 ⟨rfl,hb10⟩;rw[f3,f4,f1,f2])
        refine Ar (fun X=>Below w10.heap.size w10 X/\Bb X w10.heap.size 66 #[.int .i64 bx,.int .i64 bY,.int .i64 bw,.int .i64 bh]) ⟨An (Below.refl _ _) _,Bb.new _ _ _⟩ ?_
        rintro X3 ⟨hbX3,hRC⟩;have hbU3:=Ao hb10 hbX3;have hbN3:=Ao hbNU hbU3;obtain⟨r0,r1,r2,r3,-⟩:=hRC.cells4;obtain⟨k0',k1',k2',k3',k4',k5'⟩:=mk6 (hM4.keep hbN3);have HF8:=Lib.hid f8;have M1':¬bx<0:=by omega
        have M2':¬bY<0:=by omega
        have M3':¬wid<bY+bh:=by omega
        have W1:IntKind.i64.wrap (bY+bh)=bY+bh:=by rw[IntKind.wrap_i64];omega
        have W2:IntKind.i64.wrap (bx+bw)=bx+bw:=by rw[IntKind.wrap_i64];omega
        clear f1 f2 f3 f4 f5 f6 f7 f8 f9 f10 f11 f12 row hSU hMU hbNU hb10 hbX3 hbU3;go_upto_region 23 with fail;obtain⟨mx,hmx⟩:∃z,max far (bx+bw)=z:=⟨_,rfl⟩
        rw[hmx];have HMX:=Lib.hid (show Ad9 L (q+1)=mx by rw[HST.out,<-HF8.out,hmx])
        clear hmx r0 r1 r2 r3 k0' k1' k2' k3' k4' k5' W1 W2 M1' M2' M3' hRC N0 N1 N2 N3 N4 N5;go_loopw [16] (fun i wr=>∃j:Nat,j<=q/\i=.int .i64 j/\Below w4.heap.size w4 wr) (fun i _=>q-(intOf i).toNat)
        case atStart=>exact⟨0,Nat.zero_le _,rfl,hbN3⟩
        case round =>
         clear hbN3;obtain⟨j,hj,rfl,hbj⟩:=hrel;obtain⟨wb,hwb⟩:∃wb:World,wb=wr:=⟨_,rfl⟩
         rw[<-hwb] at hbj ⊢;clear hwb;by_cases hjq:j<q
         ·obtain⟨bL2,oL2,Aj,cj,eL,-,rowj,hcj,hSj,-⟩:=(hS4.keep hbj).at_ (show j<n2 by omega)
          injection eL with eL
          injection eL with eL1 eL2
          subst eL1 eL2;obtain⟨bL3,oL3,Aqz,cq,eL,-,rowq,hcq,hSq,-⟩:=(hS4.keep hbj).at_ hqn;injection eL with eL
          injection eL with eL1 eL2
          subst eL1 eL2;rw[HRR.out] at rowq hcq hSq;have hov:=HAPp.out j q hjq hqn;rw[HRR.out] at hov;have HOV:=Lib.hid hov
          have hlj:(lt_ L j).length<=1000:=by
           obtain⟨-,-,-,-,-,-,-,-,-,-,-,-,-,hx⟩:=Amp (HOKp.out j (by omega))
           exact hx
          have B3:(j:Int)<(q:Int):=by omega
          have B4:(j:Int)<(n2:Int):=by omega
          clear hov;go_upto_region 25 with fail;go_cut [17,18] (fun v17 v18 wx=>v17=.bool false/\v18=.int .i64 0/\Below wb.heap.size wb wx)
          case first =>
           as_aux_lemma =>
            have KJ:∀W',Below wb.heap.size wb W'->W'.cell? ⟨bL,oL+j,none⟩=some (.slice Aj (lt_ L j).length cj)/\W'.cell? ⟨bL,oL+q,none⟩=some (.slice Aqz r.length cq):=fun W' hb'=>⟨Aq hb' rowj,Aq hb' rowq⟩
            clear rowj rowq
            go_region_held3 (fun W'=>W'.cell? ⟨bL,oL+j,none⟩=some (.slice Aj (lt_ L j).length cj)/\W'.cell? ⟨bL,oL+q,none⟩=some (.slice Aqz r.length cq))
             (first
              | with_reducible exact KJ _ (Ao (Aw (Below.refl _ _)) hb5)
              | with_reducible exact KJ _ (Aw (Below.refl _ _))
              | with_reducible exact KJ _ (Below.refl _ _))
             ((first
               | (go_at_call 18;refine(Ez Aj Aqz cj cq (lt_ L j).length r.length (lt_ L j) r _ (by omega) (by omega) hcj hcq (hSj.keep (Aw (Below.refl _ _))) (hSq.keep (Aw (Below.refl _ _)))).mono ?_;rintro e w5 ⟨rfl,hb5⟩;rw[HOV.out])))
            all_goals go_wp2_with fail
            all_goals go_meet
            all_goals exact⟨rfl,rfl,Ao (Aw (Below.refl _ _)) hb5⟩
          case rest =>
           obtain⟨rfl,rfl,hbc⟩:=hcut;clear rowj rowq hSj hSq;have hbD:=Ao hbj hbc;go_wp2_with fail;exact⟨⟨j+1,by omega,by go_num,hbD⟩,by simp[intOf];omega⟩
         ·obtain rfl:q=j:=by omega
          clear hjq hj;go_wp2_with fail;exact⟨⟨q+1,by omega,by rw[HMX.out],by go_num,hbj⟩,by simp[intOf];omega⟩
     ·obtain rfl:n2=q:=by omega
      have HFQ:=Lib.hid (show Ad9 L n2=m.len by rw[<-HN2.out];exact HFAR.out)
      rw[HFQ.out];have hsQ:=hs4.keep hbq;have hMQ:=hM4.keep hbq;obtain⟨p0,p1,p2,p3,p4,p5,p6⟩:=st7 hsQ;obtain⟨k0',k1',k2',k3',k4',k5'⟩:=mk6 hMQ;have q1:((m.len:Int) == m.len)=true:=by simp
      clear hqn hq
      go_wp2_with (first
       | (go_at_call 9;refine(HA.out _).mono ?_;rintro e w9 ⟨rfl,hb9⟩)
       | (go_at_call 19;refine(Jb _ s _ m _ hsm.1 (hv4.keep hbq) (hm4.keep hbq) HKO.out (by rw[HN2.out];exact hn2b)).mono ?_;rintro e w8 ⟨rfl,hb8⟩;rw[HCHK.out]))
      go_ret;exact⟨rfl,Ao hbW4 (Ao (Ao hbq hb8) hb9)⟩
end Go.Proofs.YtpbchbcdgikonaaGreat
