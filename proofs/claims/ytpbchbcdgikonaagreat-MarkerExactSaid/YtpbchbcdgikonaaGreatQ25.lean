/- Lean texts of the claim. -/
import Derived.Test.YtpbchbcdgikonaaGreatQ24
namespace Go.Proofs.YtpbchbcdgikonaaGreat
set_option linter.unusedVariables false
set_option linter.unusedSimpArgs false
set_option maxRecDepth 100000
set_option maxHeartbeats 4000000
open Go.RowKit
theorem Akl (w:World):Calls Tryz.prog 231 #[.int .i64 2] w fun e w'=>e=.returned (.tuple #[.int .i64 0,.int .i64 0])/\w=w':=by
 go_enter Tryz.func231,Tryz.ntmps231;go_wp2_with fail
 go_ret2
 exact⟨rfl,rfl⟩
def exV (s:ByteArray):Array Value:=#[.int .i64 2,.bool false,.slice none 0 0,.slice none 0 0,.string s,.slice none 0 0]
theorem I0 {w:World} {g:Nat} {t:TypeId} {s:ByteArray} (h:Bb w g t #[.int .i64 2,.bool false,.slice none 0 0,.slice none 0 0,.string s,.slice none 0 0]) :
 w.cell? ⟨g,0,none⟩=some (.int .i64 2)/\w.cell? ⟨g,1,none⟩=some (.bool false)/\w.cell? ⟨g,2,none⟩=some (.slice none 0 0)/\w.cell? ⟨g,3,none⟩=some (.slice none 0 0)/\w.cell? ⟨g,4,none⟩=some (.string s)/\w.cell? ⟨g,5,none⟩=some (.slice none 0 0) :=
 ⟨(h.cell 0).trans rfl,(h.cell 1).trans rfl,(h.cell 2).trans rfl,(h.cell 3).trans rfl,(h.cell 4).trans rfl,(h.cell 5).trans rfl⟩
theorem Px (s:ByteArray) (w:World):Calls Tryz.prog 232 #[.string s] w fun e w'=>e=.returned (.bool (Dg s))/\Below w.heap.size w w':=by
 cases h:al s with
 | true =>
   have:Dg s=false:=by unfold Dg;rw[h];rfl
   rw[this];exact bj s w h
 | false=>exact Vn s w h
theorem Abw (s:ByteArray) (w:World):Calls Tryz.prog 198 #[.agg (exV s)] w fun e w'=>e=.returned (.bool (Dg s))/\Below w.heap.size w w':=by
 obtain⟨b,hb⟩:∃b,Dg s=b:=⟨_,rfl⟩
 have HB:=Lib.hid hb;rw[hb];clear hb;unfold exV;go_enter Tryz.func198,Tryz.ntmps198;go_upto_region 1 with fail;refine Ar (fun X=>Below w.heap.size w X/\Bb X w.heap.size 230 #[.int .i64 2,.bool false,.slice none 0 0,.slice none 0 0,.string s,.slice none 0 0]) ⟨An (Below.refl _ _) _,Bb.new _ _ _⟩ ?_
 rintro X ⟨hbX,hP⟩;obtain⟨c0,c1,c2,c3,c4,c5⟩:=I0 hP;cases b with
 | false =>
   go_wp2_with (first
    | (go_at_call 232;refine(Px s _).mono ?_;rintro e w2 ⟨rfl,hb2⟩;rw[HB.out])
    | (go_at_call 231;refine(Akl _).mono ?_;rintro e w1 ⟨rfl,rfl⟩))
   go_ret;exact⟨rfl,Ao hbX hb2⟩
 | true =>
   go_wp2_with (first
    | (go_at_call 163;have hz:=hb2;refine(Agf _).mono ?_;rintro e w3 ⟨rfl,hb3⟩)
    | (go_at_call 232;refine(Px s _).mono ?_;rintro e w2 ⟨rfl,hb2⟩;rw[HB.out];obtain⟨d0,d1,d2,d3,d4,d5⟩:=I0 (hP.keep hb2))
    | (go_at_call 231;refine(Akl _).mono ?_;rintro e w1 ⟨rfl,rfl⟩))
   go_ret;exact⟨rfl,Ao (Ao hbX hb2) hb3⟩
theorem Ahr (s:ByteArray) (w:World):Calls Tryz.prog 160 #[.agg (exV s),.int .i64 1] w fun e w'=>e=.returned (.int .i64 (if Dg s then 0 else 1))/\Below w.heap.size w w':=by
 obtain⟨b,hb⟩:∃b,Dg s=b:=⟨_,rfl⟩
 have HB:=Lib.hid hb;rw[hb];clear hb;go_enter Tryz.func160,Tryz.ntmps160;go_upto_region 1 with fail;refine Ar (fun X=>Below w.heap.size w X/\Bb X w.heap.size 230 #[.int .i64 2,.bool false,.slice none 0 0,.slice none 0 0,.string s,.slice none 0 0]) ⟨An (Below.refl _ _) _,Bb.new _ _ _⟩ ?_
 rintro X ⟨hbX,hP⟩;obtain⟨c0,c1,c2,c3,c4,c5⟩:=I0 hP;have HC:Hid (exV s=#[.int .i64 2,.bool false,.slice none 0 0,.slice none 0 0,.string s,.slice none 0 0]):=Lib.hid rfl;cases b with
 | false =>
   go_wp2_with (go_at_call 198;refine(Abw s _).mono ?_;rintro e w1 ⟨rfl,hb1⟩;rw[HB.out])
   go_ret;exact⟨rfl,Ao hbX hb1⟩
 | true =>
   go_upto_region 6 with (go_at_call 198;refine(Abw s _).mono ?_;rintro e w1 ⟨rfl,hb1⟩;rw[HB.out];obtain⟨d0,d1,d2,d3,d4,d5⟩:=I0 (hP.keep hb1))
   go_loopw [6,7,16] (fun _ _ i wr=>i=.int .i64 0/\wr=w1) (fun _ _ _ _=>0)
   case atStart=>exact⟨rfl,rfl⟩
   case round =>
    obtain⟨rfl,rfl⟩:=hrel;go_wp2_with fail;go_ret;exact⟨rfl,Ao hbX hb1⟩
theorem Mx (s:ByteArray) (w:World):Calls Tryz.prog 134 #[.agg (exV s)] w fun e w'=>e=.returned (.int .i64 (if Dg s then 0 else 1))/\Below w.heap.size w w':=by
 obtain⟨b,hb⟩:∃b,(if Dg s then (0:Int) else 1)=b:=⟨_,rfl⟩
 have HB:=Lib.hid hb;rw[hb];clear hb;go_enter Tryz.func134,Tryz.ntmps134;go_upto_region 1 with fail;refine Ar (fun X=>Below w.heap.size w X/\Bb X w.heap.size 230 #[.int .i64 2,.bool false,.slice none 0 0,.slice none 0 0,.string s,.slice none 0 0]) ⟨An (Below.refl _ _) _,Bb.new _ _ _⟩ ?_
 rintro X ⟨hbX,hP⟩;obtain⟨c0,c1,c2,c3,c4,c5⟩:=I0 hP
 go_wp2_with (go_at_call 160;refine(Ahr s _).mono ?_;rintro e w1 ⟨rfl,hb1⟩;rw[HB.out])
 go_ret;exact⟨rfl,Ao hbX hb1⟩
theorem Td (s:ByteArray) (w:World):Calls Tryz.prog 108 #[.string s] w fun e w'=>e=.returned (.bool (Dg s))/\Below w.heap.size w w':=by
 obtain⟨b,hb⟩:∃b,Dg s=b:=⟨_,rfl⟩
 have HB:=Lib.hid (show (if Dg s then (0:Int) else 1)=if b then 0 else 1 by rw[hb])
 rw[hb];clear hb;go_enter Tryz.func108,Tryz.ntmps108;cases b with
 | false =>
   go_wp2_with (go_at_call 134;refine(Mx s _).mono ?_;rintro e w1 ⟨rfl,hb1⟩;rw[HB.out];simp only[Bool.false_eq_true,if_false])
   go_ret;exact⟨rfl,hb1⟩
 | true =>
   go_wp2_with (go_at_call 134;refine(Mx s _).mono ?_;rintro e w1 ⟨rfl,hb1⟩;rw[HB.out];simp only[if_true])
   go_ret;exact⟨rfl,hb1⟩
theorem Fh (s:ByteArray) (w:World):Calls Tryz.prog 103 #[.string s] w fun e w'=>e=.returned (.bool (Dg s))/\Below w.heap.size w w':=by
 obtain⟨b,hb⟩:∃b,Dg s=b:=⟨_,rfl⟩
 have HB:=Lib.hid (show (if Dg s then (0:Int) else 1)=if b then 0 else 1 by rw[hb])
 rw[hb];clear hb;go_enter Tryz.func103,Tryz.ntmps103;cases b with
 | false =>
   go_wp2_with (go_at_call 134;refine(Mx s _).mono ?_;rintro e w1 ⟨rfl,hb1⟩;rw[HB.out];simp only[Bool.false_eq_true,if_false])
   go_ret;exact⟨rfl,hb1⟩
 | true =>
   go_wp2_with (go_at_call 134;refine(Mx s _).mono ?_;rintro e w1 ⟨rfl,hb1⟩;rw[HB.out];simp only[if_true])
   go_ret;exact⟨rfl,hb1⟩
theorem Agm {E:List EdgeP} {n k:Nat} (hn:E.length=n) (h1:¬16<n) (h2:¬n<2) (hk:k<n) (h0:Gk (Ji E) k=0) (h3:Ji E k≠0):Fp E=Ji E k:=by
 unfold Fp;rw[hn,if_neg h1,if_neg h2,Re hk h0 h3,if_pos h3]
theorem Ac7 {E:List EdgeP} {n:Nat} (hn:E.length=n) (h1:¬16<n) (h2:¬n<2) (h0:Gk (Ji E) n=0):Fp E=if Bq (Tc E) n then 11 else Bf (Ck E) (Ck E).length:=by
 unfold Fp;rw[hn,if_neg h1,if_neg h2,if_neg (by rw[h0];simp)]
theorem F4 (A:Option Addr) (cap n:Nat) (E:List EdgeP) (w:World) (hcap:n<=cap) (hn:n<=9223372036854775807) (hE:EdS w A n E) :
 Calls Tryz.prog 71 #[.slice A n cap] w fun e w'=>e=.returned (.int .i64 (Fp E))/\Below w.heap.size w w':=by
 have hEl:=hE.1;by_cases h1:16<n
 ·have HR:=Lib.hid (show Fp E=5 by unfold Fp;rw[hEl,if_pos h1])
  clear hEl;go_enter Tryz.func71,Tryz.ntmps71;go_wp2_with fail;go_ret;exact⟨by rw[HR.out];rfl,Below.refl _ _⟩
 by_cases h2:n<2
 ·have HR:=Lib.hid (show Fp E=11 by unfold Fp;rw[hEl,if_neg h1,if_pos h2])
  clear hEl;go_enter Tryz.func71,Tryz.ntmps71;go_wp2_with fail;go_ret;exact⟨by rw[HR.out];rfl,Below.refl _ _⟩
 have HA:=Lib.hid (fun k hk h0 h3=>Agm (E:=E) (n:=n) (k:=k) hEl h1 h2 hk h0 h3)
 have HZ:=Lib.hid (fun h0=>Ac7 (E:=E) (n:=n) hEl h1 h2 h0)
 have HEL:=Lib.hid hEl;clear hEl;have heq:=Gw;go_enter Tryz.func71,Tryz.ntmps71;go_upto_region 6 with fail;go_loopw [3,4,6,7,19] (fun _ _ _ _ i wr=>∃k:Nat,k<=n/\i=.int .i64 k/\Hid (Gk (Ji E) k=0)/\Below w.heap.size w wr) (fun _ _ _ _ i _=>n-(intOf i).toNat)
 case atStart=>exact⟨0,Nat.zero_le _,rfl,Lib.hid rfl,Below.refl _ _⟩
 case round =>
  obtain⟨k,hk,rfl,hz,hb⟩:=hrel;by_cases hlt:k<n
  ·have hEr:=hE.keep hb
   obtain⟨b,off,rfl,hc⟩:=hEr.at_ hlt;obtain⟨c0,Al,cl,c1,q1,q2,q3⟩:=hc k hlt;have HEA:=Lib.hid (show Ji E k=if Dg (edg E k).nm=false then 1 else if Bq (fun j=>H7 (edg E j).nm (edg E k).nm) k then 7 else plW (edg E k).ln (edg E k).ln.length from rfl)
   have HK:=Lib.hid (HA.out k hlt hz.out);obtain⟨l,hl⟩:∃l,(edg E k).ln=l:=⟨_,rfl⟩
   obtain⟨nm,hnm⟩:∃s,(edg E k).nm=s:=⟨_,rfl⟩
   rw[hl] at c1 q1 q3 HEA;rw[hnm] at c0 HEA;obtain⟨m,hm⟩:∃m,l.length=m:=⟨_,rfl⟩
   rw[hm] at c1 q1 q3 HEA;have HC:=Lib.hid hc;clear hc hl hm hnm;have B1:(k:Int)<(n:Int):=by omega
   cases hnb:Dg nm with
   | false =>
     have HR:=Lib.hid (show Fp E=1 by
      have e:Ji E k=1:=by rw[HEA.out,hnb];rfl
      rw[<-e];exact HK.out (by rw[e];decide))
     have HN:=Lib.hid hnb;clear hnb;go_upto_region 8 with fail;refine Ar (fun X=>Below wr.heap.size wr X/\Bb X wr.heap.size 101 #[.string nm,.slice Al m cl]) ⟨An (Below.refl _ _) _,Bb.new _ _ _⟩ ?_
     rintro X ⟨hbX,hP⟩;have p0:X.cell? ⟨wr.heap.size,0,none⟩=some (.string nm):=(hP.cell 0).trans rfl
     go_wp2_with (go_at_call 108;refine(Td nm _).mono ?_;rintro e w1 ⟨rfl,hb1⟩;rw[HN.out])
     go_ret;exact⟨by rw[HR.out];rfl,Ao (Ao hb hbX) hb1⟩
   | true =>
     have HE2:=Lib.hid (show Ji E k=if Bq (fun j=>H7 (edg E j).nm nm) k then 7 else plW l m by rw[HEA.out,hnb];rfl)
     have HN:=Lib.hid hnb;clear hnb HEA;go_upto_region 8 with fail;refine Ar (fun X=>Below wr.heap.size wr X/\Bb X wr.heap.size 101 #[.string nm,.slice Al m cl]) ⟨An (Below.refl _ _) _,Bb.new _ _ _⟩ ?_
     rintro X ⟨hbX,hP⟩;have p0:X.cell? ⟨wr.heap.size,0,none⟩=some (.string nm):=(hP.cell 0).trans rfl;have S1:(0:Int)<=(k:Int):=by omega
     have S2:(k:Int)<=(cap:Int):=by omega
     go_upto_region 11 with (go_at_call 108;refine(Td nm _).mono ?_;rintro e w1 ⟨rfl,hb1⟩;rw[HN.out])
     have hbA:=Ao hbX hb1;have hP1:=hP.keep hb1;have hE1:=q3.keep hbA;clear p0 S1 S2;go_loopw [6,32] (fun _ i wx=>∃j:Nat,j<=k/\i=.int .i64 j/\Hid (Bq (fun j=>H7 (edg E j).nm nm) j=false)/\Below w1.heap.size w1 wx) (fun _ i _=>k-(intOf i).toNat)
     case atStart=>exact⟨0,Nat.zero_le _,rfl,Lib.hid (Bq.zero _),Below.refl _ _⟩
     case round =>
      obtain⟨j,hj,rfl,hpj,hbx⟩:=hrel;by_cases hjk:j<k
      ·obtain⟨d0,Aj,cj,d1,-,-,-⟩:=HC.out j (by omega)
       have hbB:=Ao hbA hbx;have e0:=Aq hbB d0;have e1:=Aq hbB d1;have f0:=Aq hbx ((hP1.cell 0).trans rfl:_=some (Value.string nm));obtain⟨x,hx⟩:∃x,(edg E j).nm=x:=⟨_,rfl⟩
       have HX:=Lib.hid hx;rw[hx] at e0;clear d0 d1 hx;have S3:(j:Int)<(k:Int):=by omega
       go_upto_region 13 with fail;refine Ar (fun Y=>Below wr.heap.size wr Y/\Bb Y wr.heap.size 101 #[.string x,.slice Aj (edg E j).ln.length cj]) ⟨An (Below.refl _ _) _,Bb.new _ _ _⟩ ?_
       rintro Y ⟨hbY,hPj⟩;have g0:Y.cell? ⟨wr.heap.size,0,none⟩=some (.string x):=(hPj.cell 0).trans rfl;have g1:=Aq hbY f0;obtain⟨bb,hbb⟩:∃bb,(x.toList == nm.toList)=bb:=⟨_,rfl⟩
       have HS:Hid (H7 (edg E j).nm nm=bb):=Lib.hid (by rw[HX.out];exact hbb)
       cases bb with
       | true =>
         have HR:=Lib.hid (show Fp E=7 by
          have e:Ji E k=7:=by rw[HE2.out,if_pos (Bq.yes (f:=fun j=>H7 (edg E j).nm nm) hjk HS.out)]
          rw[<-e];exact HK.out (by rw[e];decide))
         go_wp2_with fail;go_ret;exact⟨by rw[HR.out];rfl,Ao (Ao (Ao hb hbA) hbx) hbY⟩
       | false =>
         have HP:=Bq.succ (f:=fun j=>H7 (edg E j).nm nm) hpj.out HS.out
         go_wp2_with fail;exact⟨⟨j+1,by omega,by go_num,Lib.hid HP,Ao hbx hbY⟩,by simp[intOf];omega⟩
      ·obtain rfl:k=j:=by omega
       have HE3:=Lib.hid (show Ji E k=plW l m by rw[HE2.out,hpj.out];rfl)
       have f1:=Aq hbx ((hP1.cell 1).trans rfl:_=some (Value.slice Al m cl));have hE2:=hE1.keep hbx;have hbB:=Ao hb (Ao hbA hbx);obtain⟨pe,hpe⟩:∃pe,plW l m=pe:=⟨_,rfl⟩
       have HPE:=Lib.hid hpe;rw[hpe] at HE3;clear hpe hjk;by_cases h0:pe=0
       ·subst h0
        have HZ2:=Lib.hid (show Gk (Ji E) (k+1)=0 by rw[Iy hz.out,HE3.out])
        go_wp2_with (go_at_call 109;refine(Hp Al cl m l _ (by omega) hE2).mono ?_;rintro e w3 ⟨rfl,hb3⟩;rw[HPE.out])
        exact⟨⟨k+1,by omega,by go_num,HZ2,Ao hbB hb3⟩,by simp[intOf];omega⟩
       ·have HR:=Lib.hid (show Fp E=pe by rw[<-HE3.out];exact HK.out (by rw[HE3.out];exact h0))
        have h0':(pe != 0)=true:=by simpa using h0
        clear h0
        go_wp2_with (go_at_call 109;refine(Hp Al cl m l _ (by omega) hE2).mono ?_;rintro e w3 ⟨rfl,hb3⟩;rw[HPE.out])
        go_ret;exact⟨by rw[HR.out];rfl,Ao hbB hb3⟩
  ·obtain rfl:n=k:=by omega
   have HO:=Lib.hid (HZ.out hz.out)
   have HPL:=Lib.hid (fun i (hi:i<n)=>by
    have g:=Gj.1 hz.out i hi;unfold Ji at g;split at g
    ·cases g
    ·split at g
     ·cases g
     ·exact Iq g:∀i,i<n->2<=(edg E i).ln.length/\(edg E i).ln.length<=40)
   clear HZ HA;go_upto_region 21 with fail;obtain⟨wa,rfl⟩:∃wa:World,wa=wr:=⟨_,rfl⟩
   go_loopw [8,9,10,51] (fun _ _ _ i wx=>∃k:Nat,k<=n/\i=.int .i64 k/\Hid (Bq (Tc E) k=false)/\Below w.heap.size w wx) (fun _ _ _ i _=>n-(intOf i).toNat)
   case atStart=>exact⟨0,Nat.zero_le _,rfl,Lib.hid (Bq.zero _),hb⟩
   case round =>
    clear hb hz;obtain⟨k,hk,rfl,hp,hb⟩:=hrel;by_cases hlt:k<n
    ·obtain⟨b,off,rfl,hc⟩:=(hE.keep hb).at_ hlt
     have hm1:(k+1) % n<n:=Nat.mod_lt _ (by omega)
     have m1:=(X4 ((k:Int)+1) (k+1) n rfl (by omega)).2
     obtain⟨c0,A1,cl1,c1,q1,q2,q3⟩:=hc k hlt;obtain⟨d0,A2,cl2,d1,r1,r2,r3⟩:=hc ((k+1) % n) hm1;have HOB:=Lib.hid (show Tc E k=!eqS (gt (edg E k).ln ((edg E k).ln.length-1)) (gt (edg E ((k+1) % n)).ln 0) by unfold Tc;rw[HEL.out])
     obtain⟨g1,-⟩:=HPL.out k hlt;obtain⟨g2,-⟩:=HPL.out _ hm1;obtain⟨l1,hl1⟩:∃l,(edg E k).ln=l:=⟨_,rfl⟩
     obtain⟨l2,hl2⟩:∃l,(edg E ((k+1) % n)).ln=l:=⟨_,rfl⟩
     rw[hl1] at c1 q1 q3 g1 HOB;rw[hl2] at d1 r1 r3 g2 HOB;obtain⟨n1,hn1⟩:∃m,l1.length=m:=⟨_,rfl⟩
     obtain⟨n2,hn2⟩:∃m,l2.length=m:=⟨_,rfl⟩
     rw[hn1] at c1 q1 q3 g1 HOB;rw[hn2] at d1 r1 r3 g2;obtain⟨b1,o1,rfl,-,-⟩:=q3.at_ (show 0<n1 by omega)
     obtain⟨b2,o2,rfl,-,-⟩:=r3.at_ (show 0<n2 by omega)
     obtain⟨x1,x2⟩:=q3.cells (show n1-1<n1 by omega)
     obtain⟨y1,y2⟩:=r3.cells (show 0<n2 by omega)
     obtain⟨s1,hs1⟩:∃s,(edg E k).nm=s:=⟨_,rfl⟩
     obtain⟨s2,hs2⟩:∃s,(edg E ((k+1) % n)).nm=s:=⟨_,rfl⟩
     rw[hs1] at c0;rw[hs2] at d0;obtain⟨n1',hn1'⟩:∃m,n1=m+1:=⟨n1-1,by omega⟩
     rw[show n1-1=n1' by omega] at x1 x2 HOB
     have hN1:(n1:Int)-1=(n1':Int):=by omega
     have hN2:n1'<n1:=by omega
     clear hn1';obtain⟨⟨px,py⟩,hpp⟩:∃p,gt l1 n1'=p:=⟨_,rfl⟩
     obtain⟨⟨qx,qy⟩,hqq⟩:∃p,gt l2 0=p:=⟨_,rfl⟩
     rw[hpp] at x1 x2 HOB;rw[hqq] at y1 y2 HOB;have hbl:b<wr.heap.size:=Bj c0;clear hc hl1 hl2 hn1 hn2 hs1 hs2 hpp hqq q3 r3;go_upto_region 24 with fail;refine Ar (fun Y=>Below wr.heap.size wr Y/\Bb Y wr.heap.size 101 #[.string s1,.slice (some ⟨b1,o1,none⟩) n1 cl1]/\Bb Y (wr.heap.size+1) 101 #[.string s2,.slice (some ⟨b2,o2,none⟩) n2 cl2]) ⟨An (An (Below.refl _ _) _) _,Bb.alloc (Bb.new _ _ _) _,Bb.new2 _ _ _ _⟩ ?_
     rintro Y ⟨hbY,hP,hQ⟩;have p1:Y.cell? ⟨wr.heap.size,1,none⟩=some (.slice (some ⟨b1,o1,none⟩) n1 cl1):=(hP.cell 1).trans rfl;have p2:Y.cell? ⟨wr.heap.size+1,1,none⟩=some (.slice (some ⟨b2,o2,none⟩) n2 cl2):=(hQ.cell 1).trans rfl;have X1:=Aq hbY x1;have X2:=Aq hbY x2;have Y1:=Aq hbY y1;have Y2:=Aq hbY y2;clear x1 x2 y1 y2 c0 c1 d0 d1;have W1:IntKind.i64.wrap ((n1:Int)-1)=(n1':Int):=by rw[IntKind.wrap_i64];omega
     have B1:(0:Int)<=(n1':Int):=by omega
     have B2:(n1':Int)<(n1:Int):=by omega
     have B3:(0:Int)<(n2:Int):=by omega
     have y0:o2+0*2=o2:=by omega
     rw[y0] at Y1 Y2
     go_quiet (fail)
     clear W1 B1 B2 B3 y0;obtain⟨bb,hbb⟩:∃bb,(!eqS (px,py) (qx,qy))=bb:=⟨_,rfl⟩
     rw[hbb] at HOB ⊢;clear hbb;cases bb with
     | false =>
       have HP:=Bq.succ (f:=Tc E) hp.out HOB.out;go_wp2_with fail;exact⟨⟨k+1,by omega,by go_num,Lib.hid HP,Bg (Ao hb hbY) _⟩,by simp[intOf];omega⟩
     | true =>
       have HR:=Lib.hid (show Fp E=11 by rw[HO.out,if_pos (Bq.yes (f:=Tc E) hlt HOB.out)])
       go_wp2_with fail;go_ret;exact⟨by rw[HR.out];rfl,Bg (Ao hb hbY) _⟩
    ·obtain rfl:n=k:=by omega
     have HO2:=Lib.hid (show Fp E=Bf (Ck E) (Ck E).length by rw[HO.out,hp.out];rfl)
     have HLN:=Lib.hid (show (Ck E).length<=n*40 by
      have:=Sb (E:=E) (n:=n) (fun i hi=>⟨by have:=(HPL.out i hi).1;omega,(HPL.out i hi).2⟩) (Nat.le_refl n)
      unfold Ck;rw[HEL.out];exact this)
     obtain⟨V,hV⟩:∃V,Ck E=V:=⟨_,rfl⟩
     rw[hV] at HO2 HLN;have HVV:=Lib.hid hV;clear hV
     go_wp2_with (first
      | (go_at_call 33;have hz:=hb3;refine(Cz A3 c3 nv V _ (by omega) hc3 hS3).mono ?_;rintro e w4 ⟨rfl,hb4⟩)
      | (go_at_call 76;refine(Ta _ cap n E _ (by omega) (hE.keep hb) (fun i hi=>⟨by have:=(HPL.out i hi).1;omega,(HPL.out i hi).2⟩)).mono ?_;rintro e w3 ⟨v3,rfl,ho3,hb3⟩;rw[HVV.out] at ho3;obtain⟨A3,c3,rfl,hc3,hS3,-⟩:=ho3.sps;have hln:=HLN.out;obtain⟨nv,hnv⟩:∃nv,V.length=nv:=⟨_,rfl⟩;rw[hnv] at hc3 hS3 hln ho3 HO2 ⊢;clear hnv))
     go_ret;exact⟨by rw[HO2.out];rfl,Ao (Ao hb hb3) hb4⟩
def Aiu (p:Int×Int):Prop := -100000<=p.1/\p.1<=100000 /\ -100000<=p.2/\p.2<=100000
theorem Xy {d a:Int} (h1:0<=d) (h2:d<=40) (h3 : -100000<=a) (h4:a<=100000) : -4000000<=d*a/\d*a<=4000000:=by
 have e1:=Int.mul_le_mul_of_nonneg_left h4 h1;have e2:=Int.mul_le_mul_of_nonneg_left h3 h1;omega
theorem Aba {u s:Int} (hs:1<=s) (h1 : -8000000<=u) (h2:u<=8000000) : -8000000<=G8 u s/\G8 u s<=8000000:=by
 have:=Int.mul_le_mul_of_nonneg_right hs (show (0:Int)<=8000000 by omega)
 exact Ni (M:=8000000) (by omega) (by omega) (by omega) (by omega)
theorem Akd {w:World} {g g' g'':Nat} {t:TypeId} {a b c d e f:Value} (h:Bb w g t #[a,b]) (k:Bb w g' t #[c,d]) (m:Bb w g'' t #[e,f]) :
 w.cell? ⟨g,0,none⟩=some a/\w.cell? ⟨g,1,none⟩=some b/\w.cell? ⟨g',0,none⟩=some c/\w.cell? ⟨g',1,none⟩=some d/\w.cell? ⟨g'',0,none⟩=some e/\w.cell? ⟨g'',1,none⟩=some f :=
 ⟨(h.cell 0).trans rfl,(h.cell 1).trans rfl,(k.cell 0).trans rfl,(k.cell 1).trans rfl,(m.cell 0).trans rfl,(m.cell 1).trans rfl⟩
theorem Bb.farS {w:World} {g k o:Nat} {t:TypeId} {cs:Array Value} (h:Bb w k t cs) (hne:k≠g) (u v:Value):Bb ((w.setCell ⟨g,o,none⟩ u).setCell ⟨g,o+1,none⟩ v) k t cs :=
 (h.far (p:=⟨g,o,none⟩) hne u).far (p:=⟨g,o+1,none⟩) hne v
theorem dc (A:Option Addr) (cap n:Nat) (l:List (Int×Int)) (a b:Int×Int) (w:World) (hs:SpS w A n l) (hp:plW l n=0) (ha:Aiu a) (hb17:Aiu b) :
 Calls Tryz.prog 73 #[.slice A n cap,.agg #[.int .i64 a.1,.int .i64 a.2],.agg #[.int .i64 b.1,.int .i64 b.2]] w (Zk w (Kk l a b)):=by
 obtain⟨hn1,hn2⟩:=Iq hp;have HIN:=Lib.hid (fun k (hk:k<n)=>(S8 hp hk).1)
 have HLE:=Lib.hid hs.1;obtain⟨ax,ay⟩:=a;obtain⟨bx,bY⟩:=b;obtain⟨a1,a2,a3,a4⟩:=ha;obtain⟨b1,b2,b3,b4⟩:=hb17;dsimp only at a1 a2 a3 a4 b1 b2 b3 b4;obtain⟨s,hsn⟩:∃s,s+1=n:=⟨n-1,by omega⟩
 have hN:(n:Int)-1=(s:Int):=by omega
 have hs1:1<=s:=by omega
 have hs2:s<=39:=by omega
 have hsl:s<n:=by omega
 have HMV:=Lib.hid (fun k=>show Xz l (ax,ay) (bx,bY) k=((gt l k).1+G8 (((s:Int)-k)*ax+k*bx) s,(gt l k).2+G8 (((s:Int)-k)*ay+k*bY) s) by unfold Xz;rw[HLE.out,hN])
 obtain⟨Z,hmk,hZ⟩:=He n (by omega)
 clear hsn hp;go_enter Tryz.func73,Tryz.ntmps73;go_upto_region 4 with fail;go_loopw [9,10,19] (fun _ _ i wr=>∃(k:Nat) (z:List (Int×Int)),k<=n/\i=.int .i64 k/\z.length=n/\(∀p,p<k->gt z p=Xz l (ax,ay) (bx,bY) p)/\Bb wr w.heap.size 49 #[.int .i64 ax,.int .i64 ay]/\Bb wr (w.heap.size+1) 49 #[.int .i64 bx,.int .i64 bY]/\OwS wr (w.heap.size+1+1) (.slice (some ⟨w.heap.size+1+1,0,none⟩) n n) z/\Below w.heap.size w wr) (fun _ _ i _=>n-(intOf i).toNat)
 case atStart=>exact⟨0,_,Nat.zero_le _,rfl,List.length_replicate,fun p hp=>absurd hp (Nat.not_lt_zero _),((Bb.new _ _ _).alloc _).alloc _,(Bb.new2 _ _ _ _).alloc _,by have:=hZ ((w.alloc (.cells #[.int .i64 ax,.int .i64 ay] 49)).alloc (.cells #[.int .i64 bx,.int .i64 bY] 49));simpa using this,An (An (An (Below.refl _ _) _) _) _⟩
 case round =>
  clear hmk hZ;obtain⟨k,z,hk,rfl,hz,hp,hA,hB,ho,hb⟩:=hrel;by_cases hlt:k<n
  ·obtain⟨b0,off,rfl,hbl,hc⟩:=(hs.keep hb).at_ hlt
   obtain⟨h1,h2⟩:=hc k hlt;obtain⟨i1,i2,i3,i4⟩:=HIN.out k hlt;have hMV:=HMV.out k;obtain⟨⟨x,y⟩,hxy⟩:∃p,gt l k=p:=⟨_,rfl⟩
   rw[hxy] at h1 h2 i1 i2 i3 i4 hMV;dsimp only at h1 h2 i1 i2 i3 i4 hMV;obtain⟨c1,c2,f1,f2⟩:=ho.cells hz hlt;have hgl:w.heap.size+1+1<wr.heap.size:=Bj c1;have hk2:k<=s:=by omega
   obtain⟨d,hd⟩:∃d:Int,(s:Int)-(k:Int)=d:=⟨_,rfl⟩
   have hd0:0<=d/\d<=40:=by omega
   have m1:=Xy hd0.1 hd0.2 a1 a2;have m2:=Xy (show (0:Int)<=(k:Int) by omega) (by omega) b1 b2
   have m3:=Xy hd0.1 hd0.2 a3 a4;have m4:=Xy (show (0:Int)<=(k:Int) by omega) (by omega) b3 b4
   rw[hd] at hMV;obtain⟨u1,hu1⟩:∃u,d*ax=u:=⟨_,rfl⟩
   obtain⟨u2,hu2⟩:∃u,(k:Int)*bx=u:=⟨_,rfl⟩
   obtain⟨u3,hu3⟩:∃u,d*ay=u:=⟨_,rfl⟩
   obtain⟨u4,hu4⟩:∃u,(k:Int)*bY=u:=⟨_,rfl⟩
   rw[hu1] at m1 hMV;rw[hu2] at m2 hMV;rw[hu3] at m3 hMV;rw[hu4] at m4 hMV;obtain⟨u,hu⟩:∃u,u1+u2=u:=⟨_,rfl⟩
   obtain⟨v,hv⟩:∃u,u3+u4=u:=⟨_,rfl⟩
   rw[hu,hv] at hMV;have r1:=Aba (u:=u) (s:=(s:Int)) (by omega) (by omega) (by omega)
   have r2:=Aba (u:=v) (s:=(s:Int)) (by omega) (by omega) (by omega)
   have hcx:∀w2:World,Calls Tryz.prog 110 #[.int .i64 u,.int .i64 (s:Int)] w2 fun e w'=>e=.returned (.int .i64 (G8 u s))/\Below w2.heap.size w2 w':=fun w2=>Yj u s w2 (by omega) (by omega) (by omega) (by omega)
   have hcy:∀w2:World,Calls Tryz.prog 110 #[.int .i64 v,.int .i64 (s:Int)] w2 fun e w'=>e=.returned (.int .i64 (G8 v s))/\Below w2.heap.size w2 w':=fun w2=>Yj v s w2 (by omega) (by omega) (by omega) (by omega)
   obtain⟨rx,hrx⟩:∃r,G8 u s=r:=⟨_,rfl⟩
   obtain⟨ry,hry⟩:∃r,G8 v s=r:=⟨_,rfl⟩
   rw[hrx] at hcx r1 hMV;rw[hry] at hcy r2 hMV;obtain⟨X',hX'⟩:∃r,x+rx=r:=⟨_,rfl⟩
   obtain⟨Y',hY'⟩:∃r,y+ry=r:=⟨_,rfl⟩
   rw[hX',hY'] at hMV;have HM:=Lib.hid hMV;have W1:IntKind.i64.wrap ((s:Int)-(k:Int))=d:=by rw[hd,IntKind.wrap_i64];omega
   have W2:IntKind.i64.wrap (d*ax)=u1:=by rw[hu1,IntKind.wrap_i64];omega
   have W3:IntKind.i64.wrap ((k:Int)*bx)=u2:=by rw[hu2,IntKind.wrap_i64];omega
   have W4:IntKind.i64.wrap (u1+u2)=u:=by rw[hu,IntKind.wrap_i64];omega
   have W5:IntKind.i64.wrap (d*ay)=u3:=by rw[hu3,IntKind.wrap_i64];omega
   have W6:IntKind.i64.wrap ((k:Int)*bY)=u4:=by rw[hu4,IntKind.wrap_i64];omega
   have W7:IntKind.i64.wrap (u3+u4)=v:=by rw[hv,IntKind.wrap_i64];omega
   have W8:IntKind.i64.wrap (x+rx)=X':=by rw[hX',IntKind.wrap_i64];omega
   have W9:IntKind.i64.wrap (y+ry)=Y':=by rw[hY',IntKind.wrap_i64];omega
   have B1:(0:Int)<=(k:Int):=by omega
   have B2:(k:Int)<(n:Int):=by omega
   clear hc hxy hd hu1 hu2 hu3 hu4 hu hv hrx hry hX' hY' hMV m1 m2 m3 m4 r1 r2 hd0;go_upto_region 6 with fail;refine Ar (fun Y=>Below wr.heap.size wr Y/\Bb Y wr.heap.size 49 #[.int .i64 x,.int .i64 y]) ⟨An (Below.refl _ _) _,Bb.new _ _ _⟩ ?_
   rintro Y ⟨hbY,hV⟩;have hA':=hA.keep hbY;have hB':=hB.keep hbY;have hO':OwS Y (w.heap.size+1+1) (.slice (some ⟨w.heap.size+1+1,0,none⟩) n n) z:=OwG.keep ho hbY;have hnA:w.heap.size≠w.heap.size+1+1:=by omega
   have hnB:w.heap.size+1≠w.heap.size+1+1:=by omega
   have hnV:wr.heap.size≠w.heap.size+1+1:=by omega
   have hbD:=Aw (Below.refl Y.heap.size Y);clear h1 h2 c1 c2 f1 f2 hA hB ho
   go_region_held3 (fun w'=>w'.cell? ⟨wr.heap.size,0,none⟩=some (.int .i64 x)/\w'.cell? ⟨wr.heap.size,1,none⟩=some (.int .i64 y)/\w'.cell? ⟨w.heap.size,0,none⟩=some (.int .i64 ax)/\w'.cell? ⟨w.heap.size,1,none⟩=some (.int .i64 ay)/\w'.cell? ⟨w.heap.size+1,0,none⟩=some (.int .i64 bx)/\w'.cell? ⟨w.heap.size+1,1,none⟩=some (.int .i64 bY))
    (first
     | with_reducible exact Akd (hV.keep hbD) (hA'.keep hbD) (hB'.keep hbD)
     | with_reducible exact Akd ((hV.keep hbD).farS hnV _ _) ((hA'.keep hbD).farS hnA _ _) ((hB'.keep hbD).farS hnB _ _))
    ((first
      | (go_at_call 110;(with_reducible refine(hcx _).mono ?_);rintro e w2 ⟨rfl,hb2⟩;replace hbD:=Ao hbD hb2;obtain⟨z1,z2,z3,z4⟩:=OwS.cells (OwG.keep hO' hbD) hz hlt)
      | (go_at_call 110;(with_reducible refine(hcy _).mono ?_);rintro e w3 ⟨rfl,hb3⟩;replace hbD:=Ao hbD hb3;obtain⟨z1,z2,z3,z4⟩:=OwS.cells (OwG.keep hO' hbD) hz hlt)))
   all_goals clear W1 W2 W3 W4 W5 W6 W7 W8 W9
   all_goals go_wp2_with fail
   all_goals (refine⟨⟨k+1,z.set k (X',Y'),by omega,by go_num,by rw[List.length_set];exact hz,fun p h=>?_,(hA'.keep hbD).farS hnA _ _,(hB'.keep hbD).farS hnB _ _,OwS.store (OwG.keep hO' hbD) hz hlt X' Y',Bc (Bc (Ao hb (Ao hbY hbD)) (p:=⟨w.heap.size+1+1,k*2,none⟩) (by simp;omega) _) (p:=⟨w.heap.size+1+1,k*2+1,none⟩) (by simp;omega) _⟩,by simp[intOf];omega⟩
              rw[Kq (by rw[hz];exact hlt)]
              by_cases h2:k=p
              ·subst h2;rw[if_pos rfl,HM.out]
              ·rw[if_neg h2];exact hp p (by omega))
  ·obtain rfl:n=k:=by omega
   go_wp2_with fail;go_ret;refine⟨_,rfl,?_,hb⟩
   rw[show Kk l (ax,ay) (bx,bY)=z from Fz (by unfold Kk;rw[List.length_map,List.length_range,HLE.out,hz]) (fun p h=>by
    unfold Kk at h;rw[List.length_map,List.length_range,HLE.out] at h;rw[hp p h];unfold Kk gt;rw[List.getD,List.getElem?_map,List.getElem?_range (by rw[HLE.out];exact h)];rfl)]
   exact ho.lower (by omega)
theorem Xx {m a:Int} (h1 : -100<=m) (h2:m<=100) (h3 : -1000<=a) (h4:a<=1000) : -100000<=m*a/\m*a<=100000:=by
 have e1:=Int.mul_nonneg (show 0<=100-m by omega) (show 0<=1000+a by omega)
 have e2:=Int.mul_nonneg (show 0<=100+m by omega) (show 0<=1000-a by omega)
 have e3:=Int.mul_nonneg (show 0<=100-m by omega) (show 0<=1000-a by omega)
 have e4:=Int.mul_nonneg (show 0<=100+m by omega) (show 0<=1000+a by omega)
 simp only[Int.add_mul,Int.sub_mul,Int.mul_add,Int.mul_sub] at e1 e2 e3 e4;omega
theorem mc (A:Option Addr) (cap n k:Nat) (l:List (Int×Int)) (m:Int) (w:World) (hs:SpS w A n l) (h0:0<n) (hn:n<=1000) (hk:k<=1000) (hm1 : -100<=m) (hm2:m<=100) (hsh:∀i,i<n -> -1000<=(gt l i).1/\(gt l i).1<=1000 /\ -1000<=(gt l i).2/\(gt l i).2<=1000) :
 Calls Tryz.prog 72 #[.agg #[.slice A n cap,.int .i64 m],.int .i64 (k:Int)] w fun e w'=>e=.returned (.agg #[.int .i64 (Kv l m k).1,.int .i64 (Kv l m k).2])/\Below w.heap.size w w':=by
 obtain⟨r,hr⟩:∃r,k % n=r:=⟨_,rfl⟩
 have hrn:r<n:=by rw[<-hr];exact Nat.mod_lt _ h0
 have HC:=Lib.hid (show Kv l m k=(m*(gt l r).1,m*(gt l r).2) by unfold Kv;rw[hs.1,hr])
 obtain⟨b0,off,rfl,hbl,hc⟩:=hs.at_ h0;obtain⟨c1,c2⟩:=hc r hrn;obtain⟨i1,i2,i3,i4⟩:=hsh r hrn;obtain⟨⟨x,y⟩,hxy⟩:∃p,gt l r=p:=⟨_,rfl⟩
 rw[hxy] at c1 c2 i1 i2 i3 i4 HC;dsimp only at c1 c2 i1 i2 i3 i4 HC;have m1:=Xx hm1 hm2 i1 i2;have m2:=Xx hm1 hm2 i3 i4;have T1:Int.tmod (k:Int) (n:Int)=(r:Int):=by rw[<-hr,Int.ofNat_tmod]
 have T2:(k:Int) % (n:Int)=(r:Int):=by rw[<-hr];rfl
 have W1:IntKind.i64.wrap (r:Int)=(r:Int):=by rw[IntKind.wrap_i64];omega
 have W2:IntKind.i64.wrap (Int.tmod (k:Int) (n:Int))=(r:Int):=by rw[T1];exact W1
 have B1:(0:Int)<=(r:Int):=by omega
 have B2:(r:Int)<(n:Int):=by omega
 have B3:((n:Int) == 0)=false:=Ah8 h0;have B4:¬(n:Int)=0:=by omega
 have B5:¬n=0:=by omega
 obtain⟨X1,hX1⟩:∃z,m*x=z:=⟨_,rfl⟩
 obtain⟨Y1,hY1⟩:∃z,m*y=z:=⟨_,rfl⟩
 rw[hX1,hY1] at HC;rw[hX1] at m1;rw[hY1] at m2;have V1:IntKind.i64.wrap X1=X1:=by rw[IntKind.wrap_i64];omega
 have V2:IntKind.i64.wrap Y1=Y1:=by rw[IntKind.wrap_i64];omega
 have V3:IntKind.i64.wrap (m*x)=X1:=by rw[hX1];exact V1
 have V4:IntKind.i64.wrap (m*y)=Y1:=by rw[hY1];exact V2
 clear hc hxy hr m1 m2 hs hsh;go_enter Tryz.func72,Tryz.ntmps72;go_upto_region 1 with fail;refine Ar (fun X=>Below w.heap.size w X/\Bb X w.heap.size 152 #[.slice (some ⟨b0,off,none⟩) n cap,.int .i64 m]/\Bb X (w.heap.size+1) 49 #[.int .i64 0,.int .i64 0]) ⟨An (An (Below.refl _ _) _) _,Bb.alloc (Bb.new _ _ _) _,Bb.new2 _ _ _ _⟩ ?_
 rintro X ⟨hbX,hP,hR⟩;have p0:X.cell? ⟨w.heap.size,0,none⟩=some (.slice (some ⟨b0,off,none⟩) n cap):=(hP.cell 0).trans rfl;have p1:X.cell? ⟨w.heap.size,1,none⟩=some (.int .i64 m):=(hP.cell 1).trans rfl;have d1:=Aq hbX c1;have d2:=Aq hbX c2;have hbD:=Aw (Below.refl X.heap.size X);have hbA:=fun o=>Aw (An (Below.refl X.heap.size X) o)
 have hbA2:=fun o=>An hbD o
 go_region_held3 (fun w'=>w'.cell? ⟨w.heap.size,0,none⟩=some (.slice (some ⟨b0,off,none⟩) n cap)/\w'.cell? ⟨w.heap.size,1,none⟩=some (.int .i64 m)/\w'.cell? ⟨b0,off+r*2,none⟩=some (.int .i64 x)/\w'.cell? ⟨b0,off+r*2+1,none⟩=some (.int .i64 y))
  (first
   | with_reducible exact⟨Aq hbD p0,Aq hbD p1,Aq hbD d1,Aq hbD d2⟩
   | with_reducible exact⟨Aq (hbA _) p0,Aq (hbA _) p1,Aq (hbA _) d1,Aq (hbA _) d2⟩
   | with_reducible exact⟨Aq (hbA2 _) p0,Aq (hbA2 _) p1,Aq (hbA2 _) d1,Aq (hbA2 _) d2⟩)
  (fail)
 clear W1 W2 T1 T2;go_upto_region 2 with fail;refine Ar (fun Y=>Below X.heap.size X Y/\Bb Y X.heap.size 49 #[.int .i64 x,.int .i64 y]) ⟨hbA _,Bb.new _ _ _⟩ ?_
 rintro Y ⟨hbY,hV⟩;have q1:=Aq hbY p1;have q2:Y.cell? ⟨X.heap.size,0,none⟩=some (.int .i64 x):=(hV.cell 0).trans rfl;have q3:Y.cell? ⟨X.heap.size,1,none⟩=some (.int .i64 y):=(hV.cell 1).trans rfl;have hR2:=hR.keep hbY;obtain⟨r0,r1,f0,f1,lt⟩:=hR2.pair;obtain⟨s0,s1,-,-,-⟩:=Bb.pair ((hR2.set_ 0 (.int .i64 X1)).set_ 1 (.int .i64 Y1));go_wp2_with fail;exact bodyPost_ret (v:=.agg #[.int .i64 X1,.int .i64 Y1]) (by simp[results,Tryz.results72,go_sem,s0,s1]) rfl ⟨by rw[HC.out],Bc (Bc (Ao hbX hbY) (p:=⟨w.heap.size+1,0,none⟩) (by simp) _) (p:=⟨w.heap.size+1,1,none⟩) (by simp) _⟩
abbrev EdX:=ByteArray×Option Addr×Nat×Nat
def Aeh (x:EdX):List Value:=[.string x.1,.slice x.2.1 x.2.2.1 x.2.2.2]
theorem Rk (x:EdX):(Aeh x).length=2:=rfl
theorem y8 (x:EdX):∀u∈Aeh x,u.oneCell'=true:=by
 intro u hu;simp[Aeh] at hu;rcases hu with rfl|rfl<;>rfl
theorem Ag8:(Tryz.prog.info? 101).map (fun i=>(i.zero,i.size,i.bytes))=some (some (.agg #[.string ⟨#[]⟩,.slice none 0 0]),2,40):=by kernel_rfl
def OwE (w:World) (base:Nat) (v:Value) (E:List EdgeP):Prop :=
 ∃xs:List EdX,OwG 101 2 Aeh w base v xs/\xs.length=E.length/\∀(i:Nat) (x:EdX),xs[i]? = some x->x.1=(edg E i).nm/\ElS w base (.slice x.2.1 x.2.2.1 x.2.2.2) (edg E i).ln/\x.2.2.2<=9223372036854775807
theorem OwE.nil {w:World} {base:Nat}:OwE w base (.slice none 0 0) []:=⟨[],OwG.nil,rfl,by simp⟩
theorem OwE.keep {w w':World} {base:Nat} {v:Value} {E:List EdgeP} (h:OwE w base v E) (hb:Below w.heap.size w w'):OwE w' base v E:=by
 obtain⟨xs,h1,h2,h3⟩:=h;exact⟨xs,h1.keep hb,h2,fun i x hx=>⟨(h3 i x hx).1,(h3 i x hx).2.1.keep hb,(h3 i x hx).2.2⟩⟩
theorem Aei {E:List EdgeP} {e:EdgeP} {i:Nat} (h:i<E.length):edg (E++[e]) i=edg E i:=by
 unfold edg;rw[List.getD,List.getD,List.getElem?_append_left h]
theorem zc {E:List EdgeP} {e:EdgeP}:edg (E++[e]) E.length=e:=by
 unfold edg;simp[List.getD]
theorem OwE.eds {w:World} {base:Nat} {v:Value} {E:List EdgeP} (h:OwE w base v E):∃A c,v=.slice A E.length c/\E.length<=c/\c<=9223372036854775807/\EdS w A E.length E:=by
 obtain⟨xs,h1,h2,h3⟩:=h;rcases OwG.form h1 with ⟨rfl,rfl⟩|⟨g,cap,rfl,g1,g2,g3,g4⟩
 ·have:E=[]:=List.eq_nil_of_length_eq_zero (by rw[<-h2];rfl)
  subst this;exact⟨none,0,rfl,Nat.le_refl _,by omega,rfl,.inl rfl⟩
 ·refine⟨_,cap,by rw[<-h2],by rw[<-h2];exact g3,by unfold maxLen at g4;exact g4,rfl,.inr ⟨g,0,rfl,fun k hk=>?_⟩⟩
  have hkv:k<xs.length:=by rw[h2];exact hk
  obtain⟨x,hx⟩:∃u,xs[k]? = some u:=⟨_,List.getElem?_eq_getElem hkv⟩
  have c0:=OwG.cells h1 (k*2) (by omega)
  have c1:=OwG.cells h1 (k*2+1) (by omega)
  have f0:=Bp Rk xs k 0 x hx (by omega)
  have f1:=Bp Rk xs k 1 x hx (by omega)
  rw[Nat.add_zero] at f0;rw[f0] at c0;rw[f1] at c1;obtain⟨e1,⟨A,c,e2,e3,e4,-,-⟩,e5⟩:=h3 k x hx;obtain⟨s,A',n',c'⟩:=x;dsimp only at e1 e2 e5;injection e2 with q1 q2 q3
  subst q1 q2 q3;rw[Nat.zero_add];exact⟨by rw[<-e1];exact c0,A',c',c1,e3,e5,e4⟩
theorem gn {w:World} {ops:Array Oper} {o:Oper} {a:Act} {K:Act->World->Prop} {Q:Exit->Act->World->Prop} {Z:Prop} (hgd:o.guard=none) (s x:Operand)
 (ho:o.op=.call { callee:=.builtin .append,args:=#[s,x],argTypes:=#[61,61] })
 (base:Nat) (v:Value) (E:List EdgeP) (hs:a.eval s=v) (hown:OwE w base v E)
 (bx c:Nat) (nm:ByteArray) (A:Option Addr) (n cl:Nat) (l:List (Int×Int)) (tb:TypeId) (hx:a.eval x=.slice (some ⟨bx,0,none⟩) 1 c) (hnew:Bb w bx tb #[.string nm,.slice A n cl])
 (hl:ElS w base (.slice A n cl) l) (hcl:cl<=9223372036854775807) (hlen:E.length<=1000000) (hbase:base<=w.heap.size) (H:Nat) (hH:w.heap.size=H)
 (h:∀g cap w',OwE w' base (.slice (some ⟨g,0,none⟩) (E.length+1) cap) (E++[⟨nm,l⟩])->w.grownBy w' v.ownBlock->(v.ownBlock=some g\/g=H)->g<w'.heap.size->(∀k,v.ownBlock=some k->base<=k/\k<w.heap.size)->K (a.put o.dst (.slice (some ⟨g,0,none⟩) (E.length+1) cap)) w') :
 if Region.wanted o (yielded ops a.tmps)=true then Oper.wp Tryz.prog o a w K Q else Z:=by
 obtain⟨xs,h1,h2,h3⟩:=hown;obtain⟨i,hi,hz0,hz1,hz2⟩:=info_parts Ag8;refine step_append_lies (P:=Tryz.prog) w hgd s x 61 ho base 101 i (.agg #[.string ⟨#[]⟩,.slice none 0 0]) 2 40 Tryz.underlying61 hi hz0 hz1 hz2 rfl (by omega) v xs.length (xs.flatMap Aeh) hs h1 ⟨bx,0,none⟩ 1 c (Aeh (nm,A,n,cl)) hx (by rw[Rk]) ?_ (y8 _) (by omega) (by unfold maxLen;omega) (by omega) hbase H hH ?_
 ·intro j u hj
  exact World.news_of_block (w:=w) (B:=bx) (cs:=(Aeh (nm,A,n,cl)).toArray) (t:=tb) (fr:=(0,0)) hnew j u (by simpa using hj)
 ·intro g cap w' ho' hg hat hlt
  rw[h2] at ho';rw[h2];refine h g cap w' ⟨xs++[(nm,A,n,cl)],?_,by simp[h2],fun j y hy=>?_⟩ hg hat hlt h1.lt
  ·unfold OwG
   rw[List.length_append,List.flatMap_append,h2];simpa using ho'
  ·have hrow:∀k cs fr,base<=k->w.heap[k]? = some (.cells cs 49 fr)->some k≠v.ownBlock:=by
    intro k cs fr _ hh e;rcases h1.2 with ⟨ev,_⟩|⟨g',cap',cur,ev,_,hh',_⟩
    ·rw[ev] at e;simp[Value.ownBlock] at e
    ·rw[ev] at e
     have:k=g':=by simpa[Value.ownBlock] using e
     subst this;rw[hh] at hh';injection hh' with hh'
     injection hh' with _ ht
     exact absurd ht (by decide)
   rcases Nat.lt_or_ge j xs.length with q|q
   ·rw[List.getElem?_append_left q] at hy
    rw[Aei (by omega)]
    obtain⟨e1,e2,e3⟩:=h3 j y hy;exact⟨e1,e2.grown hg hrow,e3⟩
   ·rcases Nat.lt_or_ge j (xs.length+1) with q2|q2
    ·obtain rfl:j=xs.length:=by omega
     rw[List.getElem?_append_right (Nat.le_refl _),Nat.sub_self] at hy;simp at hy;subst hy;rw[h2,zc];exact⟨rfl,hl.grown hg hrow,hcl⟩
    ·rw[List.getElem?_eq_none (by simp;omega)] at hy;cases hy
theorem OwE.lower {w:World} {base base':Nat} {v:Value} {E:List EdgeP} (h:OwE w base v E) (hb:base'<=base):OwE w base' v E:=by
 obtain⟨xs,h1,h2,h3⟩:=h;exact⟨xs,h1.lower hb,h2,fun i x hx=>⟨(h3 i x hx).1,(h3 i x hx).2.1.lower hb,(h3 i x hx).2.2⟩⟩
theorem OwE.keepAbove {w w':World} {base:Nat} {v:Value} {E:List EdgeP} (h:OwE w base v E) (hb:∀k,base<=k->w'.heap[k]? = w.heap[k]?):OwE w' base v E:=by
 obtain⟨xs,h1,h2,h3⟩:=h;exact⟨xs,h1.keepAbove fun k hk _=>hb k hk,h2,fun i x hx=>⟨(h3 i x hx).1,(h3 i x hx).2.1.keepAbove fun k cs fr hk _=>hb k hk,(h3 i x hx).2.2⟩⟩
theorem OwE.edsA {w:World} {base c:Nat} {A:Option Addr} {E:List EdgeP} (h:OwE w base (.slice A E.length c) E):EdS w A E.length E:=by
 obtain⟨A',c',e,-,-,h2⟩:=h.eds;injection e with e1
 rw[e1];exact h2
def tg (w:World) (r:List EdgeP×Int) (e:Ending) (w':World):Prop:=∃A c,e=.returned (.tuple #[.slice A r.1.length c,.int .i64 r.2])/\(r.1.length<=c/\OwE w' w.heap.size (.slice A r.1.length c) r.1)/\c<=9223372036854775807/\EdS w' A r.1.length r.1/\Below w.heap.size w w'
theorem tg.none_ {w w':World} {x:Int} (hb:Below w.heap.size w w'):tg w ([],x) (.returned (.tuple #[.slice none 0 0,.int .i64 x])) w':=⟨none,0,rfl,⟨Nat.le_refl _,OwE.nil⟩,by omega,⟨rfl,.inl rfl⟩,hb⟩
end Go.Proofs.YtpbchbcdgikonaaGreat
