/- Lean texts of the claim. -/
import Derived.Test.YtpbchbcdgikonaaGreatQ42
namespace Go.Proofs.YtpbchbcdgikonaaGreat
set_option linter.unusedVariables false
set_option linter.unusedSimpArgs false
set_option maxRecDepth 100000
set_option maxHeartbeats 4000000
open Go.RowKit
def Aar (w:World) (r:Int×List Shp×List PlcP) (e:Ending) (w':World):Prop:=∃v1 v2,e=.returned (.tuple #[v1,v2,.int .i64 r.1])/\Wm w' w.heap.size v1 r.2.1/\R4 w' w.heap.size v2 r.2.2/\Below w.heap.size w w'
theorem Aar.none_ {w w':World} {x:Int} (hb:Below w.heap.size w w'):Aar w (x,[],[]) (.returned (.tuple #[.slice none 0 0,.slice none 0 0,.int .i64 x])) w':=⟨_,_,rfl,Wm.nil,OwG.nil,hb⟩
theorem vi {s:StyleP} {z j:Int} {C:List PlcP} {a:Int×List Shp×List PlcP} {k:Nat} {x:Int} (h:Lj s z j C a k=(x,[],[])) (hx:x≠0):∀m,Lj s z j C a (k+m)=(x,[],[]):=by
 intro m;induction m with
 | zero=>exact h
 | succ m ih=>rw[<-Nat.add_assoc,Lj,if_pos (by rw[ih];exact hx)];exact ih
theorem vg {s:StyleP} {Z:List Int} {C:List PlcP} {j:Nat} {x:Int} (h:Li s Z C j=(x,[],[])) (hx:x≠0):∀m,Li s Z C (j+m)=(x,[],[]):=by
 intro m;induction m with
 | zero=>exact h
 | succ m ih=>rw[<-Nat.add_assoc,Li,if_pos (by rw[ih];exact hx)];exact ih
theorem jw {l:List PlcP} {k:Nat} (h:k<l.length):plc l k∈l:=by rw[Dd h];exact List.getElem_mem h
theorem zl {s:StyleP} (hsm:SmS s) (h:Bt s=0):(Em s).length<=16:=by
 obtain⟨-,k1,-,k2⟩:=Kf h;have:=Oj (U:=s.us) (n:=s.us.length) (fun i hi=>(k2 i hi).2.2.2) s.us.length (Nat.le_refl _)
 have:=hsm.us;unfold Em;rw[if_neg (by rw[h];simp)]
 omega
theorem vh {s:StyleP} {Z:List Int} {z:Int} {C:List PlcP} {j k n:Nat} (hj:j<=6) (hm:C.length<=16) (hk:k<=C.length) (h0:(Li s Z C j).1=0) (h:(Lj s z n C (Li s Z C j) k).1=0) :
 (Lj s z n C (Li s Z C j) k).2.1.length<=1000/\(Lj s z n C (Li s Z C j) k).2.2.length<=1000:=by
 obtain⟨_,_,h3⟩:=Uz k hk h;have h1:=(Uy (s:=s) (Z:=Z) (C:=C) j h0).1;rw[h3,h1];have h4:=Hm s Z C j;have h5:=Hi C j;have h6:j*C.length<=6*16:=Nat.mul_le_mul hj hm;simp only[List.length_append,List.length_map,List.length_take];omega
theorem ShV.lower {w:World} {base base':Nat} {x:ShX} {s:Shp} (h:ShV w base x s) (hb:base'<=base):ShV w base' x s:=⟨h.1,h.2.1,h.2.2.1,h.2.2.2.1,h.2.2.2.2.1.lower hb,h.2.2.2.2.2⟩
theorem ShV.store {w:World} {base B o:Nat} {u:Value} {x:ShX} {s:Shp} (h:ShV w base x s) (hB:B<base):ShV (w.setCell ⟨B,o,none⟩ u) base x s :=
 ⟨h.1,h.2.1,h.2.2.1,h.2.2.2.1,h.2.2.2.2.1.keepAbove (fun k cs fr hk _=>Dq _ _ _ _ (by omega)),h.2.2.2.2.2⟩
theorem Akt (vs:Array Value) (s:StyleP) (A:Option Addr) (n c:Nat) (Z:List Int) (w:World) (hsm:SmS s) (hv:StV w vs s) (h:Bt s≠0) :
 Calls Tryz.prog 24 #[.agg vs,.slice A n c] w (Aar w (Bt s,[],[])):=by
 obtain⟨x,hx⟩:∃x,Bt s=x:=⟨_,rfl⟩
 rw[hx] at h ⊢;have HC:=Lib.hid hx;have hne:(x != 0)=true:=by simpa using h
 clear hx h;obtain⟨A1,c1,A2,c2,A3,c3,A4,c4,A5,c5,A6,c6,rfl,⟨v1,v2,v3⟩,⟨v4,v5,v6⟩,⟨v7,v8,v9⟩,⟨v10,v11,v12⟩,⟨v13,v14,v15⟩,v16,v17⟩:=id hv;go_enter Tryz.func24,Tryz.ntmps24;go_upto_region 1 with fail;refine Ar (fun X=>Below w.heap.size w X/\Bb X w.heap.size 29 #[.string s.nm,.slice A1 s.sz.length c1,.slice A2 s.mu.length c2,.slice A3 s.pc.length c3,.slice A4 s.us.length c4,.slice A5 s.se.length c5,.slice A6 s.no c6]) ⟨An (Below.refl _ _) _,Bb.new _ _ _⟩ ?_
 rintro X ⟨hbX,hP⟩;obtain⟨p0,p1,p2,p3,p4,p5,p6⟩:=st7 hP;have hvX:=hv.keep hbX
 go_wp2_with (go_at_call 42;refine(Dj _ s _ hsm hvX).mono ?_;rintro e w1 ⟨rfl,hb1⟩;rw[HC.out])
 go_ret3
 exact Aar.none_ (Ao hbX hb1)
theorem Aks (vs:Array Value) (s:StyleP) (A:Option Addr) (n c:Nat) (Z:List Int) (w:World) (hn:n<=c) (hcc:c<=9223372036854775807) (hZ:InS w A n Z) (hsm:SmS s) (hv:StV w vs s) (h:Bt s=0) :
 Calls Tryz.prog 24 #[.agg vs,.slice A n c] w (Aar w (Bd s Z)):=by
 have HC:=Lib.hid h;have hzl:=hZ.1
 have HS:=Lib.hid (show Bd s Z=if n<1\/6<n then (3,[],[]) else if Bq (fun i=>decide (gi Z i<0) || decide ((s.sz.length:Int)<=gi Z i)) n then (3,[],[]) else if 60<(Em s).length*n then (5,[],[]) else Li s Z (Em s) n by
  unfold Bd;rw[if_neg (by rw[h];simp),hzl])
 have y1:=hsm.sz;have hcl:=zl hsm h;clear h hzl;obtain⟨A1,c1,A2,c2,A3,c3,A4,c4,A5,c5,A6,c6,rfl,⟨v1,v2,v3⟩,⟨v4,v5,v6⟩,⟨v7,v8,v9⟩,⟨v10,v11,v12⟩,⟨v13,v14,v15⟩,v16,v17⟩:=id hv;go_enter Tryz.func24,Tryz.ntmps24;go_upto_region 1 with fail;refine Ar (fun X=>Below w.heap.size w X/\Bb X w.heap.size 29 #[.string s.nm,.slice A1 s.sz.length c1,.slice A2 s.mu.length c2,.slice A3 s.pc.length c3,.slice A4 s.us.length c4,.slice A5 s.se.length c5,.slice A6 s.no c6]) ⟨An (Below.refl _ _) _,Bb.new _ _ _⟩ ?_
 rintro X ⟨hbX,hP⟩;obtain⟨p0,p1,p2,p3,p4,p5,p6⟩:=st7 hP;have hvX:=hv.keep hbX;have hP0:=hP
 go_upto_region 4 with (go_at_call 42;refine(Dj _ s _ hsm hvX).mono ?_;rintro e w1 ⟨rfl,hb1⟩;rw[HC.out])
 have hP1:=hP.keep hb1;have hv1:=hvX.keep hb1;have hbW:=Ao hbX hb1;have hZ1:=hZ.keep hbW;clear p0 p1 p2 p3 p4 p5 p6 hP hP0 hvX hbX hb1;by_cases h1:n<1
 ·have HR:=Lib.hid (show Bd s Z=(3,[],[]) by rw[HS.out,if_pos (.inl h1)])
  obtain rfl:n=0:=by omega
  go_wp2_with fail
  go_ret3
  rw[HR.out];exact Aar.none_ hbW
 ·by_cases h6:6<n
  ·have HR:=Lib.hid (show Bd s Z=(3,[],[]) by rw[HS.out,if_pos (.inr h6)])
   have B1:((n:Int)<1)=False:=by simp;omega
   have B2:((6:Int)<(n:Int))=True:=by simp;omega
   go_wp2_with fail
   go_ret3
   rw[HR.out];exact Aar.none_ hbW
  ·have HS2:=Lib.hid (show Bd s Z=if Bq (fun i=>decide (gi Z i<0) || decide ((s.sz.length:Int)<=gi Z i)) n then (3,[],[]) else if 60<(Em s).length*n then (5,[],[]) else Li s Z (Em s) n by rw[HS.out,if_neg (by omega)])
   have B1:((n:Int)<1)=False:=by simp;omega
   have B2:((6:Int)<(n:Int))=False:=by simp;omega
   have hn6:n<=6:=by omega
   obtain⟨ns,hns⟩:∃m,s.sz.length=m:=⟨_,rfl⟩
   rw[hns] at hP1 HS2 y1 hv1;have HV1:=Lib.hid hv1;clear HS hns hv1 h1 h6 v1 v3 v6 v9 v12 v15;go_upto_region 7 with fail;clear B1 B2;go_loopw [9,34] (fun _ i wx=>∃k:Nat,k<=n/\i=.int .i64 k/\Hid (Bq (fun i=>decide (gi Z i<0) || decide ((ns:Int)<=gi Z i)) k=false)/\Below w1.heap.size w1 wx) (fun _ i _=>n-(intOf i).toNat)
   case atStart=>exact⟨0,Nat.zero_le _,rfl,Lib.hid rfl,Below.refl _ _⟩
   case round =>
    obtain⟨k,hk,rfl,hA,hb⟩:=hrel;by_cases hlt:k<n
    ·obtain⟨b0,o0,rfl,e0⟩:=(hZ1.keep hb).at_ hlt
     obtain⟨-,p1,-,-,-,-,-⟩:=st7 (hP1.keep hb);have HY:=Lib.hid (fun (h:(decide (gi Z k<0) || decide ((ns:Int)<=gi Z k))=false)=>Bq.succ (f:=fun i=>decide (gi Z i<0) || decide ((ns:Int)<=gi Z i)) hA.out h)
     have HN:=Lib.hid (fun (h:(decide (gi Z k<0) || decide ((ns:Int)<=gi Z k))=true)=>Bq.yes (f:=fun i=>decide (gi Z i<0) || decide ((ns:Int)<=gi Z i)) hlt h)
     obtain⟨z,hz⟩:∃z,gi Z k=z:=⟨_,rfl⟩
     rw[hz] at e0 HY HN;clear hz;have B3:(k:Int)<(n:Int):=by omega
     by_cases hz0:z<0
     ·have HR:=Lib.hid (show Bd s Z=(3,[],[]) by rw[HS2.out,if_pos (HN.out (by simp[hz0]))])
      go_wp2_with fail
      go_ret3
      rw[HR.out];exact Aar.none_ (Ao hbW hb)
     ·obtain⟨z,rfl⟩:∃q:Nat,z=q:=⟨z.toNat,by omega⟩
      by_cases hzn:(ns:Int)<=(z:Int)
      ·have HR:=Lib.hid (show Bd s Z=(3,[],[]) by rw[HS2.out,if_pos (HN.out (by simp;omega))])
       go_wp2_with fail
       go_ret3
       rw[HR.out];exact Aar.none_ (Ao hbW hb)
      ·have HY2:=Lib.hid (HY.out (by simp;omega))
       go_wp2_with fail;exact⟨⟨k+1,by omega,by go_num,HY2,hb⟩,by simp[intOf];omega⟩
    ·obtain rfl:n=k:=by omega
     have HS3:=Lib.hid (show Bd s Z=if 60<(Em s).length*n then (5,[],[]) else Li s Z (Em s) n by rw[HS2.out,if_neg (by rw[hA.out];simp)])
     have hP2:=hP1.keep hb;have hv2:=HV1.out.keep hb;have hZ2:=hZ1.keep hb;have hbR:=Ao hbW hb;obtain⟨C,hC⟩:∃C,Em s=C:=⟨_,rfl⟩
     rw[hC] at HS3 hcl;have HCC:=Lib.hid hC;clear hC HS2 hA hP1 HV1 hZ1 hb;obtain⟨p0,p1,p2,p3,p4,p5,p6⟩:=st7 hP2
     go_upto_region 13 with (go_at_call 27;refine(dp _ s _ hsm hv2).mono ?_;rintro e w3 ⟨vc,rfl,ho3,hb3⟩;rw[HCC.out] at ho3)
     obtain⟨Ac,cc,rfl,hlc,hlm,hPl⟩:=R4.pls ho3;have hP3:=hP2.keep hb3;have hv3:=hv2.keep hb3;have hZ3:=hZ2.keep hb3;have hbS:=Ao hbR hb3;have HLL:=Lib.hid (fun j k (h1:j<=n) (h2:k<=C.length) h3 h4=>vh (s:=s) (Z:=Z) (z:=gi Z j) (C:=C) (j:=j) (k:=k) (n:=j) (by omega) hcl h2 h3 h4)
     obtain⟨m,hm⟩:∃m,C.length=m:=⟨_,rfl⟩
     rw[hm] at hlc hPl HS3 hcl HLL ⊢;have HM:=Lib.hid hm;obtain⟨q,hq⟩:∃q,m*n=q:=⟨_,rfl⟩
     have hq96:q<=16*6:=by rw[<-hq];exact Nat.mul_le_mul hcl hn6
     have W1:IntKind.i64.wrap ((m:Int)*(n:Int))=(q:Int):=by
      rw[show (m:Int)*(n:Int)=(q:Int) by rw[<-hq];exact(Int.natCast_mul m n).symm,IntKind.wrap_i64];omega
     rw[hq] at HS3;clear hP2 hv2 hZ2 hb3 p0 p1 p2 p3 p4 p5 p6 ho3 hm hq hbR;by_cases h60:60<q
     ·have HR:=Lib.hid (show Bd s Z=(5,[],[]) by rw[HS3.out,if_pos h60])
      have B3:((60:Int)<(q:Int))=True:=by simp;omega
      go_wp2_with fail
      go_ret3
      rw[HR.out];exact Aar.none_ hbS
     ·have HS4:=Lib.hid (show Bd s Z=Li s Z C n by rw[HS3.out,if_neg h60])
      have B3:((60:Int)<(q:Int))=False:=by simp;omega
      clear HS3 h60;go_upto_region 18 with fail;clear B3 W1;go_loopw [11,12,13,14,16,17,18,58] (fun v1 v2 _ _ _ _ _ i wx=>∃j:Nat,j<=n/\i=.int .i64 j/\Hid ((Li s Z C j).1=0)/\Wm wx w3.heap.size v1 (Li s Z C j).2.1/\R4 wx w3.heap.size v2 (Li s Z C j).2.2/\Below w3.heap.size w3 wx) (fun _ _ _ _ _ _ _ i _=>n-(intOf i).toNat)
      case atStart=>exact⟨0,Nat.zero_le _,rfl,Lib.hid rfl,Wm.nil,OwG.nil,Below.refl _ _⟩
      case round =>
       obtain⟨j,hj,rfl,hz0,hoS,hoP,hb⟩:=hrel;by_cases hjn:j<n
       ·obtain⟨b0,o0,rfl,e0⟩:=(hZ3.keep hb).at_ hjn
        have HU:=Lib.hid (show Li s Z C (j+1)=Lj s (gi Z j) j C (Li s Z C j) m by rw[Li,if_neg (by rw[hz0.out];simp),HM.out])
        have HL2:=Lib.hid (fun k (h2:k<=m) h4=>HLL.out j k hj h2 hz0.out h4)
        have HBD:=Lib.hid (fun (x:Int) (h:Li s Z C (j+1)=(x,[],[])) (hx:x≠0)=>show Bd s Z=(x,[],[]) by
         rw[HS4.out];have:=vg h hx (n-(j+1));rwa [show j+1+(n-(j+1))=n by omega] at this)
        obtain⟨a,ha⟩:∃a,Li s Z C j=a:=⟨_,rfl⟩
        obtain⟨z,hz⟩:∃z,gi Z j=z:=⟨_,rfl⟩
        rw[ha] at hoS hoP hz0 HU HL2;rw[hz] at e0 HU HL2;clear ha hz;have B4:(j:Int)<(n:Int):=by omega
        obtain⟨wa,rfl⟩:∃wa:World,wa=wr:=⟨_,rfl⟩
        go_upto_region 21 with fail;go_loopw [11,12,16,17,18,65] (fun v1 v2 _ _ _ i wx=>∃k:Nat,k<=m/\i=.int .i64 k/\Hid ((Lj s z j C a k).1=0)/\Wm wx w3.heap.size v1 (Lj s z j C a k).2.1/\R4 wx w3.heap.size v2 (Lj s z j C a k).2.2/\Below w3.heap.size w3 wx) (fun _ _ _ _ _ i _=>m-(intOf i).toNat)
        case atStart=>exact⟨0,Nat.zero_le _,rfl,Lib.hid hz0.out,hoS,hoP,hb⟩
        case round =>
         clear hoS hoP hb e0;obtain⟨k,hk,rfl,hy0,hoS,hoP,hb⟩:=hrel;by_cases hkm:k<m
         ·obtain⟨b1,o1,rfl,hc1⟩:=(hPl.keep hb).at_ hkm
          obtain⟨l0,l1,l2,l3,l4,l5,l6⟩:=hc1 k hkm;have HI:=Lib.hid (show Lj s z j C a (k+1)=if (F8 s z (plc C k)).2≠0 then ((F8 s z (plc C k)).2,[],[]) else (0,(Lj s z j C a k).2.1++[(F8 s z (plc C k)).1],(Lj s z j C a k).2.2++[Ju (plc C k) j]) by rw[Lj,if_neg (by rw[hy0.out];simp)])
          have hlen:=HL2.out k hk hy0.out;have HB2:=Lib.hid (fun (x:Int) (h:Lj s z j C a (k+1)=(x,[],[])) (hx:x≠0)=>HBD.out x (by rw[HU.out];have:=vi h hx (m-(k+1));rwa [show k+1+(m-(k+1))=m by omega] at this) hx)
          obtain⟨S,hS⟩:∃S,(Lj s z j C a k).2.1=S:=⟨_,rfl⟩
          obtain⟨Q,hQ⟩:∃S,(Lj s z j C a k).2.2=S:=⟨_,rfl⟩
          rw[hS] at hoS HI hlen;rw[hQ] at hoP HI hlen;obtain⟨⟨ga,us,cp,fl,qu,cx,cy⟩,hpc⟩:∃c,plc C k=c:=⟨_,rfl⟩
          rw[hpc] at l0 l1 l2 l3 l4 l5 l6 HI;dsimp only at l0 l1 l2 l3 l4 l5 l6;have HSO:=Lib.hid (fun (W:World) (h:StV W #[.string s.nm,.slice A1 ns c1,.slice A2 s.mu.length c2,.slice A3 s.pc.length c3,.slice A4 s.us.length c4,.slice A5 s.se.length c5,.slice A6 s.no c6] s)=>show Calls Tryz.prog 43 #[.agg #[.string s.nm,.slice A1 ns c1,.slice A2 s.mu.length c2,.slice A3 s.pc.length c3,.slice A4 s.us.length c4,.slice A5 s.se.length c5,.slice A6 s.no c6],.int .i64 z,.agg #[.int .i64 ga,.int .i64 us,.int .i64 cp,.bool fl,.int .i64 qu,.int .i64 cx,.int .i64 cy]] W (Aas W (F8 s z ⟨ga,us,cp,fl,qu,cx,cy⟩)) from Ux _ s z ⟨ga,us,cp,fl,qu,cx,cy⟩ W hsm h)
          obtain⟨⟨sh,er⟩,hsh⟩:∃r,F8 s z ⟨ga,us,cp,fl,qu,cx,cy⟩=r:=⟨_,rfl⟩
          rw[hsh] at HI HSO;clear hc1 hS hQ hpc hsh;have B5:(k:Int)<(m:Int):=by omega
          go_upto_region 23 with fail;refine Ar (fun Y=>Below wr.heap.size wr Y/\Bb Y wr.heap.size 51 #[.int .i64 ga,.int .i64 us,.int .i64 cp,.bool fl,.int .i64 qu,.int .i64 cx,.int .i64 cy]) ⟨An (Below.refl _ _) _,Bb.new _ _ _⟩ ?_
          rintro Y ⟨hbY,hK⟩;obtain⟨BP,hBP⟩:∃B,wr.heap.size=B:=⟨_,rfl⟩
          rw[hBP] at hK ⊢;obtain⟨k0,k1,k2,k3,k4,k5,k6⟩:=st7 hK;obtain⟨p0,p1,p2,p3,p4,p5,p6⟩:=st7 ((hP3.keep hb).keep hbY);have hvY:=(hv3.keep hb).keep hbY;have hBPY:=hK.lt;clear l0 l1 l2 l3 l4 l5 l6;by_cases her:er=0
          ·subst her
           have HI2:=Lib.hid (show Lj s z j C a (k+1)=(0,S++[sh],Q++[Ju ⟨ga,us,cp,fl,qu,cx,cy⟩ j]) by rw[HI.out,if_neg (by simp)])
           go_upto_region 26 with (go_at_call 43;refine(HSO.out _ hvY).mono ?_;rintro e w5 ⟨A5',n5,c5',gr5,mt5,ax5,ay5,rfl,hsv5,hb5⟩)
           have hsv6:=hsv5 trivial
           try dsimp only at hsv6
           refine Ar (fun V=>Below w5.heap.size w5 V/\Bb V w5.heap.size 104 #[.slice A5' n5 c5',.int .i64 gr5,.bool mt5,.int .i64 ax5,.int .i64 ay5]) ⟨An (Below.refl _ _) _,Bb.new _ _ _⟩ ?_
           rintro V ⟨hbV,hT⟩;have hBS1:Y.heap.size<=w5.heap.size:=hb5.size;obtain⟨BS,hBS⟩:∃B,w5.heap.size=B:=⟨_,rfl⟩
           rw[hBS] at hT hBS1 ⊢;have hKV:=(hK.keep hb5).keep hbV;have fK:=hKV.frozen 0;have kk0:=(st7 hKV).1;clear k0 k1 k2 k3 k4 k5 k6 p0 p1 p2 p3 p4 p5 p6;go_upto_region 27 with fail;refine Ar (fun U=>Below wr.heap.size wr U/\Bb U BP 51 #[.int .i64 (j:Int),.int .i64 us,.int .i64 cp,.bool fl,.int .i64 qu,.int .i64 cx,.int .i64 cy]/\Bb U BS 104 #[.slice A5' n5 c5',.int .i64 gr5,.bool mt5,.int .i64 ax5,.int .i64 ay5]/\ShV U Y.heap.size ⟨A5',n5,c5',gr5,mt5,ax5,ay5⟩ sh) ⟨Bc (Ao hbY (Ao hb5 hbV)) (p:=⟨BP,0,none⟩) (Nat.le_of_eq hBP) _,hKV.set_ 0 _,hT.far (p:=⟨BP,0,none⟩) (by show BS≠BP;omega) _,(hsv6.keep hbV).store hBPY⟩ ?_
           rintro U ⟨hbU,hKU,hTU,hsU⟩;obtain⟨t0,t1,t2,t3,t4⟩:=sh5 hTU;have hYw:w3.heap.size<=Y.heap.size:=Nat.le_trans hb.size hbY.size;have hob:=An (Below.refl U.heap.size U) (.cells #[.slice A5' n5 c5',.int .i64 gr5,.bool mt5,.int .i64 ax5,.int .i64 ay5] 104);have hoSU:=(Wm.keep hoS hbU).keep hob;have hsUU:=(hsU.lower hYw).keep hob;have hKa:=hKU.keep hob;have hoPa:=OwG.keep (OwG.keep hoP hbU) hob;have hba:=Ao (Ao hb hbU) hob;obtain⟨xsU,hxU⟩:=hoSU.own;clear hK hKV fK kk0 hT hsv5 hsv6 hvY
           go_upto_region 28 with (at_builtin;refine R9 rfl _ _ rfl w3.heap.size _ S rfl hoSU U.heap.size 1 A5' n5 c5' gr5 mt5 ax5 ay5 sh 104 rfl (Bb.new _ _ _) hsUU (by omega) hba.size ?_;intro v7 w7 ho7 hg7 hlo7)
           clear t0 t1 t2 t3 t4;have hK7:=hKa.grown hg7 (OwG.neB hxU hKa (by decide))
           have hoP7:=OwG.kept hoPa hg7 (OwG.apart hoPa hxU (by decide))
           have hb7:=Below.grown hba hg7 hba.size hlo7;obtain⟨k0,k1,k2,k3,k4,k5,k6⟩:=st7 hK7;have hob2:=An (Below.refl w7.heap.size w7) (.cells #[.int .i64 (j:Int),.int .i64 us,.int .i64 cp,.bool fl,.int .i64 qu,.int .i64 cx,.int .i64 cy] 51);have hoP8:=OwG.keep hoP7 hob2;have ho8:=Wm.keep ho7 hob2;have hb8:=Ao hb7 hob2;clear hKa hoPa hba hoSU hxU hob hK7 hKU hTU
           go_upto_region 29 with (at_builtin;refine Ij rfl _ _ rfl w3.heap.size _ Q rfl hoP8 w7.heap.size 1 ⟨(j:Int),us,cp,fl,qu,cx,cy⟩ 51 rfl (Bb.new _ _ _) (by omega) hb8.size ?_;intro v9 w9 ho9 hg9 hat9)
           have hoS9:=Wm.grown ho8 hoP8 (by decide) (by decide) hg9
           have hb9:=Bm hb8 hoP8 hg9;go_wp2_with fail;exact⟨⟨k+1,by omega,by go_num,Lib.hid (by rw[HI2.out]),by rw[HI2.out];exact hoS9,by rw[HI2.out];exact ho9,hb9⟩,by simp[intOf];omega⟩
          ·have hne:(er != 0)=true:=by simpa using her
           have HR:=Lib.hid (HB2.out er (by rw[HI.out,if_pos her]) her)
           clear her
           go_wp2_with (go_at_call 43;refine(HSO.out _ hvY).mono ?_;rintro e w5 ⟨A5',n5,c5',gr5,mt5,ax5,ay5,rfl,hsv5,hb5⟩)
           go_ret3
           rw[HR.out];exact Aar.none_ (An (Ao hbS (Ao hb (Ao hbY hb5))) _)
         ·obtain rfl:m=k:=by omega
          go_wp2_with fail;exact⟨⟨j+1,by omega,by go_num,Lib.hid (by rw[HU.out];exact hy0.out),by rw[HU.out];exact hoS,by rw[HU.out];exact hoP,hb⟩,by simp[intOf];omega⟩
       ·obtain rfl:n=j:=by omega
        go_wp2_with fail
        go_ret3
        have HR:=Lib.hid (show Bd s Z=Li s Z C n from HS4.out)
        exact⟨_,_,by rw[HR.out,hz0.out];rfl,by rw[HR.out];exact hoS.lower hbS.size,by rw[HR.out];exact OwG.lower hoP hbS.size,Ao hbS hb⟩
theorem G6 (vs:Array Value) (s:StyleP) (A:Option Addr) (n c:Nat) (Z:List Int) (w:World) (hn:n<=c) (hcc:c<=9223372036854775807) (hZ:InS w A n Z) (hsm:SmS s) (hv:StV w vs s) :
 Calls Tryz.prog 24 #[.agg vs,.slice A n c] w (Aar w (Bd s Z)):=by
 by_cases h:Bt s=0
 ·exact Aks vs s A n c Z w hn hcc hZ hsm hv h
 ·rw[show Bd s Z=(Bt s,[],[]) by unfold Bd;rw[if_pos h]]
  exact Akt vs s A n c Z w hsm hv h
end Go.Proofs.YtpbchbcdgikonaaGreat
