/- Lean texts of the claim. -/
import Derived.Test.YtpbchbcdgikonaaGreatQ46
namespace Go.Proofs.YtpbchbcdgikonaaGreat
set_option linter.unusedVariables false
set_option linter.unusedSimpArgs false
set_option maxRecDepth 100000
set_option maxHeartbeats 4000000
open Go.RowKit
theorem InS.take {w:World} {A:Option Addr} {n i:Nat} {Z:List Int} (h:InS w A n Z) (hi:i<=n):InS w A i (Z.take i):=by
 refine⟨by rw[List.length_take,h.1];omega,?_⟩
 rcases h.2 with h2|⟨b,off,e,h2⟩
 ·exact .inl (by omega)
 ·exact .inr ⟨b,off,e,fun k hk=>by rw[show gi (Z.take i) k=gi Z k by unfold gi;rw[List.getD,List.getD,List.getElem?_take_of_lt hk]];exact h2 k (by omega)⟩
theorem InS.drop {w:World} {b off n i:Nat} {Z:List Int} (h:InS w (some ⟨b,off,none⟩) n Z) (hi:i<n):InS w (some ⟨b,off+i,none⟩) (n-i) (Z.drop i):=by
 refine⟨by rw[List.length_drop,h.1],.inr ⟨b,off+i,rfl,fun k hk=>?_⟩⟩
 rcases h.2 with h2|⟨b',o',e,h2⟩
 ·omega
 ·injection e with e
  injection e with e1 e2
  subst e1 e2;rw[show gi (Z.drop i) k=gi Z (i+k) by unfold gi;rw[List.getD,List.getD,List.getElem?_drop],show off+i+k=off+(i+k) by omega]
  exact h2 _ (by omega)
theorem Amj (aw:Aih) (v0 v1 v2 v3 v4 v5 v6:Value) (s:StyleP) (b:Bed4) (A:Option Addr) (n c:Nat) (Z:List Int) (kk:Int) (w:World) (hv:StV w #[v0,v1,v2,v3,v4,v5,v6] s) (hn:n<=c) (hcc:c<=9223372036854775807) (hnil:A=none->c=0) (hZ:InS w A n Z) (hmo:0<=kk/\kk<=255) :
 Calls Tryz.prog 6 #[.agg #[v0,v1,v2,v3,v4,v5,v6,.int .i64 b.len,.int .i64 b.wid,.int .i64 b.rx,.int .i64 b.ry,.slice A n c],.int .u8 kk] w fun e w'=>e=.returned (.bool true)/\Below w.heap.size w w':=by
 have HA:=Lib.hid aw;obtain⟨A1,c1,A2,c2,A3,c3,A4,c4,A5,c5,A6,c6,e,-⟩:=id hv;have e:=congrArg Array.toList e;simp at e;obtain⟨rfl,rfl,rfl,rfl,rfl,rfl,rfl⟩:=e;clear e;have HBU:=Lib.hid (fun (W:World) (A:Option Addr) (n c:Nat) (Z:List Int) (hn:n<=c) (hcc:c<=9223372036854775807) (hnil:A=none->c=0) (h1:InS W A n Z) (h2:StV W #[.string s.nm,.slice A1 s.sz.length c1,.slice A2 s.mu.length c2,.slice A3 s.pc.length c3,.slice A4 s.us.length c4,.slice A5 s.se.length c5,.slice A6 s.no c6] s)=>rh #[.string s.nm,.slice A1 s.sz.length c1,.slice A2 s.mu.length c2,.slice A3 s.pc.length c3,.slice A4 s.us.length c4,.slice A5 s.se.length c5,.slice A6 s.no c6] s b A n c Z W hn hcc hnil h1 h2)
 obtain⟨len,wid,rx,ry⟩:=b;unfold Hz at HBU;dsimp only at HBU ⊢;go_enter Tryz.func6,Tryz.ntmps6;go_upto_region 1 with fail;refine Ar (fun X=>Below w.heap.size w X/\Bb X w.heap.size 35 #[.string s.nm,.slice A1 s.sz.length c1,.slice A2 s.mu.length c2,.slice A3 s.pc.length c3,.slice A4 s.us.length c4,.slice A5 s.se.length c5,.slice A6 s.no c6,.int .i64 len,.int .i64 wid,.int .i64 rx,.int .i64 ry,.slice A n c]) ⟨An (Below.refl _ _) _,Bb.new _ _ _⟩ ?_
 rintro X ⟨hbX,hC⟩
 have KF:∀W',Below X.heap.size X W'->W'.cell? ⟨w.heap.size,0,none⟩=some (.string s.nm)/\W'.cell? ⟨w.heap.size,1,none⟩=some (.slice A1 s.sz.length c1)/\W'.cell? ⟨w.heap.size,2,none⟩=some (.slice A2 s.mu.length c2)/\W'.cell? ⟨w.heap.size,3,none⟩=some (.slice A3 s.pc.length c3)/\W'.cell? ⟨w.heap.size,4,none⟩=some (.slice A4 s.us.length c4)/\W'.cell? ⟨w.heap.size,5,none⟩=some (.slice A5 s.se.length c5)/\W'.cell? ⟨w.heap.size,6,none⟩=some (.slice A6 s.no c6)/\W'.cell? ⟨w.heap.size,7,none⟩=some (.int .i64 len)/\W'.cell? ⟨w.heap.size,8,none⟩=some (.int .i64 wid)/\W'.cell? ⟨w.heap.size,9,none⟩=some (.int .i64 rx)/\W'.cell? ⟨w.heap.size,10,none⟩=some (.int .i64 ry)/\W'.cell? ⟨w.heap.size,11,none⟩=some (.slice A n c):=fun W' hb'=>by
  obtain⟨k0,k1,k2,k3,k4,k5,k6,k7,k8,k9,k10,k11⟩:=Akm (hC.keep hb');exact⟨k0,k1,k2,k3,k4,k5,k6,k7,k8,k9,k10,k11⟩
 have hltX:w.heap.size<X.heap.size:=hC.lt;have hC0:=hC;clear hC;go_cut [5,6,7] (fun v5 v6 v7 wx=>∃gs gb,v5=.pointer (some ⟨gs,0,none⟩)/\v6=.pointer (some ⟨gb,0,none⟩)/\v7=.slice A n c/\Bb wx gs 29 #[.string s.nm,.slice A1 s.sz.length c1,.slice A2 s.mu.length c2,.slice A3 s.pc.length c3,.slice A4 s.us.length c4,.slice A5 s.se.length c5,.slice A6 s.no c6]/\Bb wx gb 33 #[.int .i64 len,.int .i64 wid,.int .i64 rx,.int .i64 ry]/\Below X.heap.size X wx)
 case first =>
  go_region_held3 (fun W'=>W'.cell? ⟨w.heap.size,0,none⟩=some (.string s.nm)/\W'.cell? ⟨w.heap.size,1,none⟩=some (.slice A1 s.sz.length c1)/\W'.cell? ⟨w.heap.size,2,none⟩=some (.slice A2 s.mu.length c2)/\W'.cell? ⟨w.heap.size,3,none⟩=some (.slice A3 s.pc.length c3)/\W'.cell? ⟨w.heap.size,4,none⟩=some (.slice A4 s.us.length c4)/\W'.cell? ⟨w.heap.size,5,none⟩=some (.slice A5 s.se.length c5)/\W'.cell? ⟨w.heap.size,6,none⟩=some (.slice A6 s.no c6)/\W'.cell? ⟨w.heap.size,7,none⟩=some (.int .i64 len)/\W'.cell? ⟨w.heap.size,8,none⟩=some (.int .i64 wid)/\W'.cell? ⟨w.heap.size,9,none⟩=some (.int .i64 rx)/\W'.cell? ⟨w.heap.size,10,none⟩=some (.int .i64 ry)/\W'.cell? ⟨w.heap.size,11,none⟩=some (.slice A n c))
   (first
    | with_reducible exact KF _ (Aw (Below.refl _ _))
    | with_reducible exact KF _ (Below.refl _ _)
    | with_reducible exact KF _ (Aw (An (Below.refl _ _) _))
    | with_reducible exact KF _ (An (Below.refl _ _) _)
    | with_reducible exact KF _ (Aw (An (An (Below.refl _ _) _) _))
    | with_reducible exact KF _ (An (An (Below.refl _ _) _) _))
   ((first|fail))
  all_goals go_wp2_with fail
  all_goals go_meet
  all_goals first
   | exact⟨_,_,rfl,rfl,rfl,dk0 _ _ _ _,dk1 _ _ _ _,Aw (An (An (Below.refl _ _) _) _)⟩
   | exact⟨_,_,rfl,rfl,rfl,dk1 _ _ _ _,dk0 _ _ _ _,Aw (An (An (Below.refl _ _) _) _)⟩
 case rest =>
  obtain⟨gs,gb,rfl,rfl,rfl,hs1,hb1,hbc⟩:=hcut;clear KF hC0;have hbW:=Ao hbX hbc;have hvc:=hv.keep hbW;have hZc:=hZ.keep hbW;clear hbX hbc;obtain⟨p0,p1,p2,p3,p4,p5,p6⟩:=st7 hs1;obtain⟨b0',b1',b2',b3',-⟩:=hb1.cells4
  go_upto_region 3 with (go_at_call 8;refine(HBU.out _ A n c Z hn hcc hnil hZc hvc).mono ?_;rintro e w1 ⟨ms,ok,m,rfl,hmk,hbw,hok⟩;replace hmk:=hmk w1 (fun _ _ _=>rfl);obtain⟨M1,d1,M2,d2,rfl,-⟩:=id hmk)
  refine Ar (fun T=>Below w1.heap.size w1 T/\Bb T w1.heap.size 38 #[.int .i64 m.len,.int .i64 m.wid,.int .i64 m.rx,.int .i64 m.ry,.slice M1 m.sz.length d1,.slice M2 m.pl.length d2]) ⟨An (Below.refl _ _) _,Bb.new _ _ _⟩ ?_
  rintro T ⟨hbT,hM⟩;obtain⟨GM,hGM⟩:∃g,w1.heap.size=g:=⟨_,rfl⟩
  have hbcT:=Ao hbw hbT;have hmT:=hmk.keep hbT;rw[hGM] at hM ⊢;have hsT:=hs1.keep hbcT;have hbT2:=hb1.keep hbcT;have hvT:=hvc.keep hbcT;have hZT:=hZc.keep hbcT;have hbWT:=Ao hbW hbcT;clear hGM hbT hbw hmk hs1 hb1 hvc hbW hbcT p0 p1 p2 p3 p4 p5 p6 b0' b1' b2' b3';cases ok with
  | false =>
    go_wp2_with (go_at_call 9;refine(HA.out _).mono ?_;rintro e w9 ⟨rfl,hb9⟩)
    go_ret;exact⟨rfl,Ao hbWT hb9⟩
  | true =>
    by_cases h2:n<2
    ·have hx:decide ((n:Int)<2)=true:=by simp;omega
     clear h2
     go_wp2_with (go_at_call 9;refine(HA.out _).mono ?_;rintro e w9 ⟨rfl,hb9⟩)
     go_ret;exact⟨rfl,Ao hbWT hb9⟩
    ·have hx:decide ((n:Int)<2)=false:=by simp;omega
     obtain⟨r,hr⟩:∃r:Nat,kk % ((n:Int)-1)=r:=⟨(kk % ((n:Int)-1)).toNat,by have:=Int.emod_nonneg kk (b:=(n:Int)-1) (by omega);omega⟩
     have hrn:r+1<n:=by have:=Int.emod_lt_of_pos kk (b:=(n:Int)-1) (by omega);omega
     obtain⟨hsm,hbw,hmm⟩:=hok rfl;obtain⟨b0,o0,rfl,-⟩:=hZT.at_ (show 0<n by omega)
     obtain⟨i,hi⟩:∃i,r+1=i:=⟨_,rfl⟩
     have hI:(1:Int)+(r:Int)=(i:Int):=by omega
     have hin:i<n:=by omega
     have T2:kk % ((n:Int)-1)=(r:Int):=hr;have T1:Int.tmod kk ((n:Int)-1)=(r:Int):=by rw[Int.tmod_eq_emod_of_nonneg hmo.1];exact hr
     have hz0:¬((n:Int)-1=0):=by omega
     have hz1:=hZT.take (i:=i) (by omega)
     have hz2:=hZT.drop (i:=i) hin;have ha1:i<=c:=by omega
     have ha2:n-i<=c-i:=by omega
     have ha4:c-i<=9223372036854775807:=by omega
     have ha3:some (⟨b0,o0,none⟩:Addr)=none->c=0:=fun h=>by cases h
     have ha5:some (⟨b0,o0+i,none⟩:Addr)=none->c-i=0:=fun h=>by cases h
     have hZ1:=hz1
     have KF:∀W',Below T.heap.size T W'->W'.cell? ⟨gs,0,none⟩=some (.string s.nm)/\W'.cell? ⟨gs,1,none⟩=some (.slice A1 s.sz.length c1)/\W'.cell? ⟨gs,2,none⟩=some (.slice A2 s.mu.length c2)/\W'.cell? ⟨gs,3,none⟩=some (.slice A3 s.pc.length c3)/\W'.cell? ⟨gs,4,none⟩=some (.slice A4 s.us.length c4)/\W'.cell? ⟨gs,5,none⟩=some (.slice A5 s.se.length c5)/\W'.cell? ⟨gs,6,none⟩=some (.slice A6 s.no c6)/\W'.cell? ⟨gb,0,none⟩=some (.int .i64 len)/\W'.cell? ⟨gb,1,none⟩=some (.int .i64 wid)/\W'.cell? ⟨gb,2,none⟩=some (.int .i64 rx)/\W'.cell? ⟨gb,3,none⟩=some (.int .i64 ry):=fun W' hb'=>by
      obtain⟨k0,k1,k2,k3,k4,k5,k6⟩:=st7 (hsT.keep hb');obtain⟨j0,j1,j2,j3,-⟩:=(hbT2.keep hb').cells4;exact⟨k0,k1,k2,k3,k4,k5,k6,j0,j1,j2,j3⟩
     have HKF:=Lib.hid KF;clear KF;clear hi hr hrn h2 hok hn hnil hZ hv;go_upto_region 6 with fail;clear T1 T2 hz0 hI hx hmo;have B1:(i:Int)<=(c:Int):=by omega
     have hbDA:=Aw (Below.refl T.heap.size T);have hbDB:=Aw (An (Below.refl T.heap.size T) (.cells #[.int .i64 0,.int .i64 0,.int .i64 0,.int .i64 0,.slice none 0 0,.slice none 0 0] 38));have hZA:=hz1.keep hbDA;have hvA:=hvT.keep hbDA;have hZB:=hz1.keep hbDB;have hvB:=hvT.keep hbDB;go_cut [11,12] (fun vp vk wx=>∃g ok2 m2 N1 e1 N2 e2,vp=.pointer (some ⟨g,0,none⟩)/\vk=.bool ok2/\Bb wx g 38 #[.int .i64 m2.len,.int .i64 m2.wid,.int .i64 m2.rx,.int .i64 m2.ry,.slice N1 m2.sz.length e1,.slice N2 m2.pl.length e2]/\MkV wx #[.int .i64 m2.len,.int .i64 m2.wid,.int .i64 m2.rx,.int .i64 m2.ry,.slice N1 m2.sz.length e1,.slice N2 m2.pl.length e2] m2/\(ok2=true->(Bz s ⟨len,wid,rx,ry⟩ (Z.take i)).1=0/\m2=(Bz s ⟨len,wid,rx,ry⟩ (Z.take i)).2)/\Below T.heap.size T wx)
     case first =>
      go_region_held3 (fun W'=>W'.cell? ⟨gs,0,none⟩=some (.string s.nm)/\W'.cell? ⟨gs,1,none⟩=some (.slice A1 s.sz.length c1)/\W'.cell? ⟨gs,2,none⟩=some (.slice A2 s.mu.length c2)/\W'.cell? ⟨gs,3,none⟩=some (.slice A3 s.pc.length c3)/\W'.cell? ⟨gs,4,none⟩=some (.slice A4 s.us.length c4)/\W'.cell? ⟨gs,5,none⟩=some (.slice A5 s.se.length c5)/\W'.cell? ⟨gs,6,none⟩=some (.slice A6 s.no c6)/\W'.cell? ⟨gb,0,none⟩=some (.int .i64 len)/\W'.cell? ⟨gb,1,none⟩=some (.int .i64 wid)/\W'.cell? ⟨gb,2,none⟩=some (.int .i64 rx)/\W'.cell? ⟨gb,3,none⟩=some (.int .i64 ry))
       (first
        | with_reducible exact HS9.out _ _ _ _ _ _
        | with_reducible exact HKF.out _ (Aw (Below.refl _ _))
        | with_reducible exact HKF.out _ (Below.refl _ _)
        | with_reducible exact HKF.out _ (Aw (An (Below.refl _ _) _))
        | with_reducible exact HKF.out _ (An (Below.refl _ _) _)
        | with_reducible exact HKF.out _ (Ao (Aw (Below.refl _ _)) hb2)
        | with_reducible exact HKF.out _ (Ao (Aw (An (Below.refl _ _) _)) hb2)
        | with_reducible exact HKF.out _ (An (Ao (Aw (Below.refl _ _)) hb2) _))
       ((first
         | (go_at_call 8;(with_reducible refine(HBU.out _ (some ⟨b0,o0,none⟩) i c (Z.take i) ha1 hcc ha3 hZA hvA).mono ?_);rintro e w2 ⟨ms2,ok2,m2,rfl,hmk2,hb2,hok2⟩;obtain⟨K1,k1,K2,k2,rfl,-⟩:=id (hmk2 w2 (fun _ _ _=>rfl)))
         | (go_at_call 8;(with_reducible refine(HBU.out _ (some ⟨b0,o0,none⟩) i c (Z.take i) ha1 hcc ha3 hZB hvB).mono ?_);rintro e w2 ⟨ms2,ok2,m2,rfl,hmk2,hb2,hok2⟩;obtain⟨K1,k1,K2,k2,rfl,-⟩:=id (hmk2 w2 (fun _ _ _=>rfl));have kB:=Bb.keep (Bb.drew (Bb.new T 38 #[.int .i64 0,.int .i64 0,.int .i64 0,.int .i64 0,.slice none 0 0,.slice none 0 0])) hb2;obtain⟨z0,z1,z2,z3,z4,z5⟩:=mk6 kB;have y0:=kB.frozen 0;have y1:=kB.frozen 1;have y2:=kB.frozen 2;have y3:=kB.frozen 3;have y4:=kB.frozen 4;have y5:=kB.frozen 5;have HS9:=Lib.hid (fun u0 u1 u2 u3 u4 u5=>HKF.out _ (Afe (Ao hbDB hb2) (Nat.le_refl _) u0 u1 u2 u3 u4 u5)))))
      all_goals go_wp2_with fail
      all_goals go_meet
      all_goals first
       | exact⟨_,ok2,m2,K1,k1,K2,k2,rfl,rfl,(((((kB.set_ 0 _).set_ 1 _).set_ 2 _).set_ 3 _).set_ 4 _).set_ 5 _,hmk2 _ (fun k hk _=>Amk (by simp at hk;omega) _ _ _ _ _ _),fun h=>(hok2 h).2,Afe (Ao hbDB hb2) (Nat.le_refl _) _ _ _ _ _ _⟩
       | exact⟨_,ok2,m2,K1,k1,K2,k2,rfl,rfl,Bb.new _ _ _,(hmk2 _ (fun k _ hk=>Below.heap_alloc _ _ _ hk)),fun h=>(hok2 h).2,An (Ao (Aw (Below.refl _ _)) hb2) _⟩
     case rest =>
      obtain⟨gA,okA,mA,N1,e1,N2,e2,rfl,rfl,hA,hmA,hokA,hbU⟩:=hcut;obtain⟨U,hU⟩:∃U:World,U=wc:=⟨_,rfl⟩
      rw[<-hU] at hA hmA hbU ⊢;clear hU;have hsU:=hsT.keep hbU;have hbU2:=hbT2.keep hbU;have hvU:=hvT.keep hbU;have hz2U:=hz2.keep hbU;have hMU:=hM.keep hbU;have hmU:=hmT.keep hbU;have hbWU:=Ao hbWT hbU;clear hbDA hbDB hZA hvA hZB hvB HKF hsT hbT2 hvT hz1 hz2 hM hmT hbWT hbU hZT
      have KF:∀W',Below U.heap.size U W'->W'.cell? ⟨gs,0,none⟩=some (.string s.nm)/\W'.cell? ⟨gs,1,none⟩=some (.slice A1 s.sz.length c1)/\W'.cell? ⟨gs,2,none⟩=some (.slice A2 s.mu.length c2)/\W'.cell? ⟨gs,3,none⟩=some (.slice A3 s.pc.length c3)/\W'.cell? ⟨gs,4,none⟩=some (.slice A4 s.us.length c4)/\W'.cell? ⟨gs,5,none⟩=some (.slice A5 s.se.length c5)/\W'.cell? ⟨gs,6,none⟩=some (.slice A6 s.no c6)/\W'.cell? ⟨gb,0,none⟩=some (.int .i64 len)/\W'.cell? ⟨gb,1,none⟩=some (.int .i64 wid)/\W'.cell? ⟨gb,2,none⟩=some (.int .i64 rx)/\W'.cell? ⟨gb,3,none⟩=some (.int .i64 ry):=fun W' hb'=>by
       obtain⟨k0,k1,k2,k3,k4,k5,k6⟩:=st7 (hsU.keep hb');obtain⟨j0,j1,j2,j3,-⟩:=(hbU2.keep hb').cells4;exact⟨k0,k1,k2,k3,k4,k5,k6,j0,j1,j2,j3⟩
      have HKF:=Lib.hid KF;clear KF;have B2:(i:Int)<(c:Int):=by omega
      have B3:(i:Int)<=(n:Int):=by omega
      have hci:¬c=i:=by omega
      go_upto_region 7 with fail;have hbDA:=Aw (Below.refl U.heap.size U);have hbDB:=Aw (An (Below.refl U.heap.size U) (.cells #[.int .i64 0,.int .i64 0,.int .i64 0,.int .i64 0,.slice none 0 0,.slice none 0 0] 38));have hZA:=hz2U.keep hbDA;have hvA:=hvU.keep hbDA;have hZB:=hz2U.keep hbDB;have hvB:=hvU.keep hbDB;go_cut [13,14] (fun vp vk wx=>∃g ok2 m2 N1 e1 N2 e2,vp=.pointer (some ⟨g,0,none⟩)/\vk=.bool ok2/\Bb wx g 38 #[.int .i64 m2.len,.int .i64 m2.wid,.int .i64 m2.rx,.int .i64 m2.ry,.slice N1 m2.sz.length e1,.slice N2 m2.pl.length e2]/\MkV wx #[.int .i64 m2.len,.int .i64 m2.wid,.int .i64 m2.rx,.int .i64 m2.ry,.slice N1 m2.sz.length e1,.slice N2 m2.pl.length e2] m2/\(ok2=true->(Bz s ⟨len,wid,rx,ry⟩ (Z.drop i)).1=0/\m2=(Bz s ⟨len,wid,rx,ry⟩ (Z.drop i)).2)/\Below U.heap.size U wx)
      case first =>
       go_region_held3 (fun W'=>W'.cell? ⟨gs,0,none⟩=some (.string s.nm)/\W'.cell? ⟨gs,1,none⟩=some (.slice A1 s.sz.length c1)/\W'.cell? ⟨gs,2,none⟩=some (.slice A2 s.mu.length c2)/\W'.cell? ⟨gs,3,none⟩=some (.slice A3 s.pc.length c3)/\W'.cell? ⟨gs,4,none⟩=some (.slice A4 s.us.length c4)/\W'.cell? ⟨gs,5,none⟩=some (.slice A5 s.se.length c5)/\W'.cell? ⟨gs,6,none⟩=some (.slice A6 s.no c6)/\W'.cell? ⟨gb,0,none⟩=some (.int .i64 len)/\W'.cell? ⟨gb,1,none⟩=some (.int .i64 wid)/\W'.cell? ⟨gb,2,none⟩=some (.int .i64 rx)/\W'.cell? ⟨gb,3,none⟩=some (.int .i64 ry))
        (first
         | with_reducible exact HS9.out _ _ _ _ _ _
         | with_reducible exact HKF.out _ (Aw (Below.refl _ _))
         | with_reducible exact HKF.out _ (Below.refl _ _)
         | with_reducible exact HKF.out _ (Aw (An (Below.refl _ _) _))
         | with_reducible exact HKF.out _ (An (Below.refl _ _) _)
         | with_reducible exact HKF.out _ (Ao (Aw (Below.refl _ _)) hb2)
         | with_reducible exact HKF.out _ (Ao (Aw (An (Below.refl _ _) _)) hb2)
         | with_reducible exact HKF.out _ (An (Ao (Aw (Below.refl _ _)) hb2) _))
        ((first
          | (go_at_call 8;(with_reducible refine(HBU.out _ (some ⟨b0,o0+i,none⟩) (n-i) (c-i) (Z.drop i) ha2 ha4 ha5 hZA hvA).mono ?_);rintro e w2 ⟨ms2,ok2,m2,rfl,hmk2,hb2,hok2⟩;obtain⟨K1,k1,K2,k2,rfl,-⟩:=id (hmk2 w2 (fun _ _ _=>rfl)))
          | (go_at_call 8;(with_reducible refine(HBU.out _ (some ⟨b0,o0+i,none⟩) (n-i) (c-i) (Z.drop i) ha2 ha4 ha5 hZB hvB).mono ?_);rintro e w2 ⟨ms2,ok2,m2,rfl,hmk2,hb2,hok2⟩;obtain⟨K1,k1,K2,k2,rfl,-⟩:=id (hmk2 w2 (fun _ _ _=>rfl));have kB:=Bb.keep (Bb.drew (Bb.new U 38 #[.int .i64 0,.int .i64 0,.int .i64 0,.int .i64 0,.slice none 0 0,.slice none 0 0])) hb2;obtain⟨z0,z1,z2,z3,z4,z5⟩:=mk6 kB;have y0:=kB.frozen 0;have y1:=kB.frozen 1;have y2:=kB.frozen 2;have y3:=kB.frozen 3;have y4:=kB.frozen 4;have y5:=kB.frozen 5;have HS9:=Lib.hid (fun u0 u1 u2 u3 u4 u5=>HKF.out _ (Afe (Ao hbDB hb2) (Nat.le_refl _) u0 u1 u2 u3 u4 u5)))))
       all_goals go_wp2_with fail
       all_goals go_meet
       all_goals first
        | exact⟨_,ok2,m2,K1,k1,K2,k2,rfl,rfl,(((((kB.set_ 0 _).set_ 1 _).set_ 2 _).set_ 3 _).set_ 4 _).set_ 5 _,hmk2 _ (fun k hk _=>Amk (by simp at hk;omega) _ _ _ _ _ _),fun h=>(hok2 h).2,Afe (Ao hbDB hb2) (Nat.le_refl _) _ _ _ _ _ _⟩
        | exact⟨_,ok2,m2,K1,k1,K2,k2,rfl,rfl,Bb.new _ _ _,(hmk2 _ (fun k _ hk=>Below.heap_alloc _ _ _ hk)),fun h=>(hok2 h).2,An (Ao (Aw (Below.refl _ _)) hb2) _⟩
      case rest =>
       obtain⟨gB,okB,mB,L1,f1,L2,f2,rfl,rfl,hB,hmB,hokB,hbV⟩:=hcut;have hsV:=hsU.keep hbV;have hMV:=hMU.keep hbV;have hmV:=hmU.keep hbV;have hAV:=hA.keep hbV;have hmAV:=hmA.keep hbV;have hvV:=hvU.keep hbV;have hbWV:=Ao hbWU hbV;clear hbDA hbDB hZA hvA hZB hvB HKF hsU hbU2 hvU hMU hmU hA hmA hbWU hbV hz2U HBU;cases okA with
       | false =>
         go_wp2_with (go_at_call 9;refine(HA.out _).mono ?_;rintro e w9 ⟨rfl,hb9⟩)
         go_ret;exact⟨rfl,Ao hbWV hb9⟩
       | true =>
         cases okB with
         | false =>
           go_wp2_with (go_at_call 9;refine(HA.out _).mono ?_;rintro e w9 ⟨rfl,hb9⟩)
           go_ret;exact⟨rfl,Ao hbWV hb9⟩
         | true =>
           obtain⟨hbA,hmA⟩:=hokA rfl;obtain⟨hbB,hmB2⟩:=hokB rfl;obtain⟨u0,u1,u2⟩:=(Lf hbw).2;obtain⟨uA,uA1,uA2⟩:=(Lf hbA).2;obtain⟨uB,uB1,uB2⟩:=(Lf hbB).2;obtain⟨ko,k60⟩:=ri hbw;obtain⟨koA,kA60⟩:=ri hbA;obtain⟨koB,kB60⟩:=ri hbB;rw[<-hmm] at u0 ko k60;rw[<-hmA] at uA koA kA60;rw[<-hmB2] at uB koB kB60;have hsum:(Z.map (Abv s (Em s))).sum=((Z.take i).map (Abv s (Em s))).sum+((Z.drop i).map (Abv s (Em s))).sum:=by rw[<-List.sum_append,<-List.map_append,List.take_append_drop]
           obtain⟨x0,hx0⟩:∃x,(Z.map (Abv s (Em s))).sum=x:=⟨_,rfl⟩
           obtain⟨xA,hxA⟩:∃x,((Z.take i).map (Abv s (Em s))).sum=x:=⟨_,rfl⟩
           obtain⟨xB,hxB⟩:∃x,((Z.drop i).map (Abv s (Em s))).sum=x:=⟨_,rfl⟩
           rw[hx0] at u0 u1 u2 hsum;rw[hxA] at uA uA1 uA2 hsum;rw[hxB] at uB uB1 uB2 hsum;have H0:=Lib.hid u0;have H1:=Lib.hid uA;have H2:=Lib.hid uB;have hl0:=Lib.hid (show m.pl.length<=1000 by omega)
           have hlA:=Lib.hid (show mA.pl.length<=1000 by omega)
           have hlB:=Lib.hid (show mB.pl.length<=1000 by omega)
           have HKO:=Lib.hid ko;have HKA:=Lib.hid koA;have HKB:=Lib.hid koB;clear hx0 hxA hxB u0 uA uB hokA hokB hmm hmA hmB2 hbw hbA hbB ko koA koB k60 kA60 kB60;obtain⟨p0,p1,p2,p3,p4,p5,p6⟩:=st7 hsV;obtain⟨m0,m1,m2,m3,m4,m5⟩:=mk6 hMV
           go_upto_region 11 with (go_at_call 20;refine(kh _ s _ m _ hsm.1 hvV hmV HKO.out hl0.out).mono ?_;rintro e w3 ⟨rfl,hb3⟩;rw[H0.out])
           clear p0 p1 p2 p3 p4 p5 p6 m0 m1 m2 m3 m4 m5;obtain⟨p0,p1,p2,p3,p4,p5,p6⟩:=st7 (hsV.keep hb3);obtain⟨m0,m1,m2,m3,m4,m5⟩:=mk6 (hAV.keep hb3)
           go_upto_region 12 with (go_at_call 20;refine(kh _ s _ mA _ hsm.1 (hvV.keep hb3) (hmAV.keep hb3) HKA.out hlA.out).mono ?_;rintro e w4 ⟨rfl,hb4⟩;rw[H1.out])
           have hb34:=Ao hb3 hb4;clear p0 p1 p2 p3 p4 p5 p6 m0 m1 m2 m3 m4 m5;obtain⟨p0,p1,p2,p3,p4,p5,p6⟩:=st7 (hsV.keep hb34);obtain⟨m0,m1,m2,m3,m4,m5⟩:=mk6 (hB.keep hb34)
           go_upto_region 13 with (go_at_call 20;refine(kh _ s _ mB _ hsm.1 (hvV.keep hb34) (hmB.keep hb34) HKB.out hlB.out).mono ?_;rintro e w5 ⟨rfl,hb5⟩;rw[H2.out])
           have W1:IntKind.i64.wrap (xA+xB)=xA+xB:=by rw[IntKind.wrap_i64];omega
           have hq:(x0 == xA+xB)=true:=by rw[hsum];simp
           go_wp2_with (go_at_call 9;refine(HA.out _).mono ?_;rintro e w9 ⟨rfl,hb9⟩)
           go_ret;exact⟨rfl,Ao hbWV (Ao (Ao hb34 hb5) hb9)⟩
end Go.Proofs.YtpbchbcdgikonaaGreat
