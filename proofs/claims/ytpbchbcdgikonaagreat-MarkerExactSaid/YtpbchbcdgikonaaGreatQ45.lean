/- Lean texts of the claim. -/
import Derived.Test.YtpbchbcdgikonaaGreatQ44
namespace Go.Proofs.YtpbchbcdgikonaaGreat
set_option linter.unusedVariables false
set_option linter.unusedSimpArgs false
set_option maxRecDepth 100000
set_option maxHeartbeats 4000000
open Go.RowKit
def Aav (w:World) (r:Int×List Shp×List Pt5) (e:Ending) (w':World):Prop:=∃v1 v2,e=.returned (.tuple #[v1,v2,.int .i64 r.1])/\Wm w' w.heap.size v1 r.2.1/\OwG 89 5 enP w' w.heap.size v2 r.2.2/\Below w.heap.size w w'
theorem Aav.none_ {w w':World} {x:Int} (hb:Below w.heap.size w w'):Aav w (x,[],[]) (.returned (.tuple #[.slice none 0 0,.slice none 0 0,.int .i64 x])) w':=⟨_,_,rfl,Wm.nil,OwG.nil,hb⟩
theorem Abz (U:List UseP):∀i,∀c∈Fb U i,0<=c.cp/\∃k,k<i/\c.cp<max (use U k).ct 0+1
 | 0=>by simp[Fb]
 | i+1=>by
   rw[Fb];intro c hc;rcases List.mem_append.1 hc with hc|hc
   ·obtain⟨h1,k,h2,h3⟩:=Abz U i c hc
    exact⟨h1,k,by omega,h3⟩
   ·obtain⟨k,hk,rfl⟩:=List.mem_map.1 hc
    have:=List.mem_range.1 hk;unfold dq;dsimp only;exact⟨by omega,i,by omega,by omega⟩
theorem Abu {C:List PlcP} (h:∀c∈C,inR c.us/\inR c.cp):∀j,j<=1000->∀c∈J2 C j,okC (kt c)
 | 0,_=>by simp[J2]
 | j+1,hj=>by
   rw[J2];intro c hc;rcases List.mem_append.1 hc with hc|hc
   ·exact Abu h j (by omega) c hc
   ·obtain⟨d,hd,rfl⟩:=List.mem_map.1 hc
    have:=h d hd;exact⟨by unfold kt Ju inR;dsimp only;omega,this.1,this.2⟩
theorem T5 {s:StyleP} {Z:List Int} {S:List Shp} {C:List PlcP} (h:Bd s Z=(0,S,C)):∀c∈C,okC (kt c):=by
 have h0:(Bd s Z).1=0:=by rw[h]
 obtain⟨e,hs,-,h6,-⟩:=Fi h0;rw[h] at e;injection e with _ e
 injection e with _ e2
 rw[e2];obtain⟨-,k1,-,k2⟩:=Kf hs;refine Abu (fun c hc=>?_) _ (by omega)
 unfold Em at hc;rw[if_neg (by rw[hs];simp)] at hc
 have h1:=(Jf s.us s.us.length).2 c hc;obtain⟨h2,k,h3,h4⟩:=Abz s.us s.us.length c hc;have:=(k2 k h3).2.2.2;unfold inR;omega
theorem Aag {C P:List PlcP} {k:Nat} {x:Int} (h:Ft C P k=(x,[],[])) (hx:x≠0):∀m,Ft C P (k+m)=(x,[],[]):=by
 intro m;induction m with
 | zero=>exact h
 | succ m ih=>rw[<-Nat.add_assoc,Ft,if_pos (by rw[ih];exact hx)];exact ih
theorem Aa7 {w0 w w':World} {b:Nat} (hb:Below w0.heap.size w0 w) (hg:w.grownBy w' (some b)) (h:w0.heap.size<=b):Below w0.heap.size w0 w' :=
 Below.grown hb hg hb.size (fun k hk=>by cases hk;exact h)
theorem Amc (vs:Array Value) (s:StyleP) (ms:Array Value) (m:MkP) (w:World) (hsm:SmS s) (hv:StV w vs s) (hm:MkV w ms m) (h:(Bd s m.sz).1≠0) :
 Calls Tryz.prog 25 #[.agg vs,.agg ms] w (Aav w ((Bd s m.sz).1,[],[])):=by
 obtain⟨r,hr⟩:∃r,Bd s m.sz=r:=⟨_,rfl⟩
 rw[hr] at h ⊢;have HE:=Lib.hid hr;obtain⟨x,S,C⟩:=r;dsimp only at h ⊢;have hne:(x != 0)=true:=by simpa using h
 clear hr h;obtain⟨A1,c1,A2,c2,A3,c3,A4,c4,A5,c5,A6,c6,rfl,-⟩:=id hv;obtain⟨M1,d1,M2,d2,rfl,⟨h1,h2,hZ⟩,h3,h4,h5,hQ⟩:=hm;go_enter Tryz.func25,Tryz.ntmps25;go_upto_region 1 with fail;refine Ar (fun X=>Below w.heap.size w X/\Bb X w.heap.size 29 #[.string s.nm,.slice A1 s.sz.length c1,.slice A2 s.mu.length c2,.slice A3 s.pc.length c3,.slice A4 s.us.length c4,.slice A5 s.se.length c5,.slice A6 s.no c6]/\Bb X (w.heap.size+1) 38 #[.int .i64 m.len,.int .i64 m.wid,.int .i64 m.rx,.int .i64 m.ry,.slice M1 m.sz.length d1,.slice M2 m.pl.length d2]) ⟨An (An (Below.refl _ _) _) _,(Bb.new _ _ _).alloc _,Bb.new2 _ _ _ _⟩ ?_
 rintro X ⟨hbX,hP,hK⟩;obtain⟨p0,p1,p2,p3,p4,p5,p6⟩:=st7 hP;obtain⟨k0,k1,k2,k3,k4,k5⟩:=mk6 hK;have hvX:=hv.keep hbX
 go_wp2_with (go_at_call 24;refine(G6 _ s M1 _ d1 m.sz _ h1 h2 (hZ.keep hbX) hsm hvX).mono ?_;rintro e w1 ⟨u1,u2,rfl,hoS,hoP,hb1⟩;rw[HE.out] at hoS ⊢;dsimp only)
 go_ret3
 exact Aav.none_ (Ao hbX hb1)
theorem Amb (vs:Array Value) (s:StyleP) (ms:Array Value) (m:MkP) (w:World) (hsm:SmS s) (hv:StV w vs s) (hm:MkV w ms m) (h:(Bd s m.sz).1=0) (hkp:∀p∈m.pl,okC (kt p)) (hpl:m.pl.length<=1000) :
 Calls Tryz.prog 25 #[.agg vs,.agg ms] w (Aav w (Fs s m)):=by
 obtain⟨r,hr⟩:∃r,Bd s m.sz=r:=⟨_,rfl⟩
 obtain⟨x,S,C⟩:=r;rw[hr] at h;dsimp only at h;subst h;obtain⟨hSC,h60⟩:=Xc hr;have HCO:=Lib.hid (T5 hr);have HE:=Lib.hid hr;have HAW:=Lib.hid (show Fs s m=Aaj C S m (Ft C m.pl m.pl.length) by unfold Fs;rw[hr,if_neg (by simp)])
 have HSL:=Lib.hid (show S.length<=1000000 by omega)
 have HCL:=Lib.hid hSC;clear hr hSC;obtain⟨A1,c1,A2,c2,A3,c3,A4,c4,A5,c5,A6,c6,rfl,-⟩:=id hv;obtain⟨M1,d1,M2,d2,rfl,⟨h1,h2,hZ⟩,h3,h4,h5,hQ⟩:=hm;go_enter Tryz.func25,Tryz.ntmps25;go_upto_region 1 with fail;refine Ar (fun X=>Below w.heap.size w X/\Bb X w.heap.size 29 #[.string s.nm,.slice A1 s.sz.length c1,.slice A2 s.mu.length c2,.slice A3 s.pc.length c3,.slice A4 s.us.length c4,.slice A5 s.se.length c5,.slice A6 s.no c6]/\Bb X (w.heap.size+1) 38 #[.int .i64 m.len,.int .i64 m.wid,.int .i64 m.rx,.int .i64 m.ry,.slice M1 m.sz.length d1,.slice M2 m.pl.length d2]) ⟨An (An (Below.refl _ _) _) _,(Bb.new _ _ _).alloc _,Bb.new2 _ _ _ _⟩ ?_
 rintro X ⟨hbX,hP,hK⟩;obtain⟨p0,p1,p2,p3,p4,p5,p6⟩:=st7 hP;obtain⟨k0,k1,k2,k3,k4,k5⟩:=mk6 hK;have hvX:=hv.keep hbX;have hmm:=@run_makeMap Tryz.prog
 go_upto_region 4 with (go_at_call 24;refine(G6 _ s M1 _ d1 m.sz _ h1 h2 (hZ.keep hbX) hsm hvX).mono ?_;rintro e w1 ⟨u1,u2,rfl,hoS,hoP,hb1⟩;rw[HE.out] at hoS hoP ⊢;dsimp only at hoS hoP ⊢;obtain⟨AS,cS,rfl,lS,mS,hSS⟩:=hoS.shs HSL.out;obtain⟨AP,cP,rfl,lP,mP,hPS⟩:=R4.pls hoP)
 obtain⟨nq,hnq⟩:∃q,S.length=q:=⟨_,rfl⟩
 have hcq:C.length=nq:=by rw[<-HCL.out,hnq]
 rw[hnq] at hSS h60 lS hoS ⊢;rw[hcq] at hoP lP hPS ⊢;have HCQ:=Lib.hid hcq;obtain⟨n2,hn2⟩:∃q,m.pl.length=q:=⟨_,rfl⟩
 rw[hn2] at HAW hK h3 hQ hpl ⊢;have hK1:=hK.keep hb1;have hbW1:=Ao hbX hb1;have hQ1:=hQ.keep hbW1;have hXs:=hbX.size;clear hP hK hvX p0 p1 p2 p3 p4 p5 p6 k0 k1 k2 k3 k4 k5 hcq hnq hn2 hbX;have hID:=Mp.made w1 C;obtain⟨BM,hBM⟩:∃B,w1.heap.size=B:=⟨_,rfl⟩
 have hbM:=An (Below.refl w1.heap.size w1) (.map #[] 0);rw[hBM] at hID;have hBM1:w1.heap.size<=BM:=Nat.le_of_eq hBM;go_upto_region 6 with fail;clear hmm;have HBM:=Lib.hid hBM;clear hBM;go_loopw [11,12,37] (fun _ _ i wx=>∃k:Nat,k<=nq/\i=.int .i64 k/\Mp wx BM k C k/\Below w1.heap.size w1 wx) (fun _ _ i _=>nq-(intOf i).toNat)
 case atStart=>exact⟨0,Nat.zero_le _,rfl,hID,hbM⟩
 case round =>
  clear hID hbM;obtain⟨k,hk,rfl,hI,hb⟩:=hrel;by_cases hlt:k<nq
  ·obtain⟨b1,o1,rfl,hc1⟩:=(hPS.keep hb).at_ hlt
   obtain⟨l0,l1,l2,l3,l4,l5,l6⟩:=hc1 k hlt;have hok:=HCO.out _ (jw (show k<C.length by rw[HCQ.out];exact hlt))
   have HKY:=Lib.hid (X5 (plc C k));have B1:(k:Int)<(nq:Int):=by omega
   clear hc1;go_upto_region 8 with fail;refine Ar (fun Y=>Below wr.heap.size wr Y/\Bb Y wr.heap.size 51 #[.int .i64 (plc C k).ga,.int .i64 (plc C k).us,.int .i64 (plc C k).cp,.bool (plc C k).fl,.int .i64 (plc C k).qu,.int .i64 (plc C k).x,.int .i64 (plc C k).y]) ⟨An (Below.refl _ _) _,Bb.new _ _ _⟩ ?_
   rintro Y ⟨hbY,hT⟩;obtain⟨t0,t1,t2,t3,t4,t5,t6⟩:=st7 hT;have hIY:=hI.keep hbY;have hbE:=Ao hb hbY;have hkm:k<maxLen:=by unfold maxLen;omega
   clear l0 l1 l2 l3 l4 l5 l6 hI hb hbY
   go_wp2_with (first
    | (at_mapUpdate;refine Ql rfl _ _ _ rfl rfl (hIY.keep hb5) hkm hok (by omega) rfl rfl ?_;intro w6 ho6 hg6)
    | (go_at_call 44;refine(HKY.out _).mono ?_;rintro e w5 ⟨rfl,hb5⟩))
   exact⟨⟨k+1,by omega,by go_num,ho6,Aa7 (Ao hbE hb5) hg6 hBM1⟩,by simp[intOf];omega⟩
  ·obtain rfl:nq=k:=by omega
   have hKr:=hK1.keep hb;have hQr:=hQ1.keep hb;have hSr:=hSS.keep hb;have hPr:=hPS.keep hb;have hoSr:=hoS.keep hb;have hbr:=Ao hbW1 hb;obtain⟨ZZ,hmk,hZZ⟩:=aq nq (by omega)
   obtain⟨k0,k1,k2,k3,k4,k5⟩:=mk6 hKr;obtain⟨w2,hw2⟩:∃w2:World,w2=wr:=⟨_,rfl⟩
   rw[<-hw2] at hKr hQr hSr hPr hoSr hbr k0 k1 k2 k3 k4 k5 hI ⊢;clear hw2 hb hK1 hQ1 hSS hPS hoS hbW1 hoP;have hZW:=hZZ w2;have hb20:=An (Below.refl w2.heap.size w2) (.cells ZZ 4);have kk5:=Aq hb20 k5;obtain⟨BB,hBB⟩:∃B,w2.heap.size=B:=⟨_,rfl⟩
   rw[hBB] at hZW;go_upto_region 13 with fail;have HBB:=Lib.hid hBB;clear hmk hBB k0 k1 k2 k3 k4 k5 kk5 hZZ
   have harl:∀k,k<=n2->(Ft C m.pl k).1=0->(Ft C m.pl k).2.1.length=nq/\(Ft C m.pl k).2.2.length=k:=fun k hk h0=>by
    have hk2:k<=m.pl.length:=by rw[hQr.1];exact hk
    obtain⟨-,-,h3,h4,-⟩:=I4 k hk2 h0;refine⟨by rw[h4];exact HCQ.out,?_⟩
    rw[h3,List.length_map,List.length_take];omega
   have HARL:=Lib.hid harl
   have HAB:=Lib.hid (fun (k:Nat) (x:Int) (hk:k<n2) (h:Ft C m.pl (k+1)=(x,[],[])) (hx:x≠0)=>show Fs s m=(x,[],[]) by
    have:=Aag h hx (n2-(k+1));rw[show k+1+(n2-(k+1))=n2 by omega] at this
    rw[HAW.out,this];unfold Aaj;rw[if_pos hx])
   clear harl;go_loopw [14,16,17,18,53] (fun v _ _ _ i wx=>∃k:Nat,k<=n2/\i=.int .i64 k/\Hid ((Ft C m.pl k).1=0)/\te wx w2.heap.size (.slice (some ⟨BB,0,none⟩) nq nq) (Ft C m.pl k).2.1/\OwG 89 5 enP wx w2.heap.size v (Ft C m.pl k).2.2/\Below w2.heap.size w2 wx) (fun _ _ _ _ i _=>n2-(intOf i).toNat)
   case atStart=>exact⟨0,Nat.zero_le _,rfl,Lib.hid rfl,by show te _ _ _ (List.replicate C.length false);rw[HCQ.out,HBB.out];exact hZW,OwG.nil,hb20⟩
   case round =>
    clear hZW hb20;obtain⟨k,hk,rfl,hz0,hoB,hoU,hb⟩:=hrel;by_cases hlt:k<n2
    ·obtain⟨b1,o1,rfl,hc1⟩:=(hQr.keep hb).at_ hlt
     obtain⟨l0,l1,l2,l3,l4,l5,l6⟩:=hc1 k hlt;have hok:=hkp _ (jw (show k<m.pl.length by rw[hQr.1];exact hlt))
     have HKY:=Lib.hid (X5 (plc m.pl k));obtain⟨hl1,hl2⟩:=HARL.out k hk hz0.out
     have HST:=Lib.hid (show Ft C m.pl (k+1)=if kI3 C (kt (plc m.pl k)) nq<0 then (3,[],[]) else if gbo (Ft C m.pl k).2.1 (kI3 C (kt (plc m.pl k)) nq).toNat then (7,[],[]) else (0,(Ft C m.pl k).2.1.set (kI3 C (kt (plc m.pl k)) nq).toNat true,(Ft C m.pl k).2.2++[⟨kI3 C (kt (plc m.pl k)) nq,false,(plc m.pl k).qu,(plc m.pl k).x,(plc m.pl k).y⟩]) by
      rw[Ft,if_neg (by rw[hz0.out];simp),HCQ.out,Abp])
     have hge:=Abo C (kt (plc m.pl k)) nq;obtain⟨TB,hTB⟩:∃T,(Ft C m.pl k).2.1=T:=⟨_,rfl⟩
     obtain⟨TU,hTU⟩:∃T,(Ft C m.pl k).2.2=T:=⟨_,rfl⟩
     rw[hTB] at hoB hl1 HST;rw[hTU] at hoU hl2 HST;obtain⟨ix,hix⟩:∃x,kI3 C (kt (plc m.pl k)) nq=x:=⟨_,rfl⟩
     rw[hix] at HST hge;have HIX:=Lib.hid hix;have HL1:=Lib.hid hl1;have HL2:=Lib.hid hl2;have B1:(k:Int)<(n2:Int):=by omega
     clear hc1 hTB hTU hix;go_upto_region 15 with fail;refine Ar (fun Y=>Below wr.heap.size wr Y/\Bb Y wr.heap.size 51 #[.int .i64 (plc m.pl k).ga,.int .i64 (plc m.pl k).us,.int .i64 (plc m.pl k).cp,.bool (plc m.pl k).fl,.int .i64 (plc m.pl k).qu,.int .i64 (plc m.pl k).x,.int .i64 (plc m.pl k).y]) ⟨An (Below.refl _ _) _,Bb.new _ _ _⟩ ?_
     rintro Y ⟨hbY,hT⟩;obtain⟨t0,t1,t2,t3,t4,t5,t6⟩:=st7 hT;have hoBY:=OwG.keep hoB hbY;have hoUY:=OwG.keep hoU hbY;have hbE:=Ao hb hbY;have hIY:=hI.keep hbE;obtain⟨BT,hBT⟩:∃B,wr.heap.size=B:=⟨_,rfl⟩
     rw[hBT] at hT t0 t1 t2 t3 t4 t5 t6 ⊢;clear l0 l1 l2 l3 l4 l5 l6 hoB hoU hb hbY hBT hl1 hl2;by_cases hn0:ix<0
     ·have HR:=Lib.hid (HAB.out k 3 hlt (by rw[HST.out,if_pos hn0]) (by decide))
      have hdec:decide (0<=ix)=false:=by simp;omega
      go_wp2_with (first
       | (at_lookup;refine Ke rfl _ _ rfl rfl (hIY.keep hb5) (kt (plc m.pl k)) hok rfl ?_;intro z hz;rw[HIX.out,hdec];clear hz)
       | (go_at_call 44;refine(HKY.out _).mono ?_;rintro e w5 ⟨rfl,hb5⟩))
      go_ret3
      rw[HR.out];exact Aav.none_ (Ao hbr (Ao hbE hb5))
     ·obtain⟨q,rfl⟩:∃q:Nat,ix=q:=⟨ix.toNat,by omega⟩
      have hdec:decide (0<=(q:Int))=true:=by simp
      have hq:q<nq:=by omega
      have B2:(q:Int)<(nq:Int):=by omega
      have HST2:=Lib.hid (show Ft C m.pl (k+1)=if gbo TB q then (7,[],[]) else (0,TB.set q true,TU++[⟨(q:Int),false,(plc m.pl k).qu,(plc m.pl k).x,(plc m.pl k).y⟩]) by
       rw[HST.out,if_neg hn0,Int.toNat_natCast])
      go_upto_region 16 with (first
       | (at_lookup;refine Ke rfl _ _ rfl rfl (hIY.keep hb5) (kt (plc m.pl k)) hok rfl ?_;intro z hz;rw[HIX.out] at hz ⊢;rw[hdec];obtain rfl:=hz (by omega);clear hz)
       | (go_at_call 44;refine(HKY.out _).mono ?_;rintro e w5 ⟨rfl,hb5⟩))
      have hT5:=hT.keep hb5;obtain⟨z0,z1,z2,z3,z4,z5,z6⟩:=st7 hT5;have hoB5:=OwG.keep hoBY hb5;have hoU5:=OwG.keep hoUY hb5;obtain⟨x0,f0⟩:=te.cellsB hoB5 HL1.out hq;have hap:=OwG.apart hoB5 hoU5 (by decide)
      have hneT:=OwG.neB hoB5 hT5 (by decide)
      have hneB:BB≠BT:=fun h=>hneT (by rw[h];rfl)
      have hneB2:BT≠BB:=fun h=>hneB h.symm
      have hbE5:=Ao hbE hb5;have hbBB:w2.heap.size<=BB:=(OwG.lt hoB5 BB rfl).1
      have hfar:(u14:Value).ownBlock≠some BB:=by
       rcases hap with h|h
       ·simp[Value.ownBlock] at h
       ·exact fun h2=>h (by rw[h2];rfl)
      clear t0 t1 t2 t3 t4 t5 t6 hoBY hoUY hT hIY hbE hneT HST hap;obtain⟨gx,hgx⟩:∃g,gbo TB q=g:=⟨_,rfl⟩
      rw[hgx] at x0 HST2;clear hgx;cases gx with
      | true =>
        have HR:=Lib.hid (HAB.out k 7 hlt (by rw[HST2.out,if_pos rfl]) (by decide))
        go_wp2_with fail
        go_ret3
        rw[HR.out];exact Aav.none_ (Ao hbr hbE5)
      | false =>
        have HS3:=Lib.hid (show Ft C m.pl (k+1)=(0,TB.set q true,TU++[⟨(q:Int),false,(plc m.pl k).qu,(plc m.pl k).x,(plc m.pl k).y⟩]) by rw[HST2.out,if_neg (by simp)])
        have hoB6:=te.storeB hoB5 HL1.out q true;have hoU6:=OwG.far hoU5 (p:=⟨BB,q,none⟩) hfar (.bool true);have hT6:=Bb.far hT5 (p:=⟨BB,q,none⟩) hneB2 (.bool true);have hb6:Below w2.heap.size w2 (w5.setCell ⟨BB,q,none⟩ (.bool true)):=Aa7 hbE5 (Gb.set (World.grownBy.refl _ _) _ _) hbBB;clear hoB5 hoU5 hT5 hfar HST2 HAB z0 z1 z2 z3 z4 z5 z6;go_upto_region 21 with fail;refine Ar (fun Y=>te Y w2.heap.size (.slice (some ⟨BB,0,none⟩) nq nq) (TB.set q true)/\OwG 89 5 enP Y w2.heap.size u14 TU/\Bb Y BT 51 #[.int .i64 (plc m.pl k).ga,.int .i64 (plc m.pl k).us,.int .i64 (plc m.pl k).cp,.bool (plc m.pl k).fl,.int .i64 (plc m.pl k).qu,.int .i64 (plc m.pl k).x,.int .i64 (plc m.pl k).y]/\Below w2.heap.size w2 Y) ⟨hoB6,hoU6,hT6,hb6⟩ ?_
        clear hoB6 hoU6 hT6 hb6 hbE5 hb5 hneB hneB2 f0 x0;rintro Z ⟨hoB6,hoU6,hT6,hb6⟩;obtain⟨z0,z1,z2,z3,z4,z5,z6⟩:=st7 hT6;clear hT6
        go_wp2_with (at_builtin;refine Cr rfl _ _ 85 rfl enP w2.heap.size 89 (.agg #[.int .i64 0,.bool false,.int .i64 0,.int .i64 0,.int .i64 0]) 5 40 Tryz.underlying85 Ag6 rfl (by omega) J6 oz _ TU rfl (OwG.alloc hoU6 _) Z.heap.size 1 ⟨(q:Int),false,(plc m.pl k).qu,(plc m.pl k).x,(plc m.pl k).y⟩ 89 rfl (Bb.new _ _ _) (by rw[HL2.out];unfold maxLen;omega) (by rw[HL2.out];omega) (An hb6 _).size ?_;intro v' w7 ho' hg' hat')
        exact⟨⟨k+1,by omega,by go_num,Lib.hid (by rw[HS3.out]),by rw[HS3.out];exact OwG.kept (OwG.alloc hoB6 _) hg' (OwG.apart hoB6 hoU6 (by decide)),by rw[HS3.out];exact ho',Bm (An hb6 _) (OwG.alloc hoU6 _) hg'⟩,by simp[intOf];omega⟩
    ·obtain rfl:n2=k:=by omega
     obtain⟨hl1,hl2⟩:=HARL.out n2 (Nat.le_refl _) hz0.out
     have hput:∀i,i<n2->∃q:Nat,q<nq/\(pt (Ft C m.pl n2).2.2 i).sh=(q:Int):=fun i hi=>by
      have hil:i<m.pl.length:=by rw[hQr.1];exact hi
      obtain⟨g1,-,g3,-⟩:=I4 n2 (by rw[hQr.1];exact Nat.le_refl _) hz0.out
      have hi2:i<(m.pl.take n2).length:=by rw[List.length_take];omega
      have g4:pt (Ft C m.pl n2).2.2 i=Kc C (m.pl.take n2)[i]:=by
       unfold pt;rw[g3,List.getD,List.getElem?_map,List.getElem?_eq_getElem hi2];rfl
      have g5:=g1 _ (List.getElem_mem hi2);have g6:=Vl C (m.pl.take n2)[i] C.length;rw[g4];unfold Kc kI at *
      rw[HCQ.out] at *
      dsimp only;exact⟨(Pw C (m.pl.take n2)[i] nq).toNat,by omega,by omega⟩
     have HAR:=Lib.hid (show Fs s m=if Bq (fun i=>!gbo (Ft C m.pl n2).2.1 i) nq then (20,[],[]) else if Bq (fun i=>(plc m.pl i).fl != (plc C (pt (Ft C m.pl n2).2.2 i).sh.toNat).fl) n2 then (12,[],[]) else if Ic (Y8 m) S (Ft C m.pl n2).2.2≠0 then (Ic (Y8 m) S (Ft C m.pl n2).2.2,[],[]) else (0,S,(Ft C m.pl n2).2.2) by
      rw[HAW.out];unfold Aaj;rw[if_neg (by rw[hz0.out];simp),HCQ.out,hQr.1])
     obtain⟨TB,hTB⟩:∃T,(Ft C m.pl n2).2.1=T:=⟨_,rfl⟩
     obtain⟨TU,hTU⟩:∃T,(Ft C m.pl n2).2.2=T:=⟨_,rfl⟩
     rw[hTB] at hoB hl1 HAR;rw[hTU] at hoU hl2 HAR hput;have HPT:=Lib.hid hput;have HL1:=Lib.hid hl1;have HCB:=Lib.hid (Rm BB nq nq TB wr w2.heap.size (by omega) hl1 hoB)
     have hK4:=hKr.keep hb;have hQ4:=hQr.keep hb;have hS4:=hSr.keep hb;have hP4:=hPr.keep hb;have hoS4:=hoSr.keep hb;have hbr4:=Ao hbr hb
     obtain⟨AU,cU,rfl,lU,mU,hPU⟩:∃AU cU,u14=.slice AU TU.length cU/\TU.length<=cU/\cU<=9223372036854775807/\PuS wr AU TU.length TU:=by
      obtain⟨A,c,e,h1,h2,-⟩:=OwG.form2 hoU;obtain⟨A',c',e',h'⟩:=OwP.pus hoU;have e0:=e.symm.trans e';injection e0 with e1 _ e3
      subst e1 e3;exact⟨A,c,e,h1,by unfold maxLen at h2;exact h2,h'⟩
     rw[hl2] at lU hPU hoU ⊢;clear hput hl1 hTB hTU hI hKr hQr hSr hPr hoSr hb hlt hk;obtain⟨any,hany⟩:∃g,Bq (fun i=>!gbo TB i) nq=g:=⟨_,rfl⟩
     rw[hany] at HCB HAR;clear hany;cases any with
     | true =>
       have HR:=Lib.hid (show Fs s m=(20,[],[]) by rw[HAR.out,if_pos rfl])
       go_wp2_with (go_at_call 45;refine HCB.out.mono ?_;rintro e w5 ⟨rfl,hb5⟩)
       go_ret3
       rw[HR.out];exact Aav.none_ (Ao hbr4 hb5)
     | false =>
       have HAR2:=Lib.hid (show Fs s m=if Bq (fun i=>(plc m.pl i).fl != (plc C (pt TU i).sh.toNat).fl) n2 then (12,[],[]) else if Ic (Y8 m) S TU≠0 then (Ic (Y8 m) S TU,[],[]) else (0,S,TU) by rw[HAR.out,if_neg (by simp)])
       clear HAR;obtain⟨k0,k1,k2,k3,k4,k5⟩:=mk6 hK4
       go_upto_region 26 with (go_at_call 45;refine HCB.out.mono ?_;rintro e w5 ⟨rfl,hb5⟩;have kk5:=Aq hb5 k5)
       clear k0 k1 k2 k3 k4 k5 kk5;have hK5:=hK4.keep hb5;have hQ5:=hQ4.keep hb5;have hS5:=hS4.keep hb5;have hP5:=hP4.keep hb5;have hoS5:=hoS4.keep hb5;have hoU5:=OwG.keep hoU hb5;have hPU5:=hPU.keep hb5;have hbr5:=Ao hbr4 hb5;clear hK4 hQ4 hS4 hP4 hoS4 hoU hPU hbr4 hb5 HCB hoB;go_loopw [19,20,90] (fun _ _ i wx=>∃k:Nat,k<=n2/\i=.int .i64 k/\Hid (Bq (fun i=>(plc m.pl i).fl != (plc C (pt TU i).sh.toNat).fl) k=false)/\Below w5.heap.size w5 wx) (fun _ _ i _=>n2-(intOf i).toNat)
       case atStart=>exact⟨0,Nat.zero_le _,rfl,Bq.zero _,Below.refl _ _⟩
       case round =>
        obtain⟨k,hk,rfl,hp,hb⟩:=hrel;by_cases hlt:k<n2
        ·obtain⟨b1,o1,rfl,hc1⟩:=(hQ5.keep hb).at_ hlt
         obtain⟨l0,l1,l2,l3,l4,l5,l6⟩:=hc1 k hlt;obtain⟨q,hq,hqe⟩:=HPT.out k hlt;have B1:(k:Int)<(n2:Int):=by omega
         have B2:(q:Int)<(nq:Int):=by omega
         have HY:=Lib.hid (fun (h:((plc m.pl k).fl != (plc C q).fl)=false)=>Bq.succ (f:=fun i=>(plc m.pl i).fl != (plc C (pt TU i).sh.toNat).fl) hp.out (show ((plc m.pl k).fl != (plc C (pt TU k).sh.toNat).fl)=false by rw[hqe,Int.toNat_natCast];exact h))
         have HN:=Lib.hid (fun (h:((plc m.pl k).fl != (plc C q).fl)=true)=>Bq.yes (f:=fun i=>(plc m.pl i).fl != (plc C (pt TU i).sh.toNat).fl) hlt (show ((plc m.pl k).fl != (plc C (pt TU k).sh.toNat).fl)=true by rw[hqe,Int.toNat_natCast];exact h))
         clear hc1;go_upto_region 28 with fail;refine Ar (fun Y=>Below wr.heap.size wr Y/\Bb Y wr.heap.size 51 #[.int .i64 (plc m.pl k).ga,.int .i64 (plc m.pl k).us,.int .i64 (plc m.pl k).cp,.bool (plc m.pl k).fl,.int .i64 (plc m.pl k).qu,.int .i64 (plc m.pl k).x,.int .i64 (plc m.pl k).y]) ⟨An (Below.refl _ _) _,Bb.new _ _ _⟩ ?_
         rintro Y ⟨hbY,hT⟩;obtain⟨t0,t1,t2,t3,t4,t5,t6⟩:=st7 hT;have hbE:=Ao hb hbY;obtain⟨b2,o2,rfl,-,y0,-⟩:=(hPU5.keep hbE).at_ hlt;obtain⟨b3,o3,rfl,hc3⟩:=(hP5.keep hbE).at_ hq;obtain⟨-,-,-,y3,-⟩:=hc3 q hq;rw[hqe] at y0;obtain⟨fa,hfa⟩:∃g,(plc m.pl k).fl=g:=⟨_,rfl⟩
         obtain⟨fb,hfb⟩:∃g,(plc C q).fl=g:=⟨_,rfl⟩
         rw[hfa,hfb] at HY HN;rw[hfa] at t3;rw[hfb] at y3;clear l0 l1 l2 l3 l4 l5 l6 hfa hfb hb hbY hc3 hqe hT t0 t1 t2 t4 t5 t6;obtain⟨fc,hfc⟩:∃g,(fa != fb)=g:=⟨_,rfl⟩
         cases fc with
         | true =>
           have HN2:=Lib.hid (HN.out hfc);have HR:=Lib.hid (show Fs s m=(12,[],[]) by rw[HAR2.out,if_pos HN2.out])
           clear HN HY HN2;cases fa<;>cases fb<;>first|(exact absurd hfc (by decide))|skip
           all_goals go_wp2_with fail
           all_goals go_quiet (fail)
           all_goals go_wp2_with fail
           all_goals go_ret3
           all_goals rw[HR.out]
           all_goals exact Aav.none_ (Ao hbr5 (Bg hbE _))
         | false =>
           have HY2:=Lib.hid (HY.out hfc);clear HN HY;cases fa<;>cases fb<;>first|(exact absurd hfc (by decide))|skip
           all_goals go_wp2_with fail
           all_goals go_quiet (fail)
           all_goals go_wp2_with fail
           all_goals exact⟨⟨k+1,by omega,by go_num,HY2,Bg hbE _⟩,by simp[intOf];omega⟩
        ·obtain rfl:n2=k:=by omega
         have HAR3:=Lib.hid (show Fs s m=if Ic (Y8 m) S TU≠0 then (Ic (Y8 m) S TU,[],[]) else (0,S,TU) by rw[HAR2.out,if_neg (by rw[hp.out];simp)])
         have hK6:=hK5.keep hb;have hS6:=hS5.keep hb;have hPU6:=hPU5.keep hb;have hoS6:=hoS5.keep hb;have hoU6:=OwG.keep hoU5 hb;have hbr6:=Ao hbr5 hb;obtain⟨k0,k1,k2,k3,k4,k5⟩:=mk6 hK6;clear hK5 hQ5 hS5 hPU5 hP5 hoS5 hoU5 hbr5 hb HAR2 HPT;go_upto_region 32 with fail;refine Ar (fun Y=>Below wr.heap.size wr Y/\Bb Y wr.heap.size 33 #[.int .i64 m.len,.int .i64 m.wid,.int .i64 m.rx,.int .i64 m.ry]) ⟨An (Below.refl _ _) _,Bb.new _ _ _⟩ ?_
         rintro Y ⟨hbY,hT⟩;obtain⟨b0,b1,b2,b3,-⟩:=hT.cells4;obtain⟨cv,hcv⟩:∃c,Ic (Y8 m) S TU=c:=⟨_,rfl⟩
         rw[hcv] at HAR3;have HCK:=Lib.hid (qp AS AU cS cU nq n2 (Y8 m) S TU Y (by omega) lU mU (hS6.keep hbY) (hPU6.keep hbY))
         rw[hcv] at HCK;unfold Y8 Hz at HCK;dsimp only at HCK;clear hcv k0 k1 k2 k3 k4 k5;by_cases hc0:cv=0
         ·subst hc0
          have HR:=Lib.hid (show Fs s m=(0,S,TU) by rw[HAR3.out,if_neg (by simp)])
          go_wp2_with (go_at_call 46;refine HCK.out.mono ?_;rintro e w6 ⟨rfl,hb6⟩)
          go_ret3
          rw[HR.out];exact⟨_,_,rfl,(hoS6.keep (Ao hbY hb6)).lower hXs,OwG.lower (OwG.keep hoU6 (Ao hbY hb6)) hbr.size,Ao hbr6 (Ao hbY hb6)⟩
         ·have HR:=Lib.hid (show Fs s m=(cv,[],[]) by rw[HAR3.out,if_pos hc0])
          have hne:(cv != 0)=true:=by simpa using hc0
          go_wp2_with (go_at_call 46;refine HCK.out.mono ?_;rintro e w6 ⟨rfl,hb6⟩)
          go_ret3
          rw[HR.out];exact Aav.none_ (Ao hbr6 (Ao hbY hb6))
theorem I3 (vs:Array Value) (s:StyleP) (ms:Array Value) (m:MkP) (w:World) (hsm:SmS s) (hv:StV w vs s) (hm:MkV w ms m) (hkp:∀p∈m.pl,okC (kt p)) (hpl:m.pl.length<=1000) :
 Calls Tryz.prog 25 #[.agg vs,.agg ms] w (Aav w (Fs s m)):=by
 by_cases h:(Bd s m.sz).1=0
 ·exact Amb vs s ms m w hsm hv hm h hkp hpl
 ·rw[show Fs s m=((Bd s m.sz).1,[],[]) by unfold Fs;rw[if_pos h]]
  exact Amc vs s ms m w hsm hv hm h
theorem MkV.keep {w w':World} {ms:Array Value} {m:MkP} (h:MkV w ms m) (hb:Below w.heap.size w w'):MkV w' ms m:=by
 obtain⟨M1,d1,M2,d2,rfl,⟨h1,h2,hZ⟩,h3,h4,h5,hQ⟩:=h;exact⟨M1,d1,M2,d2,rfl,⟨h1,h2,hZ.keep hb⟩,h3,h4,h5,hQ.keep hb⟩
theorem rk (s:StyleP) (m:MkP):(Fs s m).2.2.length<=m.pl.length/\(Fs s m).2.1.length<=60:=by
 unfold Fs;split
 ·simp
 ·rename_i h
  obtain⟨⟨x,S,C⟩,hr⟩:∃r,Bd s m.sz=r:=⟨_,rfl⟩
  rw[hr] at h ⊢;have h0:x=0:=by simpa using h
  subst h0;have h60:=(Xc hr).2;dsimp only;unfold Aaj;split
  ·simp
  ·rename_i g0
   obtain⟨-,-,h3,-,-⟩:=I4 (C:=C) (P:=m.pl) m.pl.length (Nat.le_refl _) (by simpa using g0)
   repeat' split
   all_goals first
    | (simp;done)
    | (refine⟨?_,h60⟩;dsimp only;rw[h3,List.length_map,List.length_take];omega)
theorem Qw (S:List Shp) (ps:List Pt5):∀k,Gq S ps k=Db S ps k
 | 0=>rfl
 | k+1=>by rw[Gq,Db,Qw S ps k]
theorem js {S:List Shp} {ps:List Pt5} {k:Nat} {x:Int} (h:Gq S ps k=(x,[])) (hx:x≠0):∀m,Gq S ps (k+m)=(x,[]):=by
 intro m;induction m with
 | zero=>exact h
 | succ m ih=>rw[<-Nat.add_assoc,Gq,if_pos (by rw[ih];exact hx)];exact ih
theorem Np (S:List Shp) (ps:List Pt5):∀k,∀t∈(Gq S ps k).2,Bf t t.length=0
 | 0=>by simp[Gq]
 | k+1=>by
   rw[Gq];intro t ht;split at ht
   ·exact Np S ps k t ht
   ·split at ht
    ·simp at ht
    ·rename_i h
     rcases List.mem_append.1 ht with ht|ht
     ·exact Np S ps k t ht
     ·rw[List.mem_singleton] at ht
      subst ht;exact Ed (by simpa using h)
theorem Sd {l:List (List (Int×Int))} (h:∀t∈l,Bf t t.length=0):∀k,k<=l.length->0<=Gt l k/\Gt l k<=100000000000000*k
 | 0,_=>by simp[Gt]
 | k+1,hk=>by
   have ih:=Sd h k (by omega)
   have h2:=rz (h _ (It (ls:=l) (k:=k) (by omega)))
   rw[Gt];omega
theorem Acz (s:StyleP) (m:MkP):(Ia s m).2.length<=m.pl.length/\∀t∈(Ia s m).2,Bf t t.length=0:=by
 unfold Ia;split
 ·simp
 ·refine⟨?_,Np _ _ _⟩
  rw[Qw];have:=(Gu (Fs s m).2.1 (Fs s m).2.2 (Fs s m).2.2.length).1;have:=(rk s m).1;omega
theorem Jb (vs:Array Value) (s:StyleP) (ms:Array Value) (m:MkP) (w:World) (hsm:SmS s) (hv:StV w vs s) (hm:MkV w ms m) (hkp:∀p∈m.pl,okC (kt p)) (hpl:m.pl.length<=1000) :
 Calls Tryz.prog 19 #[.agg vs,.agg ms] w fun e w'=>e=.returned (.int .i64 (Fs s m).1)/\Below w.heap.size w w':=by
 obtain⟨A1,c1,A2,c2,A3,c3,A4,c4,A5,c5,A6,c6,rfl,-⟩:=id hv;obtain⟨M1,d1,M2,d2,rfl,-⟩:=id hm;go_enter Tryz.func19,Tryz.ntmps19;go_upto_region 1 with fail;refine Ar (fun X=>Below w.heap.size w X/\Bb X w.heap.size 29 #[.string s.nm,.slice A1 s.sz.length c1,.slice A2 s.mu.length c2,.slice A3 s.pc.length c3,.slice A4 s.us.length c4,.slice A5 s.se.length c5,.slice A6 s.no c6]/\Bb X (w.heap.size+1) 38 #[.int .i64 m.len,.int .i64 m.wid,.int .i64 m.rx,.int .i64 m.ry,.slice M1 m.sz.length d1,.slice M2 m.pl.length d2]) ⟨An (An (Below.refl _ _) _) _,(Bb.new _ _ _).alloc _,Bb.new2 _ _ _ _⟩ ?_
 rintro X ⟨hbX,hP,hK⟩;obtain⟨p0,p1,p2,p3,p4,p5,p6⟩:=st7 hP;obtain⟨k0,k1,k2,k3,k4,k5⟩:=mk6 hK;have hvX:=hv.keep hbX;have hmX:=hm.keep hbX
 go_wp2_with (go_at_call 25;refine(I3 _ s _ m _ hsm hvX hmX hkp hpl).mono ?_;rintro e w1 ⟨u1,u2,rfl,-,-,hb1⟩)
 go_ret;exact⟨rfl,Ao hbX hb1⟩
theorem Nw (vs:Array Value) (s:StyleP) (ms:Array Value) (m:MkP) (w:World) (hsm:SmS s) (hv:StV w vs s) (hm:MkV w ms m) (hkp:∀p∈m.pl,okC (kt p)) (hpl:m.pl.length<=1000) :
 Calls Tryz.prog 10 #[.agg vs,.agg ms] w (tc w (Ia s m)):=by
 have HP:=Lib.hid (show Ia s m=if (Fs s m).1≠0 then ((Fs s m).1,[]) else Gq (Fs s m).2.1 (Fs s m).2.2 (Fs s m).2.2.length from rfl)
 obtain⟨l1,l2⟩:=rk s m;obtain⟨r,hr⟩:∃r,Fs s m=r:=⟨_,rfl⟩
 rw[hr] at HP l1 l2;have HE:=Lib.hid hr;obtain⟨x,S,ps⟩:=r;dsimp only at HP l1 l2;clear hr;obtain⟨A1,c1,A2,c2,A3,c3,A4,c4,A5,c5,A6,c6,rfl,-⟩:=id hv;obtain⟨M1,d1,M2,d2,rfl,-⟩:=id hm;go_enter Tryz.func10,Tryz.ntmps10;go_upto_region 1 with fail;refine Ar (fun X=>Below w.heap.size w X/\Bb X w.heap.size 29 #[.string s.nm,.slice A1 s.sz.length c1,.slice A2 s.mu.length c2,.slice A3 s.pc.length c3,.slice A4 s.us.length c4,.slice A5 s.se.length c5,.slice A6 s.no c6]/\Bb X (w.heap.size+1) 38 #[.int .i64 m.len,.int .i64 m.wid,.int .i64 m.rx,.int .i64 m.ry,.slice M1 m.sz.length d1,.slice M2 m.pl.length d2]) ⟨An (An (Below.refl _ _) _) _,(Bb.new _ _ _).alloc _,Bb.new2 _ _ _ _⟩ ?_
 rintro X ⟨hbX,hP,hK⟩;obtain⟨p0,p1,p2,p3,p4,p5,p6⟩:=st7 hP;obtain⟨k0,k1,k2,k3,k4,k5⟩:=mk6 hK;have hvX:=hv.keep hbX;have hmX:=hm.keep hbX;by_cases hx:x=0
 ·subst hx
  rw[if_neg (by simp)] at HP
  go_upto_region 4 with (go_at_call 25;refine(I3 _ s _ m _ hsm hvX hmX hkp hpl).mono ?_;rintro e w1 ⟨v1,v2,rfl,hoS,hoP,hb1⟩;rw[HE.out] at hoS hoP ⊢;dsimp only at hoS hoP ⊢;obtain⟨AS,cS,rfl,lS,mS,hSS⟩:=hoS.shs (by omega);obtain⟨AU,cU,rfl,hPU⟩:=OwP.pus hoP)
  have hbW:=Ao hbX hb1;obtain⟨n2,hn2⟩:∃q,ps.length=q:=⟨_,rfl⟩
  rw[hn2] at hPU HP l1 ⊢;clear p0 p1 p2 p3 p4 p5 p6 k0 k1 k2 k3 k4 k5 hP hK hvX hmX hoS hoP hbX hb1 hn2;go_upto_region 6 with fail;go_loopw [9,11,12,13,26] (fun v _ _ _ i wx=>∃k:Nat,k<=n2/\i=.int .i64 k/\Hid ((Gq S ps k).1=0)/\H6 wx w1.heap.size v (Gq S ps k).2/\Below w1.heap.size w1 wx) (fun _ _ _ _ i _=>n2-(intOf i).toNat)
  case atStart=>exact⟨0,Nat.zero_le _,rfl,Lib.hid rfl,H6.nil,Below.refl _ _⟩
  case round =>
   obtain⟨k,hk,rfl,hz,ho,hbr⟩:=hrel;by_cases hlt:k<n2
   ·obtain⟨bb,ob,rfl,hbl,d1',d2',d3',d4',d5'⟩:=(hPU.keep hbr).at_ hlt
    have hql:=Fj S (pt ps k);have hsm2:=(Gu S ps k).1;rw[<-Qw] at hsm2;have hstep:=Lib.hid (show Gq S ps (k+1)=if (Be S (pt ps k)).1≠0 then ((Be S (pt ps k)).1,[]) else (0,(Gq S ps k).2++[(Be S (pt ps k)).2]) by rw[Gq,if_neg (by rw[hz.out];simp)])
    obtain⟨qq,hqq⟩:∃qq,Be S (pt ps k)=qq:=⟨_,rfl⟩
    rw[hqq] at hql hstep;have HQQ:=Lib.hid hqq;clear hqq;obtain⟨q1,q⟩:=qq;dsimp only at hql hstep;obtain⟨pq,hpt⟩:∃pq,pt ps k=pq:=⟨_,rfl⟩
    rw[hpt] at d1' d2' d3' d4' d5' HQQ;clear hpt;obtain⟨sh2,fl2,qu2,x2,y2⟩:=pq;dsimp only at d1' d2' d3' d4' d5';have B1:(k:Int)<(n2:Int):=by omega
    by_cases hq1:q1=0
    ·subst hq1
     rw[if_neg (by simp)] at hstep
     go_wp2_with (first|(go_at_call 26;refine(Bu _ _ _ S ⟨sh2,fl2,qu2,x2,y2⟩ _ (hSS.keep (An hbr _))).mono ?_;rintro e w5 ⟨v5,rfl,ho5,hb5⟩;rw[HQQ.out] at ho5 ⊢;obtain⟨A5,c5,rfl,-,-,-,-⟩:=OwS.els ho5)|(at_builtin;refine Ev rfl _ _ rfl w1.heap.size _ (Gq S ps k).2 rfl (((ho.alloc _).keep hb5).alloc _) w5.heap.size 1 _ q 54 rfl (Bb.new _ _ _) ((ElS.lower (OwS.els ho5) (An hbr _).size).keep (An (Below.refl _ _) _)) (by omega) (An (Ao (An hbr _) hb5) _).size ?_;intro v7 w7 ho7 hg7 hat7))
     exact⟨⟨k+1,by omega,by go_num,Lib.hid (by rw[hstep.out]),by rw[hstep.out];exact ho7,Gm (An (Ao (An hbr _) hb5) _) (((ho.alloc _).keep hb5).alloc _) hg7⟩,by simp[intOf];omega⟩
    ·have qo:(q1 != 0)=true:=by simpa using hq1
     rw[if_pos hq1] at hstep;have hbad:=js hstep.out hq1 (n2-(k+1));rw[show k+1+(n2-(k+1))=n2 by omega] at hbad
     have HR:=Lib.hid (HP.out.trans hbad);clear hbad hq1
     go_wp2_with (go_at_call 26;refine(Bu _ _ _ S ⟨sh2,fl2,qu2,x2,y2⟩ _ (hSS.keep (An hbr _))).mono ?_;rintro e w5 ⟨v5,rfl,ho5,hb5⟩;rw[HQQ.out])
     go_ret2
     rw[HR.out];exact⟨_,rfl,H6.nil,Ao hbW (Ao (An hbr _) hb5)⟩
   ·obtain rfl:n2=k:=by omega
    go_wp2_with fail
    go_ret2
    rw[HP.out];exact⟨u9,by rw[hz.out];rfl,ho.lower hbW.size,Ao hbW hbr⟩
 ·rw[if_pos hx] at HP
  have hne:(x != 0)=true:=by simpa using hx
  clear hx
  go_wp2_with (go_at_call 25;refine(I3 _ s _ m _ hsm hvX hmX hkp hpl).mono ?_;rintro e w1 ⟨v1,v2,rfl,hoS,hoP,hb1⟩;rw[HE.out];dsimp only)
  go_ret2
  rw[HP.out];exact⟨_,rfl,H6.nil,Ao hbX hb1⟩
theorem kh (vs:Array Value) (s:StyleP) (ms:Array Value) (m:MkP) (w:World) (hsm:SmS s) (hv:StV w vs s) (hm:MkV w ms m) (hkp:∀p∈m.pl,okC (kt p)) (hpl:m.pl.length<=1000) :
 Calls Tryz.prog 20 #[.agg vs,.agg ms] w fun e w'=>e=.returned (.tuple #[.int .i64 (Zo s m).1,.int .i64 (Zo s m).2])/\Below w.heap.size w w':=by
 have HP:=Lib.hid (show Zo s m=if (Ia s m).1≠0 then (0,(Ia s m).1) else (Gt (Ia s m).2 (Ia s m).2.length,0) from rfl)
 obtain⟨l1,l2⟩:=Acz s m;obtain⟨r,hr⟩:∃r,Ia s m=r:=⟨_,rfl⟩
 rw[hr] at HP l1 l2;have HE:=Lib.hid hr;obtain⟨x,L⟩:=r;dsimp only at HP l1 l2;have HBD:=Lib.hid (Sd l2);have HCK:=Lib.hid (fun k (hk:k<L.length)=>(D9 (l2 _ (It hk))).2)
 clear hr l2;obtain⟨A1,c1,A2,c2,A3,c3,A4,c4,A5,c5,A6,c6,rfl,-⟩:=id hv;obtain⟨M1,d1,M2,d2,rfl,-⟩:=id hm;go_enter Tryz.func20,Tryz.ntmps20;go_upto_region 1 with fail;refine Ar (fun X=>Below w.heap.size w X/\Bb X w.heap.size 29 #[.string s.nm,.slice A1 s.sz.length c1,.slice A2 s.mu.length c2,.slice A3 s.pc.length c3,.slice A4 s.us.length c4,.slice A5 s.se.length c5,.slice A6 s.no c6]/\Bb X (w.heap.size+1) 38 #[.int .i64 m.len,.int .i64 m.wid,.int .i64 m.rx,.int .i64 m.ry,.slice M1 m.sz.length d1,.slice M2 m.pl.length d2]) ⟨An (An (Below.refl _ _) _) _,(Bb.new _ _ _).alloc _,Bb.new2 _ _ _ _⟩ ?_
 rintro X ⟨hbX,hP,hK⟩;obtain⟨p0,p1,p2,p3,p4,p5,p6⟩:=st7 hP;obtain⟨k0,k1,k2,k3,k4,k5⟩:=mk6 hK;have hvX:=hv.keep hbX;have hmX:=hm.keep hbX;by_cases hx:x=0
 ·subst hx
  rw[if_neg (by simp)] at HP
  go_upto_region 4 with (go_at_call 10;refine(Nw _ s _ m _ hsm hvX hmX hkp hpl).mono ?_;rintro e w1 ⟨v1,rfl,hoL,hb1⟩;rw[HE.out] at hoL ⊢;dsimp only at hoL ⊢;obtain⟨AL,cL,rfl,lL,hLL,-⟩:=hoL.spss)
  have hbW:=Ao hbX hb1;obtain⟨n2,hn2⟩:∃q,L.length=q:=⟨_,rfl⟩
  rw[hn2] at hLL HP l1 lL HBD HCK ⊢;clear p0 p1 p2 p3 p4 p5 p6 k0 k1 k2 k3 k4 k5 hP hK hvX hmX hoL hbX hb1 hn2;go_upto_region 6 with fail;go_loopw [8,10,22] (fun v _ i wx=>∃k:Nat,k<=n2/\i=.int .i64 k/\v=.int .i64 (Gt L k)/\Below w1.heap.size w1 wx) (fun _ _ i _=>n2-(intOf i).toNat)
  case atStart=>exact⟨0,Nat.zero_le _,rfl,rfl,Below.refl _ _⟩
  case round =>
   obtain⟨k,hk,rfl,rfl,hbr⟩:=hrel;by_cases hlt:k<n2
   ·obtain⟨bb,ob,Ak,ck,rfl,-,e1,e2,e3,-⟩:=(hLL.keep hbr).at_ hlt
    have B1:(k:Int)<(n2:Int):=by omega
    obtain⟨u1,u2⟩:=HBD.out k hk;obtain⟨u3,u4⟩:=HBD.out (k+1) hlt;have hst:=Lib.hid (show Gt L (k+1)=Gt L k+Kd (lt_ L k) from rfl)
    rw[hst.out] at u3 u4;have hk40:=HCK.out k hlt;have HMA:=Lib.hid (Nz Ak ck (lt_ L k).length (lt_ L k) wr (by omega) e2 e3)
    obtain⟨ar,har⟩:∃a,Kd (lt_ L k)=a:=⟨_,rfl⟩
    obtain⟨us,hus⟩:∃a,Gt L k=a:=⟨_,rfl⟩
    rw[har] at u3 u4 hst HMA;rw[hus] at u1 u2 u3 u4 hst ⊢;clear har hus e3;have W1:IntKind.i64.wrap (us+ar)=us+ar:=by rw[IntKind.wrap_i64];omega
    go_wp2_with (go_at_call 35;refine HMA.out.mono ?_;rintro e w5 ⟨rfl,hb5⟩)
    exact⟨⟨k+1,by omega,by go_num,by rw[hst.out],Ao hbr hb5⟩,by simp[intOf];omega⟩
   ·obtain rfl:n2=k:=by omega
    go_wp2_with fail
    go_ret2
    rw[HP.out];exact⟨rfl,Ao hbW hbr⟩
 ·rw[if_pos hx] at HP
  have hne:(x != 0)=true:=by simpa using hx
  clear hx
  go_wp2_with (go_at_call 10;refine(Nw _ s _ m _ hsm hvX hmX hkp hpl).mono ?_;rintro e w1 ⟨v1,rfl,hoL,hb1⟩;rw[HE.out];dsimp only)
  go_ret2
  rw[HP.out];exact⟨rfl,Ao hbX hb1⟩
end Go.Proofs.YtpbchbcdgikonaaGreat
