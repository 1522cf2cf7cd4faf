/- Lean texts of the claim. -/
import Derived.Test.YtpbchbcdgikonaaGreatQ09
import Derived.Laws.BitsLemmas
namespace Go.Proofs.YtpbchbcdgikonaaGreat
set_option linter.unusedVariables false
set_option linter.unusedSimpArgs false
set_option maxRecDepth 100000
set_option maxHeartbeats 4000000
open Go.RowKit
section
open Go.RowKit Go.Maps
section
variable {α : Type} [DecidableEq α]
def uniq:List α->List α
 | []=>[]
 | x::l=>if x∈l then uniq l else x::uniq l
theorem Q5 {l:List α} {x:α}:x∈uniq l↔x∈l:=by
 induction l with
 | nil=>simp[uniq]
 | cons a l ih =>
   unfold uniq;split
   ·rename_i h
    rw[ih];constructor
    ·exact fun h=>List.mem_cons_of_mem _ h
    ·intro h';rcases List.mem_cons.1 h' with rfl|h'
     ·exact h
     ·exact h'
   ·rw[List.mem_cons,List.mem_cons,ih]
theorem aj (l:List α):(uniq l).Nodup:=by
 induction l with
 | nil=>exact List.nodup_nil
 | cons a l ih =>
   unfold uniq;split
   ·exact ih
   ·rename_i h
    rw[List.nodup_cons];exact⟨fun h'=>h (Q5.1 h'),ih⟩
theorem Vb {l m:List α} (hl:l.Nodup) (hm:m.Nodup) (h:∀x,x∈l↔x∈m):l.Perm m:=by
 induction l generalizing m with
 | nil =>
   have:m=[]:=by
    cases m with
    | nil=>rfl
    | cons a m=>exact absurd ((h a).2 (by simp)) (by simp)
   rw[this]
 | cons a l ih =>
   have ha:a∈m:=(h a).1 (by simp)
   rw[List.nodup_cons] at hl;refine(List.Perm.cons a (ih hl.2 (hm.erase a) fun x=>?_)).trans (List.perm_cons_erase ha).symm
   rw[hm.mem_erase_iff];constructor
   ·intro hx
    exact⟨fun e=>hl.1 (e ▸ hx),(h x).1 (List.mem_cons_of_mem _ hx)⟩
   ·rintro⟨h1,h2⟩
    rcases List.mem_cons.1 ((h x).2 h2) with e|h'
    ·exact absurd e h1
    ·exact h'
end
theorem Zq {l m:List (Int×Int)} (h:l.Perm m):Eh l=Eh m:=by
 unfold Eh;refine List.Perm.eq_of_pairwise (le:=fun x y=>(!ltOf G1 y x)=true) ?_ ?_ ?_ ((List.mergeSort_perm _ _).trans (h.trans (List.mergeSort_perm _ _).symm))
 ·intro a b _ _ h1 h2
  exact Afy a b (by simpa using h2) (by simpa using h1)
 all_goals
  exact List.pairwise_mergeSort (fun a b c h1 h2=>by
   have:=Akc.ntrans c b a (by simpa using h2) (by simpa using h1)
   simpa using this) (fun a b=>by
   rw[ltS,ltS];unfold Ge;simp;omega) _
def Qn (rs:List (List (Int×Int))):List (Int×Int):=Eh ((uniq rs.flatten).filter fun p=>!Cj rs p)
def D7 (a b:List (Int×Int)):Int×List (Int×Int):=if (Bw a b).1≠0 then ((Bw a b).1,[]) else (0,Qn (Bw a b).2)
theorem Ae1 (a b:List (Int×Int)):∀p∈(M9 a b).2,Ce 4194304 p=false:=by
 unfold M9;split
 ·simp
 ·split
  ·simp
  ·split
   ·simp
   ·split
    ·simp
    ·rename_i h _
     intro p hp;obtain⟨i,hi,rfl⟩:=Abs hp;cases ho:Ce 4194304 (gt ((Gg (F5 (Di a).2 (Di b).2 (Di a).2.length)).getD []) i) with
     | false=>rfl
     | true=>exact absurd (Bq.iff.2 ⟨i,hi,ho⟩) h
theorem wh {s:List (Int×Int)} {ts acc:List (List (Int×Int))} (h:∀t∈acc,∀p∈t,Ce 4194304 p=false):∀j,∀t∈(Fx s ts acc j).2,∀p∈t,Ce 4194304 p=false:=by
 intro j;induction j with
 | zero=>exact h
 | succ j ih =>
   rw[Fx];split
   ·exact ih
   ·split
    ·simp
    ·intro t ht
     rcases List.mem_append.1 ht with ht|ht
     ·exact ih t ht
     ·simp at ht;subst ht;exact Ae1 _ _
theorem we {ss ts:List (List (Int×Int))}:∀k,∀t∈(C7 ss ts k).2,∀p∈t,Ce 4194304 p=false:=by
 intro k;induction k with
 | zero=>simp[C7]
 | succ k ih =>
   rw[C7];split
   ·exact ih
   ·exact wh ih _
theorem zf {α:Type} {eq:α->α->Bool} {l:List α} {d:α}:∀(k:Nat),k<=l.length->∀x∈Lc eq l d k,x∈l:=by
 intro k;induction k with
 | zero=>simp[Lc]
 | succ k ih =>
   intro hk x hx;rw[Lc] at hx;split at hx
   ·exact ih (by omega) x hx
   ·rcases List.mem_append.1 hx with hx|hx
    ·exact ih (by omega) x hx
    ·simp at hx;subst hx
     simp[show k<l.length by omega]
theorem qa {α:Type} {eq:α->α->Bool} {l:List α} {d x:α} (h:x∈D6 eq d l):x∈l:=zf l.length (Nat.le_refl _) x h
theorem Nl (a b:List (Int×Int)):(Bw a b).2.length<=1681/\∀t∈(Bw a b).2,t.length<=160/\∀p∈t,Ce 4194304 p=false:=by
 unfold Bw;split
 ·simp
 ·split
  ·simp
  ·split
   ·simp
   ·have h1:=Jw (ss:=(Ba a).2) (ts:=(Ba b).2) (Ba a).2.length
    have h2:=we (ss:=(Ba a).2) (ts:=(Ba b).2) (Ba a).2.length;refine⟨?_,fun t ht=>?_⟩
    ·refine Nat.le_trans (Rl _) ?_
     rw[Lh];exact Nat.le_trans h1.1 (Nat.le_trans (Nat.mul_le_mul (C8 a).1 (C8 b).1) (by omega))
    ·have:=Pf.1 (qa ht)
     exact⟨h1.2 t this,h2 t this⟩
theorem Pr {p:Int×Int} (h:Ce 4194304 p=false):okS p:=by
 unfold Ce at h;simp at h;unfold okS inR;omega
theorem mi {rs:List (List (Int×Int))} {k:Nat} (h:k<rs.length):(rs.take (k+1)).flatten=(rs.take k).flatten++lt_ rs k:=by
 rw[List.take_succ_eq_append_getElem h,List.flatten_append];simp[lt_,h]
theorem Xe {w0 w w':World} {b:Nat} (hb:Below w0.heap.size w0 w) (hg:w.grownBy w' (some b)) (h:w0.heap.size<=b):Below w0.heap.size w0 w' :=
 Below.grown hb hg hb.size (fun k hk=>by cases hk;exact h)
theorem Ox:∀w,(zeroValue 4).run Tryz.prog w=.ok (.bool false) w:=fun _=>by kernel_rfl
theorem OwG.notMap {α:Type} {e:TypeId} {size:Nat} {enc:α->List Value} {w:World} {base b:Nat} {v:Value} {l:List α} (h:OwG e size enc w base v l) (hb:∀cs t fr,w.heap[b]? ≠ some (.cells cs t fr)):v.ownBlock≠some b:=by
 rcases h.2 with ⟨rfl,_⟩|⟨g,cap,cur,rfl,_,hg,_⟩
 ·simp[Value.ownBlock]
 ·intro e
  have:g=b:=by simpa[Value.ownBlock] using e
  subst this;exact hb _ _ _ hg
theorem Ow.noCells {α:Type} {P:Program} {k e:TypeId} {ok:α->Prop} {kl:α->Lit} {w:World} {b r n:Nat} {S L:List α} {cnt:Nat} (h:Ow P k e ok kl w b r n S L cnt):(∀cs t fr,w.heap[b]? ≠ some (.cells cs t fr))/\(∀cs t fr,w.heap[r]? ≠ some (.cells cs t fr))/\b<w.heap.size/\r<w.heap.size:=by
 obtain⟨D,left,⟨es,clock,since,seen,c0,h1,_,_,_,h2,_⟩,_⟩:=h;refine⟨?_,?_,Dk h1,Dk h2⟩
 ·intro cs t fr h;rw[h1] at h;cases h
 ·intro cs t fr h;rw[h2] at h;cases h
theorem Ow.small {α:Type} {P:Program} {k e:TypeId} {ok:α->Prop} {kl:α->Lit} {w:World} {b r n:Nat} {S L:List α} {cnt:Nat} (h:Ow P k e ok kl w b r n S L cnt):cnt<=n:=by
 obtain⟨D,left,⟨es,clock,since,seen,c0,h1,_,h2,_,_,_,h3,_⟩,_⟩:=h;rw[<-h3];refine Nat.le_trans ?_ h2;unfold leftOf;exact Array.size_filter_le
theorem Aed:∀args w,(callFunc 184 args).run Tryz.prog w=.ok (.enter 184 args) w:=by
 intro args w
 kernel_rfl
theorem Sk (A B:Option Addr) (ca cb na nb:Nat) (a b:List (Int×Int)) (w:World) (hna:na<=9223372036854775807) (hnb:nb<=9223372036854775807) (hca:na<=ca) (hcb:nb<=cb) (hsA:SpS w A na a) (hsB:SpS w B nb b) :
 Calls Tryz.prog 155 #[.slice A na ca,.slice B nb cb] w (Wk w (D7 a b)):=by
 by_cases h1:(Bw a b).1=0
 ·have hin:=Nl a b
  obtain⟨rs,hrs⟩:∃rs,(Bw a b).2=rs:=⟨_,rfl⟩
  have hW:=Lib.hid (show D7 a b=(0,Qn rs) by unfold D7;rw[if_neg (by simpa using h1),hrs])
  rw[hrs] at hin;have HRS:=Lib.hid hrs;have hrl:=hin.1;have HIN:=Lib.hid hin.2;have HLEN:=Lib.hid (show ∀t∈rs,t.length<=1000000 from fun t ht=>Nat.le_trans (hin.2 t ht).1 (by omega))
  clear hrs hin;have hmm:=@run_makeMap Tryz.prog;go_enter Tryz.func155,Tryz.ntmps155
  go_upto_region 5 with (go_at_call 182;refine(Nk _ _ _ _ _ _ a b _ hna hnb hca hcb hsA hsB).mono ?_;rintro e w1 ⟨v1,rfl,ho1,hb1⟩;rw[HRS.out] at ho1)
  clear hmm;obtain⟨A1,c1,rfl,hc1,hS1,-⟩:=ho1.spss;obtain⟨nr,hnr⟩:∃nr,rs.length=nr:=⟨_,rfl⟩
  rw[hnr] at hS1 hc1 hrl ⊢;have HNR:=Lib.hid hnr;clear hnr ho1;obtain⟨BM,hBM⟩:∃BM,BM=w1.heap.size:=⟨_,rfl⟩
  have hm0:C5 Tryz.prog 49 4 okS klS (w1.alloc (.map #[] 0)) BM 0 []:=by rw[hBM];exact C5.made w1
  have hBM':w1.heap.size<=BM:=by omega
  rw[<-hBM];have HM0:=Lib.hid hm0;have HB0:=Lib.hid (An (Below.refl w1.heap.size w1) (.map #[] 0));clear hm0 hBM;go_wp2_with fail;go_loopw [27] (fun i wr=>∃k:Nat,k<=nr/\i=.int .i64 k/\C5 Tryz.prog 49 4 okS klS wr BM (k*160) (rs.take k).flatten/\Below w1.heap.size w1 wr) (fun i _=>nr-(intOf i).toNat)
  case atStart=>exact⟨0,Nat.zero_le _,rfl,HM0.out.mono (Nat.zero_le _),HB0.out⟩
  case round =>
   clear HM0 HB0;obtain⟨k,hk,rfl,hm,hbr⟩:=hrel;by_cases hlt:k<nr
   ·obtain⟨b1,o1,Ak,ck,rfl,hbl,e1,e2,e3,e4⟩:=hS1.at_ hlt
    have HT:=Lib.hid (HIN.out _ (It (ls:=rs) (k:=k) (by rw[HNR.out];exact hlt)))
    have l1:(lt_ rs k).length<=160:=HT.out.1;obtain⟨nk,hnk⟩:∃nk,(lt_ rs k).length=nk:=⟨_,rfl⟩
    rw[hnk] at e1 e2 e3 l1;have HNK:=Lib.hid hnk;clear hnk;have e1':=Aq hbr e1;clear e1 hbl;go_wp2_with fail;clear e1';obtain⟨wo,rfl⟩:∃wo:World,wo=wr:=⟨_,rfl⟩
    go_loopw [33] (fun i wx=>∃j:Nat,j<=nk/\i=.int .i64 j/\C5 Tryz.prog 49 4 okS klS wx BM (k*160+j) ((rs.take k).flatten++(lt_ rs k).take j)/\Below w1.heap.size w1 wx) (fun i _=>nk-(intOf i).toNat)
    case atStart=>exact⟨0,Nat.zero_le _,rfl,by rw[List.take_zero,List.append_nil];exact hm,hbr⟩
    case round =>
     clear hm hbr;obtain⟨j,hj,rfl,hm,hbx⟩:=hrel;by_cases hjn:j<nk
     ·obtain⟨b2,o2,rfl,hbl2,hc⟩:=(e3.keep hbx).at_ hjn
      obtain⟨d1,d2⟩:=hc j hjn;clear hc;have hj':j<(lt_ rs k).length:=by rw[HNK.out];exact hjn
      have hok:okS (gt (lt_ rs k) j):=Pr (HT.out.2 _ (List.mem_of_getElem? (Gh hj')));have HE:=Lib.hid (show (rs.take k).flatten++(lt_ rs k).take (j+1)=(rs.take k).flatten++(lt_ rs k).take j++[gt (lt_ rs k) j] by rw[List.append_assoc,List.take_succ_eq_append_getElem hj'];simp[gt,hj'])
      have hkj:k*160+j<maxLen:=by unfold maxLen;omega
      go_wp2_with (at_mapUpdate;refine Du rfl _ _ _ 217 rfl vw Tryz.underlying217 Tryz.underlying4 rfl (hm.alloc _) hkj (gt (lt_ rs k) j) hok rfl rfl ?_;intro w5 ho5 hg5)
      exact⟨⟨j+1,by omega,by go_num,by rw[HE.out];exact ho5,Xe (An hbx _) hg5 hBM'⟩,by simp[intOf];omega⟩
     ·obtain rfl:nk=j:=by omega
      have HE:=Lib.hid (show (rs.take (k+1)).flatten=(rs.take k).flatten++(lt_ rs k).take nk by rw[mi (by rw[HNR.out];exact hlt),List.take_of_length_le (l:=lt_ rs k) (by rw[HNK.out];exact Nat.le_refl _)])
      go_wp2_with fail;exact⟨⟨k+1,by omega,by go_num,by rw[HE.out];exact hm.mono (by omega),hbx⟩,by simp[intOf];omega⟩
   ·obtain rfl:nr=k:=by omega
    rw[List.take_of_length_le (by rw[HNR.out];exact Nat.le_refl _)] at hm
    obtain⟨wo,rfl⟩:∃wo:World,wo=wr:=⟨_,rfl⟩
    go_wp2_with (at_range;refine Nb rfl _ 217 rfl vw Tryz.underlying217 rfl hm ?_;intro w6 cnt6 hrg6 hg6 hs6)
    obtain⟨BI,hBI⟩:∃BI,BI=wo.heap.size:=⟨_,rfl⟩
    rw[<-hBI] at hrg6 ⊢;have hb6:Below w1.heap.size w1 w6:=Ao hbr ⟨hg6.os,hg6.tape,hg6.output,hg6.size,fun k hk=>hg6.block k hk (by simp)⟩
    have hBI':w1.heap.size<=BI:=by rw[hBI];exact hbr.size
    have hc6:=hrg6.small;clear hg6 hs6 hbr hm hBI
    go_frame
    go_loopw [13] (fun v wx=>∃(L:List (Int×Int)) (cnt:Nat),Ow Tryz.prog 49 4 okS klS wx BM BI (nr*160) rs.flatten L cnt/\L.length+cnt<=cnt6/\OwS wx w1.heap.size v (L.filter fun p=>!Cj rs p)/\Below w1.heap.size w1 wx) (fun _ wx=>wx.rangeLeft BM BI)
    case atStart=>exact⟨[],cnt6,hrg6,by simp,OwG.nil,hb6⟩
    case round =>
     clear hrg6 hb6;obtain⟨L,cnt,hrg,hcnt,ho,hbx⟩:=hrel
     go_wp2_with (at_next;refine Oy rfl _ rfl vw Tryz.underlying4 rfl hrg ?_ ?_)
     ·intro hdone
      obtain⟨D',left',-,-,hnd,-,-,-,-⟩:=hrg;have hP:(L.filter fun p=>!Cj rs p).Perm ((uniq rs.flatten).filter fun p=>!Cj rs p):=(Vb hnd (aj _) fun x=>by obtain⟨x1,x2⟩:=x;rw[Q5];have:=hdone.out x1 x2;simpa using this.symm).filter _
      have hE:Eh (L.filter fun p=>!Cj rs p)=Qn rs:=Zq hP
      have HE:=Lib.hid hE;have hlen:(L.filter fun p=>!Cj rs p).length<=L.length:=List.length_filter_le _ _
      clear hP hE hnd
      go_wp2_with (go_at_call 131;refine(Xa _ Aed (fun _ _ _ _ _=>Nt _ _ _ _ _) _ w1.heap.size (L.filter fun p=>!Cj rs p) _ (by omega) ho).mono ?_;rintro e w8 ⟨rfl,ho8,hg8⟩;rw[HE.out] at ho8)
      go_ret2
      exact⟨_,by rw[hW.out];rfl,by rw[hW.out];exact OwG.lower ho8 hb1.size,Ao hb1 (Bm hbx ho hg8)⟩
     ·intro q
      obtain⟨⟨px,py⟩,c,w7,cnt7,hxS,hxL,hrg7,hlt7,hg7,hs7,hen7⟩:=q;dsimp only[Adp] at hen7 ⊢;have hb7:Below w1.heap.size w1 w7:=Xe hbx hg7 hBI';have hnc:=hrg.noCells;have ho7:OwS w7 w1.heap.size u13 (L.filter fun p=>!Cj rs p):=OwG.kept ho hg7 (Or.inr (OwG.notMap ho hnc.2.1))
      have HRG7:=Lib.hid hrg7;have hlen:(L.filter fun p=>!Cj rs p).length<=L.length:=List.length_filter_le _ _
      have hL6:=hrg.left;clear hxS hxL hg7 hs7 hrg7 hnc ho hrg hbx;by_cases hbk:Cj rs (px,py)=true
      ·have hf:=Lib.hid (show ((L++[(px,py)]).filter fun p=>!Cj rs p)=L.filter fun p=>!Cj rs p by rw[List.filter_append];simp[hbk])
       go_wp2_with (go_at_call 183;refine(Ou _ _ _ rs _ _ _ (by omega) HLEN.out (hS1.keep (An hb7 _))).mono ?_;rintro e w8 ⟨rfl,hb8⟩)
       have hr8:=(HRG7.out.keep (An (Below.refl _ _) _)).keep hb8;exact⟨⟨L++[(px,py)],cnt7,hr8,by simp;omega,by rw[hf.out];exact OwG.keep (OwG.alloc ho7 _) hb8,Ao (An hb7 _) hb8⟩,by rw[hr8.left,hL6];exact hlt7⟩
      ·have hbk':Cj rs (px,py)=false:=by simpa using hbk
       clear hbk;have hf:=Lib.hid (show ((L++[(px,py)]).filter fun p=>!Cj rs p)=(L.filter fun p=>!Cj rs p)++[(px,py)] by rw[List.filter_append];simp[hbk'])
       have hB7:=Lib.hid (Bb.new w7 49 #[.int .i64 px,.int .i64 py])
       go_wp2_with (first|(go_at_call 183;refine(Ou _ _ _ rs _ _ _ (by omega) HLEN.out (hS1.keep (An hb7 _))).mono ?_;rintro e w8 ⟨rfl,hb8⟩;have k0:=hB7.out.keep hb8;have a1:=k0.cell 0;have a2:=k0.cell 1;simp only[List.getElem?_toArray,List.getElem?_cons_zero,List.getElem?_cons_succ] at a1 a2)|(at_builtin;refine Ec rfl _ _ rfl w1.heap.size _ (L.filter fun p=>!Cj rs p) rfl (OwG.alloc (OwG.keep (OwG.alloc ho7 _) hb8) _) w8.heap.size 1 (px,py) 49 rfl (Bb.new _ _ _) (by omega) (An (Ao (An hb7 _) hb8) _).size ?_;intro v9 w9 ho9 hg9 hat9))
       have hr8:=((HRG7.out.keep (An (Below.refl _ _) _)).keep hb8).keep (An (Below.refl _ _) (.cells #[.int .i64 px,.int .i64 py] 49));have ho8:=OwG.alloc (OwG.keep (OwG.alloc ho7 (.cells #[.int .i64 px,.int .i64 py] 49)) hb8) (.cells #[.int .i64 px,.int .i64 py] 49);have hnc:=hr8.noCells;have hr9:=hr8.kept hg9 (OwG.notMap ho8 hnc.1).symm (OwG.notMap ho8 hnc.2.1).symm;exact⟨⟨L++[(px,py)],cnt7,hr9,by simp;omega,by rw[hf.out];exact ho9,Bm (An (Ao (An hb7 _) hb8) _) ho8 hg9⟩,by rw[hr9.left,hL6];exact hlt7⟩
 ·have hr:=Lib.hid (show D7 a b=((Bw a b).1,[]) by unfold D7;rw[if_pos h1])
  have q2:((Bw a b).1 != 0)=true:=by simpa using h1
  go_enter Tryz.func155,Tryz.ntmps155
  go_wp2_with (go_at_call 182;refine(Nk _ _ _ _ _ _ a b _ hna hnb hca hcb hsA hsB).mono ?_;rintro e w1 ⟨v1,rfl,ho1,hb1⟩)
  go_ret2
  exact⟨_,by rw[hr.out];rfl,by rw[hr.out];exact OwG.nil,hb1⟩
end
theorem Akn (n:Int):bits .and .i64 n 3=n % 4:=by
 have h3:(BitVec.ofInt 64 3).toNat=2 ^ 2-1:=by decide
 have key:(BitVec.ofInt 64 n &&& BitVec.ofInt 64 3).toNat=(n % ((2 ^ 64:Nat):Int)).toNat % 2 ^ 2:=by
  rw[BitVec.toNat_and,BitVec.toNat_ofInt,h3,Nat.and_two_pow_sub_one_eq_mod]
 show IntKind.i64.wrap ((BitVec.ofInt 64 n &&& BitVec.ofInt 64 3).toNat:Nat)=n % 4
 rw[key,IntKind.wrap_i64];omega
theorem ft (f:Bool) (q:Int) (w:World) :
 Calls Tryz.prog 32 #[.agg #[.bool f,.int .i64 q]] w fun e w'=>e=.returned (.agg #[.bool f,.int .i64 (q % 4)])/\Below w.heap.size w w':=by
 have h3:=Akn q;go_enter Tryz.func32,Tryz.ntmps32;go_wp2;exact bodyPost_ret (v:=.agg #[.bool f,.int .i64 (q % 4)]) (by simp[results,Tryz.results32,go_sem]) rfl ⟨rfl,An (An (Below.refl _ _) _) _⟩
def Afc (p:Int×Int):Int×Int:=(wrap64 (-p.2),p.1)
def R6:Nat->Int×Int->Int×Int
 | 0,p=>p
 | k+1,p=>Afc (R6 k p)
def Ad7 (f:Bool) (p:Int×Int):Int×Int:=if f then (wrap64 (-p.1),p.2) else p
def C4 (f:Bool) (q:Int) (p:Int×Int):Int×Int:=R6 (q % 4).toNat (Ad7 f p)
theorem Gn (f:Bool) (q x y:Int) (w:World) :
 Calls Tryz.prog 31 #[.agg #[.bool f,.int .i64 q],.agg #[.int .i64 x,.int .i64 y]] w fun e w'=>e=.returned (.agg #[.int .i64 (C4 f q (x,y)).1,.int .i64 (C4 f q (x,y)).2])/\Below w.heap.size w w':=by
 obtain⟨m,hm,hm3,hmq⟩:∃m:Nat,bits .and .i64 q 3=(m:Int)/\m<=3/\Hid ((q % 4).toNat=m):=⟨(q % 4).toNat,by rw[Akn];omega,by omega,rfl⟩
 cases f with
 | true =>
   go_enter Tryz.func31,Tryz.ntmps31;go_wp2;go_loopw [14] (fun i wr=>∃k:Nat,k<=m/\i=.int .i64 k/\Bb wr (w.heap.size+1) 49 #[.int .i64 (R6 k (wrap64 (-x),y)).1,.int .i64 (R6 k (wrap64 (-x),y)).2]/\Bb wr (w.heap.size+1+1) 49 #[.int .i64 0,.int .i64 0]/\Below w.heap.size w wr) (fun i _=>m-(intOf i).toNat)
   case atStart=>exact⟨0,Nat.zero_le _,rfl,(Bb.new2 _ _ _ _).alloc _,Bb.new3 _ _ _ _ _,An (An (An (Below.refl _ _) _) _) _⟩
   case round =>
    clear hm;obtain⟨k,hk,rfl,hB,hC,hb⟩:=hrel;have c1:=hB.cell 0;have c2:=hB.cell 1;have f1:=hB.frozen 0;have f2:=hB.frozen 1;have l1:=hB.lt;have c3:=hC.cell 0;have c4:=hC.cell 1;have f3:=hC.frozen 0;have f4:=hC.frozen 1;have l2:=hC.lt;simp only[List.getElem?_toArray,List.getElem?_cons_zero,List.getElem?_cons_succ] at c1 c2 c3 c4;by_cases hlt:k<m
    ·go_wp2_with fail
     exact⟨⟨k+1,by omega,by go_num,(hB.set_ 0 _).set_ 1 _,(hC.far (p:=⟨w.heap.size+1,0,none⟩) (by simp) _).far (p:=⟨w.heap.size+1,1,none⟩) (by simp) _,Bc (Bc hb (p:=⟨w.heap.size+1,0,none⟩) (by simp) _) (p:=⟨w.heap.size+1,1,none⟩) (by simp) _⟩,by simp[intOf];omega⟩
    ·obtain rfl:m=k:=by omega
     go_wp2_with fail;refine bodyPost_ret (v:=.agg #[.int .i64 (R6 m (wrap64 (-x),y)).1,.int .i64 (R6 m (wrap64 (-x),y)).2]) (by simp[results,Tryz.results31,go_sem,c3,c4]) rfl ⟨by unfold C4;rw[hmq.out];rfl,Bc (Bc hb (p:=⟨w.heap.size+1+1,0,none⟩) (by simp;omega) _) (p:=⟨w.heap.size+1+1,1,none⟩) (by simp;omega) _⟩
 | false =>
   go_enter Tryz.func31,Tryz.ntmps31;go_wp2;go_loopw [14] (fun i wr=>∃k:Nat,k<=m/\i=.int .i64 k/\Bb wr (w.heap.size+1) 49 #[.int .i64 (R6 k (x,y)).1,.int .i64 (R6 k (x,y)).2]/\Bb wr (w.heap.size+1+1) 49 #[.int .i64 0,.int .i64 0]/\Below w.heap.size w wr) (fun i _=>m-(intOf i).toNat)
   case atStart=>exact⟨0,Nat.zero_le _,rfl,(Bb.new2 _ _ _ _).alloc _,Bb.new3 _ _ _ _ _,An (An (An (Below.refl _ _) _) _) _⟩
   case round =>
    clear hm;obtain⟨k,hk,rfl,hB,hC,hb⟩:=hrel;have c1:=hB.cell 0;have c2:=hB.cell 1;have f1:=hB.frozen 0;have f2:=hB.frozen 1;have l1:=hB.lt;have c3:=hC.cell 0;have c4:=hC.cell 1;have f3:=hC.frozen 0;have f4:=hC.frozen 1;have l2:=hC.lt;simp only[List.getElem?_toArray,List.getElem?_cons_zero,List.getElem?_cons_succ] at c1 c2 c3 c4;by_cases hlt:k<m
    ·go_wp2_with fail
     exact⟨⟨k+1,by omega,by go_num,(hB.set_ 0 _).set_ 1 _,(hC.far (p:=⟨w.heap.size+1,0,none⟩) (by simp) _).far (p:=⟨w.heap.size+1,1,none⟩) (by simp) _,Bc (Bc hb (p:=⟨w.heap.size+1,0,none⟩) (by simp) _) (p:=⟨w.heap.size+1,1,none⟩) (by simp) _⟩,by simp[intOf];omega⟩
    ·obtain rfl:m=k:=by omega
     go_wp2_with fail;refine bodyPost_ret (v:=.agg #[.int .i64 (R6 m (x,y)).1,.int .i64 (R6 m (x,y)).2]) (by simp[results,Tryz.results31,go_sem,c3,c4]) rfl ⟨by unfold C4;rw[hmq.out];rfl,Bc (Bc hb (p:=⟨w.heap.size+1+1,0,none⟩) (by simp;omega) _) (p:=⟨w.heap.size+1+1,1,none⟩) (by simp;omega) _⟩
def Zf (g:Int) (m f:Bool) (q:Int):Bool:=(f == m)&&(if g == 1 then q % 4 == 0 else if g == 2 then (q % 4 == 0 || q % 4 == 2) else g == 4)
theorem Hu (g:Int) (m f:Bool) (q:Int) (w:World) :
 Calls Tryz.prog 16 #[.int .i64 g,.bool m,.agg #[.bool f,.int .i64 q]] w fun e w'=>e=.returned (.bool (Zf g m f q))/\Below w.heap.size w w':=by
 have h0:=Lib.hid (Bb.new w 48 #[.bool f,.int .i64 q]);go_enter Tryz.func16,Tryz.ntmps16
 go_wp2_with (go_at_call 32;refine(ft _ _ _).mono ?_;rintro e w1 ⟨rfl,hb1⟩;have k0:=h0.out.keep hb1;have a1:=k0.cell 0;have a2:=k0.cell 1;have a3:=k0.frozen 0;have a4:=k0.frozen 1;have l0:=k0.lt;simp only[List.getElem?_toArray,List.getElem?_cons_zero,List.getElem?_cons_succ] at a1 a2)
 all_goals go_ret
 all_goals refine⟨Bn ?_,Bc (Bc (Ao (An (Below.refl _ _) _) hb1) (p:=⟨w.heap.size,0,none⟩) (by simp) _) (p:=⟨w.heap.size,1,none⟩) (by simp) _⟩
 all_goals clear hb1 k0 a1 a2 a3 a4 l0 h0
 all_goals (unfold Zf;simp_all)
abbrev Trn:=Bool×Int
def enT (p:Trn):List Value:=[.bool p.1,.int .i64 p.2]
theorem Vz (p:Trn):(enT p).length=2:=rfl
theorem Aef (p:Trn):∀u∈enT p,u.oneCell'=true:=by
 intro u hu;simp[enT] at hu;rcases hu with rfl|rfl<;>rfl
theorem Ajq:(Tryz.prog.info? 48).map (fun i=>(i.zero,i.size,i.bytes))=some (some (.agg #[.bool false,.int .i64 0]),2,16):=by kernel_rfl
def Kb (g:Int) (m:Bool):Nat->List Trn
 | 0=>[]
 | k+1=>Kb g m k++(if Zf g m m (k:Int) then [(m,(k:Int))] else [])
def sf (g:Int) (m:Bool):List Trn:=Kb g m 4
theorem Ov (g:Int) (m:Bool) (k:Nat):(Kb g m k).length<=k:=by
 induction k with
 | zero=>exact Nat.le_refl _
 | succ k ih=>rw[Kb,List.length_append];split<;>simp<;>omega
theorem Ae0 (g:Int) (m:Bool) (w:World) :
 Calls Tryz.prog 98 #[.int .i64 g,.bool m] w fun e w'=>∃v,e=.returned v/\OwG 48 2 enT w' w.heap.size v (sf g m)/\Below w.heap.size w w':=by
 go_enter Tryz.func98,Tryz.ntmps98;go_wp2_with fail;go_loopw [5,8] (fun v i wr=>∃k:Nat,k<=4/\i=.int .i64 k/\OwG 48 2 enT wr w.heap.size v (Kb g m k)/\Below w.heap.size w wr) (fun _ i _=>4-(intOf i).toNat)
 case atStart=>exact⟨0,Nat.zero_le _,rfl,OwG.nil,Below.refl _ _⟩
 case round =>
  obtain⟨k,hk,rfl,ho,hb⟩:=hrel;by_cases hlt:k<4
  ·have hlt':(k:Int)<4:=by omega
   have hB:=Lib.hid (Bb.new wr 48 #[.bool m,.int .i64 (k:Int)]);by_cases ha:Zf g m m (k:Int)=true
   ·have e1:=Lib.hid (show Kb g m (k+1)=Kb g m k++[(m,(k:Int))] by rw[Kb,if_pos ha])
    go_wp2_with (first|(go_at_call 16;refine(Hu _ _ _ _ _).mono ?_;rintro e w1 ⟨rfl,hb1⟩;have k0:=hB.out.keep hb1;have a1:=k0.cell 0;have a2:=k0.cell 1;simp only[List.getElem?_toArray,List.getElem?_cons_zero,List.getElem?_cons_succ] at a1 a2)|(at_builtin;refine Cr rfl _ _ 188 rfl enT w.heap.size 48 (.agg #[.bool false,.int .i64 0]) 2 16 Tryz.underlying188 Ajq rfl (by omega) Vz Aef _ (Kb g m k) rfl (((ho.alloc _).keep hb1).alloc _) w1.heap.size 1 (m,(k:Int)) 48 rfl (Bb.new _ _ _) (by have:=Ov g m k;unfold maxLen;omega) (by have:=Ov g m k;omega) (An (Ao (An hb _) hb1) _).size ?_;intro v' w2 ho' hg' hat'))
    exact⟨⟨k+1,by omega,by go_num,by rw[e1.out];exact ho',Bm (An (Ao (An hb _) hb1) _) (((ho.alloc _).keep hb1).alloc _) hg'⟩,by simp[intOf];omega⟩
   ·have ha':Zf g m m (k:Int)=false:=by simpa using ha
    have e1:=Lib.hid (show Kb g m (k+1)=Kb g m k by rw[Kb,if_neg ha,List.append_nil])
    clear ha
    go_wp2_with (go_at_call 16;refine(Hu _ _ _ _ _).mono ?_;rintro e w1 ⟨rfl,hb1⟩)
    exact⟨⟨k+1,by omega,by go_num,by rw[e1.out];exact(ho.alloc _).keep hb1,Ao (An hb _) hb1⟩,by simp[intOf];omega⟩
  ·obtain rfl:k=4:=by omega
   go_wp2_with fail;go_ret;exact⟨_,rfl,ho,hb⟩
def Fv (f:Bool) (q:Int) (l:List (Int×Int)):List (Int×Int):=if f then (l.map (C4 f q)).reverse else l.map (C4 f q)
theorem Fg (f:Bool) (q:Int) (l:List (Int×Int)):(Fv f q l).length=l.length:=by unfold Fv;split<;>simp
theorem Ahh {l:List (Int×Int)} {p:Nat} (hp:p<l.length):gt l.reverse p=gt l (l.length-1-p):=by
 unfold gt;rw[List.getD,List.getElem?_reverse hp];rfl
theorem uf {f:Bool} {q:Int} {l:List (Int×Int)} {p:Nat} (hp:p<l.length):gt (Fv f q l) p=C4 f q (gt l (if f then l.length-1-p else p)):=by
 unfold Fv;cases f
 ·simp only[Bool.false_eq_true,if_false];exact Abt hp
 ·simp only[if_true];rw[Ahh (by simpa using hp),List.length_map,Abt (by omega)]
theorem Se (f:Bool) (q:Int) (A:Option Addr) (cap n:Nat) (l:List (Int×Int)) (w:World) (hn:n<=1000000) (hs:SpS w A n l) :
 Calls Tryz.prog 15 #[.agg #[.bool f,.int .i64 q],.slice A n cap] w (Zk w (Fv f q l)):=by
 obtain⟨Z,hmk,hZ⟩:=He n hn;go_enter Tryz.func15,Tryz.ntmps15;go_wp2_with fail;go_loopw [13] (fun i wr=>∃(k:Nat) (z:List (Int×Int)),k<=n/\i=.int .i64 k/\z.length=n/\(∀p,p<k->gt z (if f then n-1-p else p)=C4 f q (gt l p))/\Bb wr w.heap.size 48 #[.bool f,.int .i64 q]/\OwS wr (w.heap.size+1) (.slice (some ⟨w.heap.size+1,0,none⟩) n n) z/\Below w.heap.size w wr) (fun i _=>n-(intOf i).toNat)
 case atStart=>exact⟨0,_,Nat.zero_le _,rfl,List.length_replicate,fun p hp=>absurd hp (Nat.not_lt_zero _),(Bb.new _ _ _).alloc _,by have:=hZ (w.alloc (.cells #[.bool f,.int .i64 q] 48));simpa using this,An (An (Below.refl _ _) _) _⟩
 case round =>
  clear hmk hZ;obtain⟨k,z,hk,rfl,hz,hp,hB,ho,hb⟩:=hrel;by_cases hlt:k<n
  ·obtain⟨b,off,rfl,hbl,hc⟩:=(hs.keep hb).at_ hlt
   obtain⟨h1,h2⟩:=hc k hlt;clear hc;have hB1:Bb (wr.alloc (.cells #[.int .i64 (gt l k).1,.int .i64 (gt l k).2] 49)) w.heap.size 48 #[.bool f,.int .i64 q]:=hB.alloc _;have d1:=hB.cell 0;have d2:=hB.cell 1;have hHl:=hB.lt;simp only[List.getElem?_toArray,List.getElem?_cons_zero,List.getElem?_cons_succ] at d1 d2;have HP:=Lib.hid hp;clear hp;have hoA:=Lib.hid (OwG.alloc ho (.cells #[.int .i64 (gt l k).1,.int .i64 (gt l k).2] 49));have hgl:w.heap.size+1<wr.heap.size:=Bj (ho.cells hz hlt).1;cases f with
   | true =>
     obtain⟨i,hi,hin⟩:∃i:Nat,n-1-k=i/\i<n:=⟨_,rfl,by omega⟩
     have hii:(n:Int)-1-(k:Int)=(i:Int):=by omega
     have HI:=Lib.hid hi;clear hi
     go_wp2_with (go_at_call 31;refine(Gn _ _ _ _ _).mono ?_;rintro e w1 ⟨rfl,hb1⟩;have ho1:=OwG.keep hoA.out hb1;obtain⟨c1,c2,f1,f2⟩:=OwS.cells ho1 hz hin;have hg1:w.heap.size+1<w1.heap.size:=Bj c1)
     refine⟨⟨k+1,z.set i (C4 true q ((gt l k).1,(gt l k).2)),by omega,by go_num,by rw[List.length_set];exact hz,fun p h=>?_,((hB1.keep hb1).far (p:=⟨w.heap.size+1,i*2,none⟩) (Nat.ne_of_lt (Nat.lt_succ_self _)) _).far (p:=⟨w.heap.size+1,i*2+1,none⟩) (Nat.ne_of_lt (Nat.lt_succ_self _)) _,OwS.store ho1 hz hin _ _,Bc (Bc (Ao (An hb _) hb1) (p:=⟨w.heap.size+1,i*2,none⟩) (Nat.le_succ _) _) (p:=⟨w.heap.size+1,i*2+1,none⟩) (Nat.le_succ _) _⟩,by simp[intOf];omega⟩
     rw[Kq (by rw[hz];exact hin)]
     have hi:=HI.out
     try simp only[if_true,if_false,Bool.false_eq_true]
     by_cases h2:k=p
     ·subst h2
      rw[if_pos (by omega)]
     ·rw[if_neg (by omega)]
      have:=HP.out p (by omega)
      simpa using this
   | false =>
     have hin:=hlt
     go_wp2_with (go_at_call 31;refine(Gn _ _ _ _ _).mono ?_;rintro e w1 ⟨rfl,hb1⟩;have ho1:=OwG.keep hoA.out hb1;obtain⟨c1,c2,f1,f2⟩:=OwS.cells ho1 hz hin;have hg1:w.heap.size+1<w1.heap.size:=Bj c1)
     refine⟨⟨k+1,z.set k (C4 false q ((gt l k).1,(gt l k).2)),by omega,by go_num,by rw[List.length_set];exact hz,fun p h=>?_,((hB1.keep hb1).far (p:=⟨w.heap.size+1,k*2,none⟩) (Nat.ne_of_lt (Nat.lt_succ_self _)) _).far (p:=⟨w.heap.size+1,k*2+1,none⟩) (Nat.ne_of_lt (Nat.lt_succ_self _)) _,OwS.store ho1 hz hin _ _,Bc (Bc (Ao (An hb _) hb1) (p:=⟨w.heap.size+1,k*2,none⟩) (Nat.le_succ _) _) (p:=⟨w.heap.size+1,k*2+1,none⟩) (Nat.le_succ _) _⟩,by simp[intOf];omega⟩
     rw[Kq (by rw[hz];exact hin)]
     skip
     try simp only[if_true,if_false,Bool.false_eq_true]
     by_cases h2:k=p
     ·subst h2
      rw[if_pos (by omega)]
     ·rw[if_neg (by omega)]
      have:=HP.out p (by omega)
      simpa using this
  ·obtain rfl:n=k:=by omega
   go_wp2_with fail;go_ret;refine⟨_,rfl,?_,hb⟩
   have he:Fv f q l=z:=Fz (by rw[Fg,hs.1,hz]) (fun p h=>by
    rw[Fg] at h;rw[uf h,hs.1];rw[hs.1] at h;cases f
    ·have:=hp p h
     simp only[Bool.false_eq_true,if_false] at this ⊢;exact this.symm
    ·have:=hp (n-1-p) (by omega)
     simp only[if_true] at this ⊢;rw[<-this];congr 1;omega)
   rw[he];exact ho.lower (Nat.le_succ _)
structure Shp where
 poly:List (Int×Int)
 grain:Int
 mat:Bool
 anc:Int×Int
structure Pt5 where
 sh:Int
 fl:Bool
 qu:Int
 x:Int
 y:Int
deriving DecidableEq
def shp (S:List Shp) (k:Nat):Shp:=S.getD k ⟨[],0,false,(0,0)⟩
def pt (ps:List Pt5) (k:Nat):Pt5:=ps.getD k ⟨0,false,0,0,0⟩
def Lk (p:Pt5):Value:=.agg #[.int .i64 p.sh,.bool p.fl,.int .i64 p.qu,.int .i64 p.x,.int .i64 p.y]
def enP (p:Pt5):List Value:=[.int .i64 p.sh,.bool p.fl,.int .i64 p.qu,.int .i64 p.x,.int .i64 p.y]
theorem J6 (p:Pt5):(enP p).length=5:=rfl
theorem oz (p:Pt5):∀u∈enP p,u.oneCell'=true:=by
 intro u hu;simp[enP] at hu;rcases hu with rfl|rfl|rfl|rfl|rfl<;>rfl
def Aix (w:World) (b o:Nat) (s:Shp):Prop :=
 ∃Ak ck,w.cell? ⟨b,o,none⟩=some (.slice Ak s.poly.length ck)/\s.poly.length<=ck/\ck<=9223372036854775807/\SpS w Ak s.poly.length s.poly/\(Ak=none->ck=0) /\
  w.cell? ⟨b,o+1,none⟩=some (.int .i64 s.grain)/\w.cell? ⟨b,o+2,none⟩=some (.bool s.mat)/\w.cell? ⟨b,o+3,none⟩=some (.int .i64 s.anc.1)/\w.cell? ⟨b,o+4,none⟩=some (.int .i64 s.anc.2)
def ShS (w:World) (A:Option Addr) (n:Nat) (S:List Shp):Prop:=S.length=n/\n<=100000000000000/\(n=0\/∃b off,A=some ⟨b,off,none⟩/\∀k,k<n->Aix w b (off+k*5) (shp S k))
theorem Aix.keep {w w':World} {b o:Nat} {s:Shp} (h:Aix w b o s) (hb:Below w.heap.size w w'):Aix w' b o s:=by
 obtain⟨Ak,ck,h1,h2,h3,h4,h5,h6,h7,h8,h9⟩:=h;exact⟨Ak,ck,Aq hb h1,h2,h3,h4.keep hb,h5,Aq hb h6,Aq hb h7,Aq hb h8,Aq hb h9⟩
theorem ShS.keep {w w':World} {A:Option Addr} {n:Nat} {S:List Shp} (h:ShS w A n S) (hb:Below w.heap.size w w'):ShS w' A n S:=by
 refine⟨h.1,h.2.1,?_⟩;obtain⟨h1,-,h⟩:=h;rcases h with rfl|⟨b,off,rfl,h⟩
 ·exact .inl rfl
 ·exact .inr ⟨b,off,rfl,fun k hk=>(h k hk).keep hb⟩
theorem ShS.at_ {w:World} {A:Option Addr} {n:Nat} {S:List Shp} (h:ShS w A n S) {k:Nat} (hk:k<n):∃b off,A=some ⟨b,off,none⟩/\b<w.heap.size/\Aix w b (off+k*5) (shp S k):=by
 obtain⟨h1,-,h⟩:=h;rcases h with rfl|⟨b,off,rfl,h⟩
 ·omega
 ·obtain⟨Ak,ck,g1,_⟩:=h k hk
  exact⟨b,off,rfl,Bj g1,h k hk⟩
def PuS (w:World) (A:Option Addr) (n:Nat) (ps:List Pt5):Prop:=ps.length=n/\(n=0\/∃b off,A=some ⟨b,off,none⟩/\∀k,k<n ->
 w.cell? ⟨b,off+k*5,none⟩=some (.int .i64 (pt ps k).sh)/\w.cell? ⟨b,off+k*5+1,none⟩=some (.bool (pt ps k).fl)/\w.cell? ⟨b,off+k*5+2,none⟩=some (.int .i64 (pt ps k).qu)/\w.cell? ⟨b,off+k*5+3,none⟩=some (.int .i64 (pt ps k).x)/\w.cell? ⟨b,off+k*5+4,none⟩=some (.int .i64 (pt ps k).y))
theorem PuS.keep {w w':World} {A:Option Addr} {n:Nat} {ps:List Pt5} (h:PuS w A n ps) (hb:Below w.heap.size w w'):PuS w' A n ps:=by
 refine⟨h.1,?_⟩;obtain⟨h1,h⟩:=h;rcases h with rfl|⟨b,off,rfl,h⟩
 ·exact .inl rfl
 ·refine .inr ⟨b,off,rfl,fun k hk=>?_⟩
  obtain⟨a1,a2,a3,a4,a5⟩:=h k hk;exact⟨Aq hb a1,Aq hb a2,Aq hb a3,Aq hb a4,Aq hb a5⟩
theorem PuS.at_ {w:World} {A:Option Addr} {n:Nat} {ps:List Pt5} (h:PuS w A n ps) {k:Nat} (hk:k<n):∃b off,A=some ⟨b,off,none⟩/\b<w.heap.size/\w.cell? ⟨b,off+k*5,none⟩=some (.int .i64 (pt ps k).sh)/\w.cell? ⟨b,off+k*5+1,none⟩=some (.bool (pt ps k).fl)/\w.cell? ⟨b,off+k*5+2,none⟩=some (.int .i64 (pt ps k).qu)/\w.cell? ⟨b,off+k*5+3,none⟩=some (.int .i64 (pt ps k).x)/\w.cell? ⟨b,off+k*5+4,none⟩=some (.int .i64 (pt ps k).y):=by
 obtain⟨h1,h⟩:=h;rcases h with rfl|⟨b,off,rfl,h⟩
 ·omega
 ·exact⟨b,off,rfl,Bj (h k hk).1,h k hk⟩
def td (w:World) (r:Int×List (Int×Int)) (e:Ending) (w':World):Prop :=
 ∃v,e=.returned (.tuple #[v,.int .i64 r.1])/\OwS w' w.heap.size v r.2/\Below w.heap.size w w'
def Ip (l:List (Int×Int)) (p:Pt5):Int×List (Int×Int) :=
 if Bf l l.length≠0 then (Bf l l.length,[]) else if Bf (Th (Fv p.fl p.qu l) (p.x,p.y)) l.length≠0 then (Bf (Th (Fv p.fl p.qu l) (p.x,p.y)) l.length,[]) else (0,Th (Fv p.fl p.qu l) (p.x,p.y))
def Be (S:List Shp) (p:Pt5):Int×List (Int×Int):=if p.sh<0\/p.sh ≥ S.length\/Ce 1048576 (p.x,p.y)=true then (3,[]) else Ip (shp S p.sh.toNat).poly p
theorem jq (A:Option Addr) (cap n:Nat) (S:List Shp) (p:Pt5) (w:World) (hS:ShS w A n S) (h:p.sh<0\/p.sh ≥ n\/Ce 1048576 (p.x,p.y)=true) :
 Calls Tryz.prog 26 #[.slice A n cap,Lk p] w (td w (3,[])):=by
 obtain⟨sh,fl,qu,x,y⟩:=p;unfold Lk;dsimp only at h ⊢;have hn:=hS.2.1;go_enter Tryz.func26,Tryz.ntmps26;by_cases h1:sh<0
 ·go_wp2_with fail
  go_ret2
  exact⟨_,rfl,OwG.nil,An (Below.refl _ _) _⟩
 ·by_cases h2:sh ≥ n
  ·go_wp2_with fail
   go_ret2
   exact⟨_,rfl,OwG.nil,An (Below.refl _ _) _⟩
  ·have h3:Ce 1048576 (x,y)=true:=by rcases h with h|h|h;exact absurd h h1;exact absurd h h2;exact h
   go_wp2_with (go_at_call 47;refine(Dp _ _ _).mono ?_;rintro e w1 ⟨rfl,hb1⟩)
   go_ret2
   exact⟨_,rfl,OwG.nil,Ao (An (Below.refl _ _) _) hb1⟩
theorem wm (A:Option Addr) (cap n:Nat) (S:List Shp) (p:Pt5) (k:Nat) (w:World) (hS:ShS w A n S) (hk:p.sh=(k:Int)) (hkn:k<n) (ho:Ce 1048576 (p.x,p.y)=false) :
 Calls Tryz.prog 26 #[.slice A n cap,Lk p] w (td w (Ip (shp S k).poly p)):=by
 obtain⟨sh,fl,qu,x,y⟩:=p;dsimp only at hk ho;subst hk;unfold Lk;dsimp only;have hn:=hS.2.1;obtain⟨b,off,rfl,hbl,Ak,ck,g1,g2,g3,g4,g5,g6,g7,g8,g9⟩:=hS.at_ hkn;obtain⟨l,hl⟩:∃l,(shp S k).poly=l:=⟨_,rfl⟩
 rw[hl] at g1 g2 g4 ⊢;clear hl g6 g7 g8 g9;obtain⟨m,hm⟩:∃m,l.length=m:=⟨_,rfl⟩
 rw[hm] at g1 g2 g4;have HM:=Lib.hid hm;clear hm;have hB:=Lib.hid (Bb.new w 89 #[.int .i64 (k:Int),.bool fl,.int .i64 qu,.int .i64 x,.int .i64 y]);by_cases hc:Bf l m=0
 ·have q:(Bf l m != 0)=false:=by rw[hc];rfl
  have hm40:=(D9 hc).2;have HC:=Lib.hid hc;clear hc;obtain⟨r,hr⟩:∃r,Th (Fv fl qu l) (x,y)=r:=⟨_,rfl⟩
  have hrl:r.length=m:=by rw[<-hr,Kl,Fg,HM.out]
  have hP:=Lib.hid (show Ip l ⟨(k:Int),fl,qu,x,y⟩=if Bf r m≠0 then (Bf r m,[]) else (0,r) by unfold Ip;rw[HM.out,if_neg (by rw[HC.out];simp),hr])
  have HRR:=Lib.hid hr;have HRL:=Lib.hid hrl;clear hr hrl;go_enter Tryz.func26,Tryz.ntmps26
  go_upto_region 7 with (first|(go_at_call 47;refine(Dp _ _ _).mono ?_;rintro e w1 ⟨rfl,hb1⟩;have k0:=hB.out.keep hb1;have a1:=k0.cell 0;simp only[List.getElem?_toArray,List.getElem?_cons_zero,List.getElem?_cons_succ] at a1;have g1':=Aq (Ao (An (Below.refl _ _) _) hb1) g1)|(go_at_call 33;refine(Cz _ _ _ l _ (by omega) g2 (g4.keep (Ao (An (Below.refl _ _) _) hb1))).mono ?_;rintro e w2 ⟨rfl,hb2⟩))
  have hb:=Ao (Ao (An (Below.refl _ _) _) hb1) hb2;have k2:=k0.keep hb2;have hS2:=g4.keep hb;have d1:=k2.cell 1;have d2:=k2.cell 2;have d3:=k2.cell 3;have d4:=k2.cell 4;simp only[List.getElem?_toArray,List.getElem?_cons_zero,List.getElem?_cons_succ] at d1 d2 d3 d4;clear g1' a1 k0 hb1 hb2 g1 hB k2;go_cut [8] (fun v wx=>OwS wx w.heap.size v r/\Below w.heap.size w wx)
  case first =>
   go_region_held3 (fun w'=>w'.cell? ⟨w.heap.size,1,none⟩=some (.bool fl)/\w'.cell? ⟨w.heap.size,2,none⟩=some (.int .i64 qu)/\w'.cell? ⟨w.heap.size,3,none⟩=some (.int .i64 x)/\w'.cell? ⟨w.heap.size,4,none⟩=some (.int .i64 y))
    (first
     | go_keep
     | exact⟨Aq hb3 d1,Aq hb3 d2,Aq hb3 d3,Aq hb3 d4⟩
     | exact⟨Aq hb4 (Aq hb3 d1),Aq hb4 (Aq hb3 d2),Aq hb4 (Aq hb3 d3),Aq hb4 (Aq hb3 d4)⟩)
    ((first
      | (go_at_call 15;refine(Se _ _ _ _ _ l _ (by omega) (hS2.keep (Aw (Below.refl _ _)))).mono ?_;rintro e w3 ⟨v3,rfl,ho3,hb3⟩;obtain⟨A3,c3,rfl,hc3,hS3,-,-⟩:=OwS.els ho3;rw[Fg,HM.out] at hS3 ⊢)
      | (go_at_call 14;refine(x7 _ _ _ (Fv fl qu l) _ _ _ (by omega) hS3).mono ?_;rintro e w4 ⟨v4,rfl,ho4,hb4⟩)))
   all_goals go_wp2_with fail
   all_goals go_meet
   all_goals (rw[HRR.out] at ho4;exact⟨OwG.lower ho4 (Nat.le_trans hb.size hb3.size),Ao (Ao (Aw hb) hb3) hb4⟩)
  case rest =>
   clear hb hS2 d1 d2 d3 d4;obtain⟨ho,hb⟩:=hcut;obtain⟨A8,c8,rfl,hc8,hS8,-,-⟩:=OwS.els ho;rw[HRL.out] at hc8 hS8 ho ⊢;by_cases hc2:Bf r m=0
   ·have q2:(Bf r m != 0)=false:=by rw[hc2];rfl
    rw[hc2] at hP
    go_wp2_with (go_at_call 33;refine(Cz _ _ _ r _ (by omega) hc8 hS8).mono ?_;rintro e w5 ⟨rfl,hb5⟩)
    go_ret2
    exact⟨_,by rw[hP.out];rfl,by rw[hP.out];exact OwG.keep ho hb5,Ao hb hb5⟩
   ·have q2:(Bf r m != 0)=true:=by simpa using hc2
    rw[if_pos hc2] at hP;clear hc2
    go_wp2_with (go_at_call 33;refine(Cz _ _ _ r _ (by omega) hc8 hS8).mono ?_;rintro e w5 ⟨rfl,hb5⟩)
    go_ret2
    exact⟨_,by rw[hP.out];rfl,by rw[hP.out];exact OwG.nil,Ao hb hb5⟩
 ·have q:(Bf l m != 0)=true:=by simpa using hc
  have HR:=Lib.hid (show Ip l ⟨(k:Int),fl,qu,x,y⟩=(Bf l m,[]) by unfold Ip;rw[HM.out,if_pos hc])
  clear hc;go_enter Tryz.func26,Tryz.ntmps26
  go_wp2_with (first|(go_at_call 47;refine(Dp _ _ _).mono ?_;rintro e w1 ⟨rfl,hb1⟩;have k0:=hB.out.keep hb1;have a1:=k0.cell 0;simp only[List.getElem?_toArray,List.getElem?_cons_zero,List.getElem?_cons_succ] at a1;have g1':=Aq (Ao (An (Below.refl _ _) _) hb1) g1)|(go_at_call 33;refine(Cz _ _ _ l _ (by omega) g2 (g4.keep (Ao (An (Below.refl _ _) _) hb1))).mono ?_;rintro e w2 ⟨rfl,hb2⟩))
  go_ret2
  exact⟨_,by rw[HR.out];rfl,by rw[HR.out];exact OwG.nil,Ao (Ao (An (Below.refl _ _) _) hb1) hb2⟩
theorem Bu (A:Option Addr) (cap n:Nat) (S:List Shp) (p:Pt5) (w:World) (hS:ShS w A n S) :
 Calls Tryz.prog 26 #[.slice A n cap,Lk p] w (td w (Be S p)):=by
 by_cases h:p.sh<0\/p.sh ≥ n\/Ce 1048576 (p.x,p.y)=true
 ·rw[show Be S p=(3,[]) by unfold Be;rw[hS.1,if_pos h]]
  exact jq A cap n S p w hS h
 ·rw[show Be S p=Ip (shp S p.sh.toNat).poly p by unfold Be;rw[hS.1,if_neg h]]
  simp only[not_or] at h;exact wm A cap n S p p.sh.toNat w hS (by omega) (by omega) (by simpa using h.2.2)
end Go.Proofs.YtpbchbcdgikonaaGreat
