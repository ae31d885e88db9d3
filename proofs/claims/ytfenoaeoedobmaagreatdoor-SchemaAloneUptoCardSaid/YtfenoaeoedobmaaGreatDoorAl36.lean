/-
Parts of a proof, one behind the other (laid dense by a program of mine: pack.py).
-/
import Derived.Test.YtfenoaeoedobmaaGreatDoorAl35
set_option linter.unusedVariables false
set_option linter.unusedSimpArgs false
set_option maxRecDepth 20000
namespace Go.Proofs.YtfenoaeoedobmaaGreatDoor
open Go Go.RowKit
noncomputable def twA:Code:=(ncl (ncr (ncr (ncx Tryz.f29.body))))
noncomputable def twB:Code:=(ncl (ncr (ncr (ncr (ncx Tryz.f29.body)))))
noncomputable def twC:Code:=(ncl (ncr (ncr (ncr (ncr (ncx Tryz.f29.body))))))
noncomputable def twD:Code:=(ncl (ncr (ncr (ncr (ncr (ncr (ncx Tryz.f29.body)))))))
noncomputable def twZ:Code:=(ncr (ncr (ncr (ncr (ncr (ncr (ncr (ncx Tryz.f29.body))))))))
noncomputable def twDel:Code:=(nct (ncr (ncb (ncl (ncr (ncr (ncr (ncr (ncr (ncr (ncx Tryz.f29.body)))))))))))
noncomputable def twQ9:Code:=(ncl (nce (ncr (ncb (ncl (ncr (ncr (ncr (ncr (ncr (ncr (ncx Tryz.f29.body))))))))))))
noncomputable def twQ16:Code:=(ncl (nce (ncr (nce (ncr (ncb (ncl (ncr (ncr (ncr (ncr (ncr (ncr (ncx Tryz.f29.body))))))))))))))
noncomputable def twQ27:Code:=(ncl (nce (ncr (nce (ncr (nce (ncr (ncb (ncl (ncr (ncr (ncr (ncr (ncr (ncr (ncx Tryz.f29.body))))))))))))))))
noncomputable def twE1:Code:=(ncl (nct (ncr (nce (ncr (ncb (ncl (ncr (ncr (ncr (ncr (ncr (ncr (ncx Tryz.f29.body))))))))))))))
noncomputable def twE2:Code:=(ncl (ncr (nct (ncr (nce (ncr (ncb (ncl (ncr (ncr (ncr (ncr (ncr (ncr (ncx Tryz.f29.body)))))))))))))))
noncomputable def twEl:Code:=(ncb (ncr (ncr (nct (ncr (nce (ncr (ncb (ncl (ncr (ncr (ncr (ncr (ncr (ncr (ncx Tryz.f29.body))))))))))))))))
noncomputable def twEh:Code:=(ncl (nco (ncb (ncr (ncr (nct (ncr (nce (ncr (ncb (ncl (ncr (ncr (ncr (ncr (ncr (ncr (ncx Tryz.f29.body))))))))))))))))))
noncomputable def twEi:Code:=(ncl (ncr (nco (ncb (ncr (ncr (nct (ncr (nce (ncr (ncb (ncl (ncr (ncr (ncr (ncr (ncr (ncr (ncx Tryz.f29.body)))))))))))))))))))
noncomputable def twEa:Code:=(ncl (ncb (ncl (ncr (ncr (nco (ncb (ncr (ncr (nct (ncr (nce (ncr (ncb (ncl (ncr (ncr (ncr (ncr (ncr (ncr (ncx Tryz.f29.body))))))))))))))))))))))
noncomputable def twEc:Code:=(ncr (ncb (ncl (ncr (ncr (nco (ncb (ncr (ncr (nct (ncr (nce (ncr (ncb (ncl (ncr (ncr (ncr (ncr (ncr (ncr (ncx Tryz.f29.body))))))))))))))))))))))
noncomputable def twEo:Code:=(ncb (ncl (ncr (ncr (nco (ncb (ncr (ncr (nct (ncr (nce (ncr (ncb (ncl (ncr (ncr (ncr (ncr (ncr (ncr (ncx Tryz.f29.body)))))))))))))))))))))
noncomputable def twEn:Code:=(ncr (ncr (ncr (nco (ncb (ncr (ncr (nct (ncr (nce (ncr (ncb (ncl (ncr (ncr (ncr (ncr (ncr (ncr (ncx Tryz.f29.body))))))))))))))))))))
noncomputable def twT1:Code:=(ncl (nct (ncr (nce (ncr (nce (ncr (ncb (ncl (ncr (ncr (ncr (ncr (ncr (ncr (ncx Tryz.f29.body))))))))))))))))
noncomputable def twT2:Code:=(ncl (ncr (nct (ncr (nce (ncr (nce (ncr (ncb (ncl (ncr (ncr (ncr (ncr (ncr (ncr (ncx Tryz.f29.body)))))))))))))))))
noncomputable def twTl:Code:=(ncb (ncr (ncr (nct (ncr (nce (ncr (nce (ncr (ncb (ncl (ncr (ncr (ncr (ncr (ncr (ncr (ncx Tryz.f29.body))))))))))))))))))
noncomputable def twTh:Code:=(ncl (nco (ncb (ncr (ncr (nct (ncr (nce (ncr (nce (ncr (ncb (ncl (ncr (ncr (ncr (ncr (ncr (ncr (ncx Tryz.f29.body))))))))))))))))))))
noncomputable def twTi:Code:=(ncl (ncr (nco (ncb (ncr (ncr (nct (ncr (nce (ncr (nce (ncr (ncb (ncl (ncr (ncr (ncr (ncr (ncr (ncr (ncx Tryz.f29.body)))))))))))))))))))))
noncomputable def twTa:Code:=(ncl (ncb (ncl (ncr (ncr (nco (ncb (ncr (ncr (nct (ncr (nce (ncr (nce (ncr (ncb (ncl (ncr (ncr (ncr (ncr (ncr (ncr (ncx Tryz.f29.body))))))))))))))))))))))))
noncomputable def twTb:Code:=(ncl (ncr (ncb (ncl (ncr (ncr (nco (ncb (ncr (ncr (nct (ncr (nce (ncr (nce (ncr (ncb (ncl (ncr (ncr (ncr (ncr (ncr (ncr (ncx Tryz.f29.body)))))))))))))))))))))))))
noncomputable def twTc:Code:=(ncl (ncr (ncr (ncb (ncl (ncr (ncr (nco (ncb (ncr (ncr (nct (ncr (nce (ncr (nce (ncr (ncb (ncl (ncr (ncr (ncr (ncr (ncr (ncr (ncx Tryz.f29.body))))))))))))))))))))))))))
noncomputable def twTd:Code:=(ncr (ncr (ncr (ncb (ncl (ncr (ncr (nco (ncb (ncr (ncr (nct (ncr (nce (ncr (nce (ncr (ncb (ncl (ncr (ncr (ncr (ncr (ncr (ncr (ncx Tryz.f29.body))))))))))))))))))))))))))
noncomputable def twTo:Code:=(ncb (ncl (ncr (ncr (nco (ncb (ncr (ncr (nct (ncr (nce (ncr (nce (ncr (ncb (ncl (ncr (ncr (ncr (ncr (ncr (ncr (ncx Tryz.f29.body)))))))))))))))))))))))
noncomputable def twTn:Code:=(ncr (ncr (ncr (nco (ncb (ncr (ncr (nct (ncr (nce (ncr (nce (ncr (ncb (ncl (ncr (ncr (ncr (ncr (ncr (ncr (ncx Tryz.f29.body))))))))))))))))))))))
noncomputable def twU0:Code:=(ncl (nct (ncr (nce (ncr (nce (ncr (nce (ncr (ncb (ncl (ncr (ncr (ncr (ncr (ncr (ncr (ncx Tryz.f29.body))))))))))))))))))
noncomputable def twU1:Code:=(ncl (ncr (nct (ncr (nce (ncr (nce (ncr (nce (ncr (ncb (ncl (ncr (ncr (ncr (ncr (ncr (ncr (ncx Tryz.f29.body)))))))))))))))))))
noncomputable def twU2:Code:=(ncl (ncr (ncr (nct (ncr (nce (ncr (nce (ncr (nce (ncr (ncb (ncl (ncr (ncr (ncr (ncr (ncr (ncr (ncx Tryz.f29.body))))))))))))))))))))
noncomputable def twUl:Code:=(ncb (ncr (ncr (ncr (nct (ncr (nce (ncr (nce (ncr (nce (ncr (ncb (ncl (ncr (ncr (ncr (ncr (ncr (ncr (ncx Tryz.f29.body)))))))))))))))))))))
noncomputable def twUh:Code:=(ncl (nco (ncb (ncr (ncr (ncr (nct (ncr (nce (ncr (nce (ncr (nce (ncr (ncb (ncl (ncr (ncr (ncr (ncr (ncr (ncr (ncx Tryz.f29.body)))))))))))))))))))))))
noncomputable def twUi:Code:=(ncl (ncr (nco (ncb (ncr (ncr (ncr (nct (ncr (nce (ncr (nce (ncr (nce (ncr (ncb (ncl (ncr (ncr (ncr (ncr (ncr (ncr (ncx Tryz.f29.body))))))))))))))))))))))))
noncomputable def twUo:Code:=(ncb (ncl (ncr (ncr (nco (ncb (ncr (ncr (ncr (nct (ncr (nce (ncr (nce (ncr (nce (ncr (ncb (ncl (ncr (ncr (ncr (ncr (ncr (ncr (ncx Tryz.f29.body))))))))))))))))))))))))))
noncomputable def twUa:Code:=(ncl (ncb (ncl (ncr (ncr (nco (ncb (ncr (ncr (ncr (nct (ncr (nce (ncr (nce (ncr (nce (ncr (ncb (ncl (ncr (ncr (ncr (ncr (ncr (ncr (ncx Tryz.f29.body)))))))))))))))))))))))))))
noncomputable def twUb:Code:=(ncl (ncr (ncb (ncl (ncr (ncr (nco (ncb (ncr (ncr (ncr (nct (ncr (nce (ncr (nce (ncr (nce (ncr (ncb (ncl (ncr (ncr (ncr (ncr (ncr (ncr (ncx Tryz.f29.body))))))))))))))))))))))))))))
noncomputable def twUc:Code:=(ncl (ncr (ncr (ncb (ncl (ncr (ncr (nco (ncb (ncr (ncr (ncr (nct (ncr (nce (ncr (nce (ncr (nce (ncr (ncb (ncl (ncr (ncr (ncr (ncr (ncr (ncr (ncx Tryz.f29.body)))))))))))))))))))))))))))))
noncomputable def twUd:Code:=(ncl (ncr (ncr (ncr (ncb (ncl (ncr (ncr (nco (ncb (ncr (ncr (ncr (nct (ncr (nce (ncr (nce (ncr (nce (ncr (ncb (ncl (ncr (ncr (ncr (ncr (ncr (ncr (ncx Tryz.f29.body))))))))))))))))))))))))))))))
noncomputable def twUe:Code:=(ncl (ncr (ncr (ncr (ncr (ncb (ncl (ncr (ncr (nco (ncb (ncr (ncr (ncr (nct (ncr (nce (ncr (nce (ncr (nce (ncr (ncb (ncl (ncr (ncr (ncr (ncr (ncr (ncr (ncx Tryz.f29.body)))))))))))))))))))))))))))))))
noncomputable def twUf:Code:=(ncr (ncr (ncr (ncr (ncr (ncb (ncl (ncr (ncr (nco (ncb (ncr (ncr (ncr (nct (ncr (nce (ncr (nce (ncr (nce (ncr (ncb (ncl (ncr (ncr (ncr (ncr (ncr (ncr (ncx Tryz.f29.body)))))))))))))))))))))))))))))))
noncomputable def twUn:Code:=(ncr (ncr (ncr (nco (ncb (ncr (ncr (ncr (nct (ncr (nce (ncr (nce (ncr (nce (ncr (ncb (ncl (ncr (ncr (ncr (ncr (ncr (ncr (ncx Tryz.f29.body)))))))))))))))))))))))))
theorem tw_act (a:Act) (hs:a.tmps.size=172) (hd:a.defers=[]):∃v:Nat→Value,(∀(i:Nat) (x:Value),a.tmps[i]? =some x→v i=x)∧a=⟨#[v 0,v 1,v 2,v 3,v 4,v 5,v 6,v 7,v 8,v 9,v 10,v 11,v 12,v 13,v 14,v 15,v 16,v 17,v 18,v 19,v 20,v 21,v 22,v 23,v 24,v 25,v 26,v 27,v 28,v 29,v 30,v 31,v 32,v 33,v 34,v 35,v 36,v 37,v 38,v 39,v 40,v 41,v 42,v 43,v 44,v 45,v 46,v 47,v 48,v 49,v 50,v 51,v 52,v 53,v 54,v 55,v 56,v 57,v 58,v 59,v 60,v 61,v 62,v 63,v 64,v 65,v 66,v 67,v 68,v 69,v 70,v 71,v 72,v 73,v 74,v 75,v 76,v 77,v 78,v 79,v 80,v 81,v 82,v 83,v 84,v 85,v 86,v 87,v 88,v 89,v 90,v 91,v 92,v 93,v 94,v 95,v 96,v 97,v 98,v 99,v 100,v 101,v 102,v 103,v 104,v 105,v 106,v 107,v 108,v 109,v 110,v 111,v 112,v 113,v 114,v 115,v 116,v 117,v 118,v 119,v 120,v 121,v 122,v 123,v 124,v 125,v 126,v 127,v 128,v 129,v 130,v 131,v 132,v 133,v 134,v 135,v 136,v 137,v 138,v 139,v 140,v 141,v 142,v 143,v 144,v 145,v 146,v 147,v 148,v 149,v 150,v 151,v 152,v 153,v 154,v 155,v 156,v 157,v 158,v 159,v 160,v 161,v 162,v 163,v 164,v 165,v 166,v 167,v 168,v 169,v 170,v 171],[]⟩:=by
 obtain ⟨t,d⟩:=a;obtain ⟨l⟩:=t;obtain rfl:d=[]:=hd;have hl:l.length=172:=hs;refine ⟨fun i=>l.getD i undef,fun i x hx=> ?_,?_⟩
 ·have hx':l[i]? =some x:=by simpa using hx
  simp[List.getD,hx']
 ·have e:l=(List.range 172).map (fun i=>l.getD i undef):=by
   apply List.ext_getElem
   ·simp[hl]
   ·intro i h1 h2;simp[List.getD,h1]
  generalize (fun i=>l.getD i undef)=v at e ⊢;subst e;rfl
structure TwO (a:Act) (bb:Nat) (wb:Nat):Prop where
 size:a.tmps.size=172
 dfr:a.defers=[]
 s1:a.tmps[1]? =some (.pointer (some ⟨bb,0,none⟩))
 s3:a.tmps[3]? =some (.pointer (some ⟨wb,0,none⟩))
theorem TwO.shape {a:Act} {bb:Nat} {wb:Nat} (h:TwO a bb wb):∃v:Nat→Value,a=⟨#[v 0,.pointer (some ⟨bb,0,none⟩),v 2,.pointer (some ⟨wb,0,none⟩),v 4,v 5,v 6,v 7,v 8,v 9,v 10,v 11,v 12,v 13,v 14,v 15,v 16,v 17,v 18,v 19,v 20,v 21,v 22,v 23,v 24,v 25,v 26,v 27,v 28,v 29,v 30,v 31,v 32,v 33,v 34,v 35,v 36,v 37,v 38,v 39,v 40,v 41,v 42,v 43,v 44,v 45,v 46,v 47,v 48,v 49,v 50,v 51,v 52,v 53,v 54,v 55,v 56,v 57,v 58,v 59,v 60,v 61,v 62,v 63,v 64,v 65,v 66,v 67,v 68,v 69,v 70,v 71,v 72,v 73,v 74,v 75,v 76,v 77,v 78,v 79,v 80,v 81,v 82,v 83,v 84,v 85,v 86,v 87,v 88,v 89,v 90,v 91,v 92,v 93,v 94,v 95,v 96,v 97,v 98,v 99,v 100,v 101,v 102,v 103,v 104,v 105,v 106,v 107,v 108,v 109,v 110,v 111,v 112,v 113,v 114,v 115,v 116,v 117,v 118,v 119,v 120,v 121,v 122,v 123,v 124,v 125,v 126,v 127,v 128,v 129,v 130,v 131,v 132,v 133,v 134,v 135,v 136,v 137,v 138,v 139,v 140,v 141,v 142,v 143,v 144,v 145,v 146,v 147,v 148,v 149,v 150,v 151,v 152,v 153,v 154,v 155,v 156,v 157,v 158,v 159,v 160,v 161,v 162,v 163,v 164,v 165,v 166,v 167,v 168,v 169,v 170,v 171],[]⟩:=by
 obtain ⟨v,hv,hd⟩:=tw_act a h.size h.dfr;have e1:=hv 1 _ h.s1;have e3:=hv 3 _ h.s3;refine ⟨v,?_⟩;rw[hd];simp only[e1,e3]
structure TwP (a:Act) (bb:Nat) (wb:Nat) (k0:Nat):Prop where
 size:a.tmps.size=172
 dfr:a.defers=[]
 s1:a.tmps[1]? =some (.pointer (some ⟨bb,0,none⟩))
 s3:a.tmps[3]? =some (.pointer (some ⟨wb,0,none⟩))
 s4:a.tmps[4]? =some (.int .i64 (k0:Int))
theorem TwP.shape {a:Act} {bb:Nat} {wb:Nat} {k0:Nat} (h:TwP a bb wb k0):∃v:Nat→Value,a=⟨#[v 0,.pointer (some ⟨bb,0,none⟩),v 2,.pointer (some ⟨wb,0,none⟩),.int .i64 (k0:Int),v 5,v 6,v 7,v 8,v 9,v 10,v 11,v 12,v 13,v 14,v 15,v 16,v 17,v 18,v 19,v 20,v 21,v 22,v 23,v 24,v 25,v 26,v 27,v 28,v 29,v 30,v 31,v 32,v 33,v 34,v 35,v 36,v 37,v 38,v 39,v 40,v 41,v 42,v 43,v 44,v 45,v 46,v 47,v 48,v 49,v 50,v 51,v 52,v 53,v 54,v 55,v 56,v 57,v 58,v 59,v 60,v 61,v 62,v 63,v 64,v 65,v 66,v 67,v 68,v 69,v 70,v 71,v 72,v 73,v 74,v 75,v 76,v 77,v 78,v 79,v 80,v 81,v 82,v 83,v 84,v 85,v 86,v 87,v 88,v 89,v 90,v 91,v 92,v 93,v 94,v 95,v 96,v 97,v 98,v 99,v 100,v 101,v 102,v 103,v 104,v 105,v 106,v 107,v 108,v 109,v 110,v 111,v 112,v 113,v 114,v 115,v 116,v 117,v 118,v 119,v 120,v 121,v 122,v 123,v 124,v 125,v 126,v 127,v 128,v 129,v 130,v 131,v 132,v 133,v 134,v 135,v 136,v 137,v 138,v 139,v 140,v 141,v 142,v 143,v 144,v 145,v 146,v 147,v 148,v 149,v 150,v 151,v 152,v 153,v 154,v 155,v 156,v 157,v 158,v 159,v 160,v 161,v 162,v 163,v 164,v 165,v 166,v 167,v 168,v 169,v 170,v 171],[]⟩:=by
 obtain ⟨v,hv,hd⟩:=tw_act a h.size h.dfr;have e1:=hv 1 _ h.s1;have e3:=hv 3 _ h.s3;have e4:=hv 4 _ h.s4;refine ⟨v,?_⟩;rw[hd];simp only[e1,e3,e4]
structure TwL5 (a:Act) (bb:Nat) (wb:Nat) (lv:Nat):Prop where
 size:a.tmps.size=172
 dfr:a.defers=[]
 s1:a.tmps[1]? =some (.pointer (some ⟨bb,0,none⟩))
 s3:a.tmps[3]? =some (.pointer (some ⟨wb,0,none⟩))
 s5:a.tmps[5]? =some (.int .i64 (lv:Int))
theorem TwL5.shape {a:Act} {bb:Nat} {wb:Nat} {lv:Nat} (h:TwL5 a bb wb lv):∃v:Nat→Value,a=⟨#[v 0,.pointer (some ⟨bb,0,none⟩),v 2,.pointer (some ⟨wb,0,none⟩),v 4,.int .i64 (lv:Int),v 6,v 7,v 8,v 9,v 10,v 11,v 12,v 13,v 14,v 15,v 16,v 17,v 18,v 19,v 20,v 21,v 22,v 23,v 24,v 25,v 26,v 27,v 28,v 29,v 30,v 31,v 32,v 33,v 34,v 35,v 36,v 37,v 38,v 39,v 40,v 41,v 42,v 43,v 44,v 45,v 46,v 47,v 48,v 49,v 50,v 51,v 52,v 53,v 54,v 55,v 56,v 57,v 58,v 59,v 60,v 61,v 62,v 63,v 64,v 65,v 66,v 67,v 68,v 69,v 70,v 71,v 72,v 73,v 74,v 75,v 76,v 77,v 78,v 79,v 80,v 81,v 82,v 83,v 84,v 85,v 86,v 87,v 88,v 89,v 90,v 91,v 92,v 93,v 94,v 95,v 96,v 97,v 98,v 99,v 100,v 101,v 102,v 103,v 104,v 105,v 106,v 107,v 108,v 109,v 110,v 111,v 112,v 113,v 114,v 115,v 116,v 117,v 118,v 119,v 120,v 121,v 122,v 123,v 124,v 125,v 126,v 127,v 128,v 129,v 130,v 131,v 132,v 133,v 134,v 135,v 136,v 137,v 138,v 139,v 140,v 141,v 142,v 143,v 144,v 145,v 146,v 147,v 148,v 149,v 150,v 151,v 152,v 153,v 154,v 155,v 156,v 157,v 158,v 159,v 160,v 161,v 162,v 163,v 164,v 165,v 166,v 167,v 168,v 169,v 170,v 171],[]⟩:=by
 obtain ⟨v,hv,hd⟩:=tw_act a h.size h.dfr;have e1:=hv 1 _ h.s1;have e3:=hv 3 _ h.s3;have e5:=hv 5 _ h.s5;refine ⟨v,?_⟩;rw[hd];simp only[e1,e3,e5]
structure TwL8 (a:Act) (bb:Nat) (wb:Nat) (lv:Nat):Prop where
 size:a.tmps.size=172
 dfr:a.defers=[]
 s1:a.tmps[1]? =some (.pointer (some ⟨bb,0,none⟩))
 s3:a.tmps[3]? =some (.pointer (some ⟨wb,0,none⟩))
 s8:a.tmps[8]? =some (.int .i64 (lv:Int))
theorem TwL8.shape {a:Act} {bb:Nat} {wb:Nat} {lv:Nat} (h:TwL8 a bb wb lv):∃v:Nat→Value,a=⟨#[v 0,.pointer (some ⟨bb,0,none⟩),v 2,.pointer (some ⟨wb,0,none⟩),v 4,v 5,v 6,v 7,.int .i64 (lv:Int),v 9,v 10,v 11,v 12,v 13,v 14,v 15,v 16,v 17,v 18,v 19,v 20,v 21,v 22,v 23,v 24,v 25,v 26,v 27,v 28,v 29,v 30,v 31,v 32,v 33,v 34,v 35,v 36,v 37,v 38,v 39,v 40,v 41,v 42,v 43,v 44,v 45,v 46,v 47,v 48,v 49,v 50,v 51,v 52,v 53,v 54,v 55,v 56,v 57,v 58,v 59,v 60,v 61,v 62,v 63,v 64,v 65,v 66,v 67,v 68,v 69,v 70,v 71,v 72,v 73,v 74,v 75,v 76,v 77,v 78,v 79,v 80,v 81,v 82,v 83,v 84,v 85,v 86,v 87,v 88,v 89,v 90,v 91,v 92,v 93,v 94,v 95,v 96,v 97,v 98,v 99,v 100,v 101,v 102,v 103,v 104,v 105,v 106,v 107,v 108,v 109,v 110,v 111,v 112,v 113,v 114,v 115,v 116,v 117,v 118,v 119,v 120,v 121,v 122,v 123,v 124,v 125,v 126,v 127,v 128,v 129,v 130,v 131,v 132,v 133,v 134,v 135,v 136,v 137,v 138,v 139,v 140,v 141,v 142,v 143,v 144,v 145,v 146,v 147,v 148,v 149,v 150,v 151,v 152,v 153,v 154,v 155,v 156,v 157,v 158,v 159,v 160,v 161,v 162,v 163,v 164,v 165,v 166,v 167,v 168,v 169,v 170,v 171],[]⟩:=by
 obtain ⟨v,hv,hd⟩:=tw_act a h.size h.dfr;have e1:=hv 1 _ h.s1;have e3:=hv 3 _ h.s3;have e8:=hv 8 _ h.s8;refine ⟨v,?_⟩;rw[hd];simp only[e1,e3,e8]
structure TwL12 (a:Act) (bb:Nat) (wb:Nat) (lv:Nat):Prop where
 size:a.tmps.size=172
 dfr:a.defers=[]
 s1:a.tmps[1]? =some (.pointer (some ⟨bb,0,none⟩))
 s3:a.tmps[3]? =some (.pointer (some ⟨wb,0,none⟩))
 s12:a.tmps[12]? =some (.int .i64 (lv:Int))
theorem TwL12.shape {a:Act} {bb:Nat} {wb:Nat} {lv:Nat} (h:TwL12 a bb wb lv):∃v:Nat→Value,a=⟨#[v 0,.pointer (some ⟨bb,0,none⟩),v 2,.pointer (some ⟨wb,0,none⟩),v 4,v 5,v 6,v 7,v 8,v 9,v 10,v 11,.int .i64 (lv:Int),v 13,v 14,v 15,v 16,v 17,v 18,v 19,v 20,v 21,v 22,v 23,v 24,v 25,v 26,v 27,v 28,v 29,v 30,v 31,v 32,v 33,v 34,v 35,v 36,v 37,v 38,v 39,v 40,v 41,v 42,v 43,v 44,v 45,v 46,v 47,v 48,v 49,v 50,v 51,v 52,v 53,v 54,v 55,v 56,v 57,v 58,v 59,v 60,v 61,v 62,v 63,v 64,v 65,v 66,v 67,v 68,v 69,v 70,v 71,v 72,v 73,v 74,v 75,v 76,v 77,v 78,v 79,v 80,v 81,v 82,v 83,v 84,v 85,v 86,v 87,v 88,v 89,v 90,v 91,v 92,v 93,v 94,v 95,v 96,v 97,v 98,v 99,v 100,v 101,v 102,v 103,v 104,v 105,v 106,v 107,v 108,v 109,v 110,v 111,v 112,v 113,v 114,v 115,v 116,v 117,v 118,v 119,v 120,v 121,v 122,v 123,v 124,v 125,v 126,v 127,v 128,v 129,v 130,v 131,v 132,v 133,v 134,v 135,v 136,v 137,v 138,v 139,v 140,v 141,v 142,v 143,v 144,v 145,v 146,v 147,v 148,v 149,v 150,v 151,v 152,v 153,v 154,v 155,v 156,v 157,v 158,v 159,v 160,v 161,v 162,v 163,v 164,v 165,v 166,v 167,v 168,v 169,v 170,v 171],[]⟩:=by
 obtain ⟨v,hv,hd⟩:=tw_act a h.size h.dfr;have e1:=hv 1 _ h.s1;have e3:=hv 3 _ h.s3;have e12:=hv 12 _ h.s12;refine ⟨v,?_⟩;rw[hd];simp only[e1,e3,e12]
structure TwE (a:Act) (bb:Nat) (wb:Nat) (lv:Nat) (ev:Value) (n:Nat) (j:Nat):Prop where
 size:a.tmps.size=172
 dfr:a.defers=[]
 s1:a.tmps[1]? =some (.pointer (some ⟨bb,0,none⟩))
 s3:a.tmps[3]? =some (.pointer (some ⟨wb,0,none⟩))
 s5:a.tmps[5]? =some (.int .i64 (lv:Int))
 s60:a.tmps[60]? =some (ev)
 s61:a.tmps[61]? =some (.int .i64 (n:Int))
 s62:a.tmps[62]? =some (.int .i64 (j:Int))
theorem TwE.shape {a:Act} {bb:Nat} {wb:Nat} {lv:Nat} {ev:Value} {n:Nat} {j:Nat} (h:TwE a bb wb lv ev n j):∃v:Nat→Value,a=⟨#[v 0,.pointer (some ⟨bb,0,none⟩),v 2,.pointer (some ⟨wb,0,none⟩),v 4,.int .i64 (lv:Int),v 6,v 7,v 8,v 9,v 10,v 11,v 12,v 13,v 14,v 15,v 16,v 17,v 18,v 19,v 20,v 21,v 22,v 23,v 24,v 25,v 26,v 27,v 28,v 29,v 30,v 31,v 32,v 33,v 34,v 35,v 36,v 37,v 38,v 39,v 40,v 41,v 42,v 43,v 44,v 45,v 46,v 47,v 48,v 49,v 50,v 51,v 52,v 53,v 54,v 55,v 56,v 57,v 58,v 59,ev,.int .i64 (n:Int),.int .i64 (j:Int),v 63,v 64,v 65,v 66,v 67,v 68,v 69,v 70,v 71,v 72,v 73,v 74,v 75,v 76,v 77,v 78,v 79,v 80,v 81,v 82,v 83,v 84,v 85,v 86,v 87,v 88,v 89,v 90,v 91,v 92,v 93,v 94,v 95,v 96,v 97,v 98,v 99,v 100,v 101,v 102,v 103,v 104,v 105,v 106,v 107,v 108,v 109,v 110,v 111,v 112,v 113,v 114,v 115,v 116,v 117,v 118,v 119,v 120,v 121,v 122,v 123,v 124,v 125,v 126,v 127,v 128,v 129,v 130,v 131,v 132,v 133,v 134,v 135,v 136,v 137,v 138,v 139,v 140,v 141,v 142,v 143,v 144,v 145,v 146,v 147,v 148,v 149,v 150,v 151,v 152,v 153,v 154,v 155,v 156,v 157,v 158,v 159,v 160,v 161,v 162,v 163,v 164,v 165,v 166,v 167,v 168,v 169,v 170,v 171],[]⟩:=by
 obtain ⟨v,hv,hd⟩:=tw_act a h.size h.dfr;have e1:=hv 1 _ h.s1;have e3:=hv 3 _ h.s3;have e5:=hv 5 _ h.s5;have e60:=hv 60 _ h.s60;have e61:=hv 61 _ h.s61;have e62:=hv 62 _ h.s62;refine ⟨v,?_⟩;rw[hd];simp only[e1,e3,e5,e60,e61,e62]
structure TwEs (a:Act) (bb:Nat) (wb:Nat) (lv:Nat) (ev:Value) (n:Nat) (j:Nat) (sx:ByteArray):Prop where
 size:a.tmps.size=172
 dfr:a.defers=[]
 s1:a.tmps[1]? =some (.pointer (some ⟨bb,0,none⟩))
 s3:a.tmps[3]? =some (.pointer (some ⟨wb,0,none⟩))
 s5:a.tmps[5]? =some (.int .i64 (lv:Int))
 s7:a.tmps[7]? =some (.string sx)
 s60:a.tmps[60]? =some (ev)
 s61:a.tmps[61]? =some (.int .i64 (n:Int))
 s62:a.tmps[62]? =some (.int .i64 (j:Int))
theorem TwEs.shape {a:Act} {bb:Nat} {wb:Nat} {lv:Nat} {ev:Value} {n:Nat} {j:Nat} {sx:ByteArray} (h:TwEs a bb wb lv ev n j sx):∃v:Nat→Value,a=⟨#[v 0,.pointer (some ⟨bb,0,none⟩),v 2,.pointer (some ⟨wb,0,none⟩),v 4,.int .i64 (lv:Int),v 6,.string sx,v 8,v 9,v 10,v 11,v 12,v 13,v 14,v 15,v 16,v 17,v 18,v 19,v 20,v 21,v 22,v 23,v 24,v 25,v 26,v 27,v 28,v 29,v 30,v 31,v 32,v 33,v 34,v 35,v 36,v 37,v 38,v 39,v 40,v 41,v 42,v 43,v 44,v 45,v 46,v 47,v 48,v 49,v 50,v 51,v 52,v 53,v 54,v 55,v 56,v 57,v 58,v 59,ev,.int .i64 (n:Int),.int .i64 (j:Int),v 63,v 64,v 65,v 66,v 67,v 68,v 69,v 70,v 71,v 72,v 73,v 74,v 75,v 76,v 77,v 78,v 79,v 80,v 81,v 82,v 83,v 84,v 85,v 86,v 87,v 88,v 89,v 90,v 91,v 92,v 93,v 94,v 95,v 96,v 97,v 98,v 99,v 100,v 101,v 102,v 103,v 104,v 105,v 106,v 107,v 108,v 109,v 110,v 111,v 112,v 113,v 114,v 115,v 116,v 117,v 118,v 119,v 120,v 121,v 122,v 123,v 124,v 125,v 126,v 127,v 128,v 129,v 130,v 131,v 132,v 133,v 134,v 135,v 136,v 137,v 138,v 139,v 140,v 141,v 142,v 143,v 144,v 145,v 146,v 147,v 148,v 149,v 150,v 151,v 152,v 153,v 154,v 155,v 156,v 157,v 158,v 159,v 160,v 161,v 162,v 163,v 164,v 165,v 166,v 167,v 168,v 169,v 170,v 171],[]⟩:=by
 obtain ⟨v,hv,hd⟩:=tw_act a h.size h.dfr;have e1:=hv 1 _ h.s1;have e3:=hv 3 _ h.s3;have e5:=hv 5 _ h.s5;have e7:=hv 7 _ h.s7;have e60:=hv 60 _ h.s60;have e61:=hv 61 _ h.s61;have e62:=hv 62 _ h.s62;refine ⟨v,?_⟩;rw[hd];simp only[e1,e3,e5,e7,e60,e61,e62]
structure TwT (a:Act) (bb:Nat) (wb:Nat) (lv:Nat) (ev:Value) (n:Nat) (j:Nat):Prop where
 size:a.tmps.size=172
 dfr:a.defers=[]
 s1:a.tmps[1]? =some (.pointer (some ⟨bb,0,none⟩))
 s3:a.tmps[3]? =some (.pointer (some ⟨wb,0,none⟩))
 s8:a.tmps[8]? =some (.int .i64 (lv:Int))
 s79:a.tmps[79]? =some (ev)
 s80:a.tmps[80]? =some (.int .i64 (n:Int))
 s81:a.tmps[81]? =some (.int .i64 (j:Int))
theorem TwT.shape {a:Act} {bb:Nat} {wb:Nat} {lv:Nat} {ev:Value} {n:Nat} {j:Nat} (h:TwT a bb wb lv ev n j):∃v:Nat→Value,a=⟨#[v 0,.pointer (some ⟨bb,0,none⟩),v 2,.pointer (some ⟨wb,0,none⟩),v 4,v 5,v 6,v 7,.int .i64 (lv:Int),v 9,v 10,v 11,v 12,v 13,v 14,v 15,v 16,v 17,v 18,v 19,v 20,v 21,v 22,v 23,v 24,v 25,v 26,v 27,v 28,v 29,v 30,v 31,v 32,v 33,v 34,v 35,v 36,v 37,v 38,v 39,v 40,v 41,v 42,v 43,v 44,v 45,v 46,v 47,v 48,v 49,v 50,v 51,v 52,v 53,v 54,v 55,v 56,v 57,v 58,v 59,v 60,v 61,v 62,v 63,v 64,v 65,v 66,v 67,v 68,v 69,v 70,v 71,v 72,v 73,v 74,v 75,v 76,v 77,v 78,ev,.int .i64 (n:Int),.int .i64 (j:Int),v 82,v 83,v 84,v 85,v 86,v 87,v 88,v 89,v 90,v 91,v 92,v 93,v 94,v 95,v 96,v 97,v 98,v 99,v 100,v 101,v 102,v 103,v 104,v 105,v 106,v 107,v 108,v 109,v 110,v 111,v 112,v 113,v 114,v 115,v 116,v 117,v 118,v 119,v 120,v 121,v 122,v 123,v 124,v 125,v 126,v 127,v 128,v 129,v 130,v 131,v 132,v 133,v 134,v 135,v 136,v 137,v 138,v 139,v 140,v 141,v 142,v 143,v 144,v 145,v 146,v 147,v 148,v 149,v 150,v 151,v 152,v 153,v 154,v 155,v 156,v 157,v 158,v 159,v 160,v 161,v 162,v 163,v 164,v 165,v 166,v 167,v 168,v 169,v 170,v 171],[]⟩:=by
 obtain ⟨v,hv,hd⟩:=tw_act a h.size h.dfr;have e1:=hv 1 _ h.s1;have e3:=hv 3 _ h.s3;have e8:=hv 8 _ h.s8;have e79:=hv 79 _ h.s79;have e80:=hv 80 _ h.s80;have e81:=hv 81 _ h.s81;refine ⟨v,?_⟩;rw[hd];simp only[e1,e3,e8,e79,e80,e81]
structure TwTb (a:Act) (bb:Nat) (wb:Nat) (lv:Nat) (ev:Value) (n:Nat) (j:Nat) (tb:Nat):Prop where
 size:a.tmps.size=172
 dfr:a.defers=[]
 s1:a.tmps[1]? =some (.pointer (some ⟨bb,0,none⟩))
 s3:a.tmps[3]? =some (.pointer (some ⟨wb,0,none⟩))
 s8:a.tmps[8]? =some (.int .i64 (lv:Int))
 s10:a.tmps[10]? =some (.pointer (some ⟨tb,0,none⟩))
 s79:a.tmps[79]? =some (ev)
 s80:a.tmps[80]? =some (.int .i64 (n:Int))
 s81:a.tmps[81]? =some (.int .i64 (j:Int))
theorem TwTb.shape {a:Act} {bb:Nat} {wb:Nat} {lv:Nat} {ev:Value} {n:Nat} {j:Nat} {tb:Nat} (h:TwTb a bb wb lv ev n j tb):∃v:Nat→Value,a=⟨#[v 0,.pointer (some ⟨bb,0,none⟩),v 2,.pointer (some ⟨wb,0,none⟩),v 4,v 5,v 6,v 7,.int .i64 (lv:Int),v 9,.pointer (some ⟨tb,0,none⟩),v 11,v 12,v 13,v 14,v 15,v 16,v 17,v 18,v 19,v 20,v 21,v 22,v 23,v 24,v 25,v 26,v 27,v 28,v 29,v 30,v 31,v 32,v 33,v 34,v 35,v 36,v 37,v 38,v 39,v 40,v 41,v 42,v 43,v 44,v 45,v 46,v 47,v 48,v 49,v 50,v 51,v 52,v 53,v 54,v 55,v 56,v 57,v 58,v 59,v 60,v 61,v 62,v 63,v 64,v 65,v 66,v 67,v 68,v 69,v 70,v 71,v 72,v 73,v 74,v 75,v 76,v 77,v 78,ev,.int .i64 (n:Int),.int .i64 (j:Int),v 82,v 83,v 84,v 85,v 86,v 87,v 88,v 89,v 90,v 91,v 92,v 93,v 94,v 95,v 96,v 97,v 98,v 99,v 100,v 101,v 102,v 103,v 104,v 105,v 106,v 107,v 108,v 109,v 110,v 111,v 112,v 113,v 114,v 115,v 116,v 117,v 118,v 119,v 120,v 121,v 122,v 123,v 124,v 125,v 126,v 127,v 128,v 129,v 130,v 131,v 132,v 133,v 134,v 135,v 136,v 137,v 138,v 139,v 140,v 141,v 142,v 143,v 144,v 145,v 146,v 147,v 148,v 149,v 150,v 151,v 152,v 153,v 154,v 155,v 156,v 157,v 158,v 159,v 160,v 161,v 162,v 163,v 164,v 165,v 166,v 167,v 168,v 169,v 170,v 171],[]⟩:=by
 obtain ⟨v,hv,hd⟩:=tw_act a h.size h.dfr;have e1:=hv 1 _ h.s1;have e3:=hv 3 _ h.s3;have e8:=hv 8 _ h.s8;have e10:=hv 10 _ h.s10;have e79:=hv 79 _ h.s79;have e80:=hv 80 _ h.s80;have e81:=hv 81 _ h.s81;refine ⟨v,?_⟩;rw[hd];simp only[e1,e3,e8,e10,e79,e80,e81]
structure TwTk (a:Act) (bb:Nat) (wb:Nat) (lv:Nat) (ev:Value) (n:Nat) (j:Nat) (tb:Nat) (k:Nat):Prop where
 size:a.tmps.size=172
 dfr:a.defers=[]
 s1:a.tmps[1]? =some (.pointer (some ⟨bb,0,none⟩))
 s3:a.tmps[3]? =some (.pointer (some ⟨wb,0,none⟩))
 s8:a.tmps[8]? =some (.int .i64 (lv:Int))
 s10:a.tmps[10]? =some (.pointer (some ⟨tb,0,none⟩))
 s11:a.tmps[11]? =some (.int .i64 (k:Int))
 s79:a.tmps[79]? =some (ev)
 s80:a.tmps[80]? =some (.int .i64 (n:Int))
 s81:a.tmps[81]? =some (.int .i64 (j:Int))
theorem TwTk.shape {a:Act} {bb:Nat} {wb:Nat} {lv:Nat} {ev:Value} {n:Nat} {j:Nat} {tb:Nat} {k:Nat} (h:TwTk a bb wb lv ev n j tb k):∃v:Nat→Value,a=⟨#[v 0,.pointer (some ⟨bb,0,none⟩),v 2,.pointer (some ⟨wb,0,none⟩),v 4,v 5,v 6,v 7,.int .i64 (lv:Int),v 9,.pointer (some ⟨tb,0,none⟩),.int .i64 (k:Int),v 12,v 13,v 14,v 15,v 16,v 17,v 18,v 19,v 20,v 21,v 22,v 23,v 24,v 25,v 26,v 27,v 28,v 29,v 30,v 31,v 32,v 33,v 34,v 35,v 36,v 37,v 38,v 39,v 40,v 41,v 42,v 43,v 44,v 45,v 46,v 47,v 48,v 49,v 50,v 51,v 52,v 53,v 54,v 55,v 56,v 57,v 58,v 59,v 60,v 61,v 62,v 63,v 64,v 65,v 66,v 67,v 68,v 69,v 70,v 71,v 72,v 73,v 74,v 75,v 76,v 77,v 78,ev,.int .i64 (n:Int),.int .i64 (j:Int),v 82,v 83,v 84,v 85,v 86,v 87,v 88,v 89,v 90,v 91,v 92,v 93,v 94,v 95,v 96,v 97,v 98,v 99,v 100,v 101,v 102,v 103,v 104,v 105,v 106,v 107,v 108,v 109,v 110,v 111,v 112,v 113,v 114,v 115,v 116,v 117,v 118,v 119,v 120,v 121,v 122,v 123,v 124,v 125,v 126,v 127,v 128,v 129,v 130,v 131,v 132,v 133,v 134,v 135,v 136,v 137,v 138,v 139,v 140,v 141,v 142,v 143,v 144,v 145,v 146,v 147,v 148,v 149,v 150,v 151,v 152,v 153,v 154,v 155,v 156,v 157,v 158,v 159,v 160,v 161,v 162,v 163,v 164,v 165,v 166,v 167,v 168,v 169,v 170,v 171],[]⟩:=by
 obtain ⟨v,hv,hd⟩:=tw_act a h.size h.dfr;have e1:=hv 1 _ h.s1;have e3:=hv 3 _ h.s3;have e8:=hv 8 _ h.s8;have e10:=hv 10 _ h.s10;have e11:=hv 11 _ h.s11;have e79:=hv 79 _ h.s79;have e80:=hv 80 _ h.s80;have e81:=hv 81 _ h.s81;refine ⟨v,?_⟩;rw[hd];simp only[e1,e3,e8,e10,e11,e79,e80,e81]
structure TwU (a:Act) (bb:Nat) (wb:Nat) (lv:Nat) (ev:Value) (n:Nat) (j:Nat):Prop where
 size:a.tmps.size=172
 dfr:a.defers=[]
 s1:a.tmps[1]? =some (.pointer (some ⟨bb,0,none⟩))
 s3:a.tmps[3]? =some (.pointer (some ⟨wb,0,none⟩))
 s12:a.tmps[12]? =some (.int .i64 (lv:Int))
 s129:a.tmps[129]? =some (ev)
 s130:a.tmps[130]? =some (.int .i64 (n:Int))
 s131:a.tmps[131]? =some (.int .i64 (j:Int))
theorem TwU.shape {a:Act} {bb:Nat} {wb:Nat} {lv:Nat} {ev:Value} {n:Nat} {j:Nat} (h:TwU a bb wb lv ev n j):∃v:Nat→Value,a=⟨#[v 0,.pointer (some ⟨bb,0,none⟩),v 2,.pointer (some ⟨wb,0,none⟩),v 4,v 5,v 6,v 7,v 8,v 9,v 10,v 11,.int .i64 (lv:Int),v 13,v 14,v 15,v 16,v 17,v 18,v 19,v 20,v 21,v 22,v 23,v 24,v 25,v 26,v 27,v 28,v 29,v 30,v 31,v 32,v 33,v 34,v 35,v 36,v 37,v 38,v 39,v 40,v 41,v 42,v 43,v 44,v 45,v 46,v 47,v 48,v 49,v 50,v 51,v 52,v 53,v 54,v 55,v 56,v 57,v 58,v 59,v 60,v 61,v 62,v 63,v 64,v 65,v 66,v 67,v 68,v 69,v 70,v 71,v 72,v 73,v 74,v 75,v 76,v 77,v 78,v 79,v 80,v 81,v 82,v 83,v 84,v 85,v 86,v 87,v 88,v 89,v 90,v 91,v 92,v 93,v 94,v 95,v 96,v 97,v 98,v 99,v 100,v 101,v 102,v 103,v 104,v 105,v 106,v 107,v 108,v 109,v 110,v 111,v 112,v 113,v 114,v 115,v 116,v 117,v 118,v 119,v 120,v 121,v 122,v 123,v 124,v 125,v 126,v 127,v 128,ev,.int .i64 (n:Int),.int .i64 (j:Int),v 132,v 133,v 134,v 135,v 136,v 137,v 138,v 139,v 140,v 141,v 142,v 143,v 144,v 145,v 146,v 147,v 148,v 149,v 150,v 151,v 152,v 153,v 154,v 155,v 156,v 157,v 158,v 159,v 160,v 161,v 162,v 163,v 164,v 165,v 166,v 167,v 168,v 169,v 170,v 171],[]⟩:=by
 obtain ⟨v,hv,hd⟩:=tw_act a h.size h.dfr;have e1:=hv 1 _ h.s1;have e3:=hv 3 _ h.s3;have e12:=hv 12 _ h.s12;have e129:=hv 129 _ h.s129;have e130:=hv 130 _ h.s130;have e131:=hv 131 _ h.s131;refine ⟨v,?_⟩;rw[hd];simp only[e1,e3,e12,e129,e130,e131]
structure TwUb (a:Act) (bb:Nat) (wb:Nat) (lv:Nat) (ev:Value) (n:Nat) (j:Nat) (tb:Nat):Prop where
 size:a.tmps.size=172
 dfr:a.defers=[]
 s1:a.tmps[1]? =some (.pointer (some ⟨bb,0,none⟩))
 s3:a.tmps[3]? =some (.pointer (some ⟨wb,0,none⟩))
 s12:a.tmps[12]? =some (.int .i64 (lv:Int))
 s14:a.tmps[14]? =some (.pointer (some ⟨tb,0,none⟩))
 s129:a.tmps[129]? =some (ev)
 s130:a.tmps[130]? =some (.int .i64 (n:Int))
 s131:a.tmps[131]? =some (.int .i64 (j:Int))
theorem TwUb.shape {a:Act} {bb:Nat} {wb:Nat} {lv:Nat} {ev:Value} {n:Nat} {j:Nat} {tb:Nat} (h:TwUb a bb wb lv ev n j tb):∃v:Nat→Value,a=⟨#[v 0,.pointer (some ⟨bb,0,none⟩),v 2,.pointer (some ⟨wb,0,none⟩),v 4,v 5,v 6,v 7,v 8,v 9,v 10,v 11,.int .i64 (lv:Int),v 13,.pointer (some ⟨tb,0,none⟩),v 15,v 16,v 17,v 18,v 19,v 20,v 21,v 22,v 23,v 24,v 25,v 26,v 27,v 28,v 29,v 30,v 31,v 32,v 33,v 34,v 35,v 36,v 37,v 38,v 39,v 40,v 41,v 42,v 43,v 44,v 45,v 46,v 47,v 48,v 49,v 50,v 51,v 52,v 53,v 54,v 55,v 56,v 57,v 58,v 59,v 60,v 61,v 62,v 63,v 64,v 65,v 66,v 67,v 68,v 69,v 70,v 71,v 72,v 73,v 74,v 75,v 76,v 77,v 78,v 79,v 80,v 81,v 82,v 83,v 84,v 85,v 86,v 87,v 88,v 89,v 90,v 91,v 92,v 93,v 94,v 95,v 96,v 97,v 98,v 99,v 100,v 101,v 102,v 103,v 104,v 105,v 106,v 107,v 108,v 109,v 110,v 111,v 112,v 113,v 114,v 115,v 116,v 117,v 118,v 119,v 120,v 121,v 122,v 123,v 124,v 125,v 126,v 127,v 128,ev,.int .i64 (n:Int),.int .i64 (j:Int),v 132,v 133,v 134,v 135,v 136,v 137,v 138,v 139,v 140,v 141,v 142,v 143,v 144,v 145,v 146,v 147,v 148,v 149,v 150,v 151,v 152,v 153,v 154,v 155,v 156,v 157,v 158,v 159,v 160,v 161,v 162,v 163,v 164,v 165,v 166,v 167,v 168,v 169,v 170,v 171],[]⟩:=by
 obtain ⟨v,hv,hd⟩:=tw_act a h.size h.dfr;have e1:=hv 1 _ h.s1;have e3:=hv 3 _ h.s3;have e12:=hv 12 _ h.s12;have e14:=hv 14 _ h.s14;have e129:=hv 129 _ h.s129;have e130:=hv 130 _ h.s130;have e131:=hv 131 _ h.s131;refine ⟨v,?_⟩;rw[hd];simp only[e1,e3,e12,e14,e129,e130,e131]
structure TwUk (a:Act) (bb:Nat) (wb:Nat) (lv:Nat) (ev:Value) (n:Nat) (j:Nat) (tb:Nat) (k:Nat):Prop where
 size:a.tmps.size=172
 dfr:a.defers=[]
 s1:a.tmps[1]? =some (.pointer (some ⟨bb,0,none⟩))
 s3:a.tmps[3]? =some (.pointer (some ⟨wb,0,none⟩))
 s12:a.tmps[12]? =some (.int .i64 (lv:Int))
 s14:a.tmps[14]? =some (.pointer (some ⟨tb,0,none⟩))
 s15:a.tmps[15]? =some (.int .i64 (k:Int))
 s129:a.tmps[129]? =some (ev)
 s130:a.tmps[130]? =some (.int .i64 (n:Int))
 s131:a.tmps[131]? =some (.int .i64 (j:Int))
theorem TwUk.shape {a:Act} {bb:Nat} {wb:Nat} {lv:Nat} {ev:Value} {n:Nat} {j:Nat} {tb:Nat} {k:Nat} (h:TwUk a bb wb lv ev n j tb k):∃v:Nat→Value,a=⟨#[v 0,.pointer (some ⟨bb,0,none⟩),v 2,.pointer (some ⟨wb,0,none⟩),v 4,v 5,v 6,v 7,v 8,v 9,v 10,v 11,.int .i64 (lv:Int),v 13,.pointer (some ⟨tb,0,none⟩),.int .i64 (k:Int),v 16,v 17,v 18,v 19,v 20,v 21,v 22,v 23,v 24,v 25,v 26,v 27,v 28,v 29,v 30,v 31,v 32,v 33,v 34,v 35,v 36,v 37,v 38,v 39,v 40,v 41,v 42,v 43,v 44,v 45,v 46,v 47,v 48,v 49,v 50,v 51,v 52,v 53,v 54,v 55,v 56,v 57,v 58,v 59,v 60,v 61,v 62,v 63,v 64,v 65,v 66,v 67,v 68,v 69,v 70,v 71,v 72,v 73,v 74,v 75,v 76,v 77,v 78,v 79,v 80,v 81,v 82,v 83,v 84,v 85,v 86,v 87,v 88,v 89,v 90,v 91,v 92,v 93,v 94,v 95,v 96,v 97,v 98,v 99,v 100,v 101,v 102,v 103,v 104,v 105,v 106,v 107,v 108,v 109,v 110,v 111,v 112,v 113,v 114,v 115,v 116,v 117,v 118,v 119,v 120,v 121,v 122,v 123,v 124,v 125,v 126,v 127,v 128,ev,.int .i64 (n:Int),.int .i64 (j:Int),v 132,v 133,v 134,v 135,v 136,v 137,v 138,v 139,v 140,v 141,v 142,v 143,v 144,v 145,v 146,v 147,v 148,v 149,v 150,v 151,v 152,v 153,v 154,v 155,v 156,v 157,v 158,v 159,v 160,v 161,v 162,v 163,v 164,v 165,v 166,v 167,v 168,v 169,v 170,v 171],[]⟩:=by
 obtain ⟨v,hv,hd⟩:=tw_act a h.size h.dfr;have e1:=hv 1 _ h.s1;have e3:=hv 3 _ h.s3;have e12:=hv 12 _ h.s12;have e14:=hv 14 _ h.s14;have e15:=hv 15 _ h.s15;have e129:=hv 129 _ h.s129;have e130:=hv 130 _ h.s130;have e131:=hv 131 _ h.s131;refine ⟨v,?_⟩;rw[hd];simp only[e1,e3,e12,e14,e15,e129,e130,e131]
end Go.Proofs.YtfenoaeoedobmaaGreatDoor
